/- Walks of functions that the claim reaches, and plain facts of them. Conditions: those in the statements. -/
import Derived.Test.YtohnaepcgnbaiaaGreatDoorJkRp
import Derived.Test.YtohnaepcgnbaiaaGreatDoorJkRmj
import Derived.Laws.RangeAny
set_option linter.unusedSimpArgs false
set_option linter.unusedVariables false
set_option maxRecDepth 100000
namespace Go.Proofs.YtohnaepcgnbaiaaGreatDoor
open Go.RowKit
def sZ (l:List UInt8):Bool:=(decide (l≠[]) && decide (l.length<=16)) && l.all tS
theorem sU {c:Nat}(h:128<=c):jM c=true:=by
 simp only[jM,Bool.and_eq_true,Bool.or_eq_true,decide_eq_true_eq]
 omega
theorem zTo (s:ByteArray):∀(f pos:Nat),s.size - pos<=f->(Lib.idxFuncFrom jM true s f pos<0↔∀(j:Nat) (b:UInt8),pos<=j->s.data.toList[j]?=some b->tS b=true)
 |0,pos,h=>by
  have hsz:s.data.toList.length=s.size:=by rw[Array.length_toList];rfl
  constructor
  ·intro _ j b hj hb
   have:=(x_.1 hb).1
   omega
  ·intro _;unfold Lib.idxFuncFrom;omega
 |f+1,pos,h=>by
  have hsz:s.data.toList.length=s.size:=by rw[Array.length_toList];rfl
  unfold Lib.idxFuncFrom
  by_cases hp:pos<s.size
  ·rw[if_pos hp]
   have hb:s.data.toList[pos]?=some (s[pos]'hp):=by
    rw[m_ (by omega)]
    rfl
   by_cases hhi:128<=(s[pos]'hp).toNat
   ·obtain⟨h1,h2⟩:=_root_.Go.decode_high s pos hp hhi
    rw[if_pos (sU h1)]
    constructor
    ·intro h;omega
    ·intro h
     have:=h pos _ (Nat.le_refl _) hb
     simp only[tS,sU hhi]at this
     cases this
   ·have hd:=_root_.Go.decode_ascii s pos hp (by omega)
    rw[hd]
    by_cases ho:jM (s[pos]'hp).toNat=true
    ·rw[if_pos ho]
     constructor
     ·intro h;omega
     ·intro h
      have:=h pos _ (Nat.le_refl _) hb
      simp only[tS,ho]at this
      cases this
    ·rw[if_neg ho,zTo s f (pos+1) (by omega)]
     constructor
     ·intro h j b hj hjb
      by_cases e:j=pos
      ·subst e
       rw[hb]at hjb
       injection hjb with hjb
       subst hjb
       simp only[tS]
       simpa using ho
      ·exact h j b (by omega) hjb
     ·intro h j b hj hjb
      exact h j b (by omega) hjb
  ·rw[if_neg hp]
   constructor
   ·intro _ j b hj hb
    have:=(x_.1 hb).1
    omega
   ·intro _;omega
theorem EN (l:List UInt8):Lib.idxFunc jM true ⟨l.toArray⟩<0↔l.all tS=true:=by
 unfold Lib.idxFunc
 rw[zTo _ _ _ (by omega),List.all_eq_true]
 constructor
 ·intro h b hb
  obtain⟨j,hj⟩:=d_.1 hb
  exact h j b (Nat.zero_le _) (by simpa using hj)
 ·intro h j b _ hj
  exact h b (y_ (by simpa using hj))
theorem MZ (s:St)(l:List UInt8):SRet Tryz.prog 159 [.str l,.fn 158 []] s (.int .i64 (Lib.idxFunc jM true ⟨l.toArray⟩)) s:=by
 intro w0 G w vs hS hA
 obtain⟨v1,v2,rfl,r1,r2⟩:=lz hA
 cases r1 with
 |str a=>
 cases r2 with
 |fn f vs xs hs hR=>
 have hv:vs=#[]:=by
  have:vs.size=0:=hs
  exact Array.eq_empty_of_size_eq_zero this
 subst hv
 refine(EM ⟨a⟩ w).mono ?_
 rintro e w' ⟨rfl,hb⟩
 exact⟨G,s,.ret (.int .i64 (Lib.idxFunc jM true ⟨a⟩)),Gh.le.refl G,hS.world hb,.int _ _,by simp,rfl⟩
set_option maxHeartbeats 2000000 in
theorem Fv (s:St)(l:List UInt8):SRet Tryz.prog 119 [.str l] s (.bool (sZ l)) s:=by
 have w1:=MZ s l
 have h1:=EN l
 generalize Lib.idxFunc jM true ⟨l.toArray⟩=ix at *
 unfold sZ
 have h2:l.all tS=decide (ix<0):=by
  by_cases e:ix<0
  ·rw[h1.1 e];simp[e]
  ·have:l.all tS≠true:=fun h=>e (h1.2 h)
   simp only[Bool.not_eq_true]at this
   rw[this];simp[e]
 rw[h2]
 clear h1 h2
 by_cases h3:l=[]
 ·subst h3
  refine am Tryz.func119 rfl Tryz.ntmps119 rfl fun Q hQ hQe=>?_
  (repeat'(first|refine Ctl ?_|((with_reducible refine k_ hK ?_);clear hK hE K E)|(((with_reducible refine ab fun K E hK hE=>?_))<;>(try simp(disch:=omega) only[go_sem,seval, *]))))
  all_goals(refine aq qW hQ ?_)
  all_goals exact⟨_,_,Wk.refl _,Fg.refl _,rfl,rfl⟩
 ·by_cases h4:l.length<=16
  ·have h4':((l.length:Nat):Int)<=16:=by omega
   have e3:decide (l≠[])=true:=decide_eq_true h3
   have e4:decide (l.length<=16)=true:=decide_eq_true h4
   rw[e3,e4]
   clear e3 e4 h4
   refine am Tryz.func119 rfl Tryz.ntmps119 rfl fun Q hQ hQe=>?_
   (repeat'(first|refine Ctl ?_|((with_reducible refine k_ hK ?_);clear hK hE K E)|(((with_reducible first|refine ab fun K E hK hE=>?_|refine ae Mf (w1) ?_))<;>(try simp(disch:=omega) only[go_sem,seval,h3,h4', *]))))
   all_goals(refine aq qW hQ ?_)
   all_goals exact⟨_,_,Wk.refl _,Fg.refl _,by simp,rfl⟩
  ·have h4':¬ ((l.length:Nat):Int)<=16:=by omega
   have e3:decide (l≠[])=true:=decide_eq_true h3
   have e4:decide (l.length<=16)=false:=decide_eq_false h4
   rw[e3,e4]
   clear e3 e4 h4
   refine am Tryz.func119 rfl Tryz.ntmps119 rfl fun Q hQ hQe=>?_
   (repeat'(first|refine Ctl ?_|((with_reducible refine k_ hK ?_);clear hK hE K E)|(((with_reducible refine ab fun K E hK hE=>?_))<;>(try simp(disch:=omega) only[go_sem,seval,h3,h4', *]))))
   all_goals(refine aq qW hQ ?_)
   all_goals exact⟨_,_,Wk.refl _,Fg.refl _,by simp,rfl⟩
def fk:Nat->Nat->Nat
 |0,_=>0
 |f+1,m=>if m=0 then 0 else fk f (m / 2)+1
theorem jZ:∀(f m:Nat),fk f m<=f
 |0,_=>Nat.le_refl _
 |f+1,m=>by
  unfold fk
  split
  ·omega
  ·have:=jZ f (m / 2);omega
theorem qA:∀(f m:Nat),m<2 ^ f->m<2 ^ fk f m
 |0,m,h=>h
 |f+1,m,h=>by
  unfold fk
  split
  ·omega
  ·have:=qA f (m / 2) (by rw[Nat.pow_succ]at h;omega)
   rw[Nat.pow_succ]
   omega
def cd (n:Nat):Nat:=fk 62 (n - 1)
attribute [-go_sem] bJ cX bH bG
set_option maxHeartbeats 2000000 in
theorem Cy (s:St)(n:Int):SRet Tryz.prog 118 [.int .i64 n] s (.tup (if 1<=n/\n<=4611686018427387903 then [.int .i64 (cd n.toNat:Nat),.int .i64 0] else [.int .i64 0,.int .i64 1])) s:=by
 by_cases h1:n<1
 ·rw[if_neg (by omega)]
  refine am Tryz.func118 rfl Tryz.ntmps118 rfl fun Q hQ hQe=>?_
  (repeat'(first|refine Ctl ?_|((with_reducible refine k_ hK ?_);clear hK hE K E)|((with_reducible refine ah (fun h=>?_) (fun h=>?_))<;>(try(exfalso;assumption)))|(((with_reducible refine ab fun K E hK hE=>?_))<;>(try simp(disch:=omega) only[go_sem,seval,h1, *]))))
  all_goals(refine aq qX hQ ?_)
  all_goals exact⟨_,_,Wk.refl _,Fg.refl _,rfl,rfl⟩
 ·by_cases h2:n > 4611686018427387903
  ·rw[if_neg (by omega)]
   refine am Tryz.func118 rfl Tryz.ntmps118 rfl fun Q hQ hQe=>?_
   (repeat'(first|refine Ctl ?_|((with_reducible refine k_ hK ?_);clear hK hE K E)|((with_reducible refine ah (fun h=>?_) (fun h=>?_))<;>(try(exfalso;assumption)))|(((with_reducible refine ab fun K E hK hE=>?_))<;>(try simp(disch:=omega) only[go_sem,seval,h1,h2, *]))))
   all_goals(refine aq qX hQ ?_)
   all_goals exact⟨_,_,Wk.refl _,Fg.refl _,rfl,rfl⟩
  ·rw[if_pos (by omega)]
   obtain⟨m,rfl⟩:∃m:Nat,n=((m+1:Nat):Int):=⟨n.toNat - 1,by omega⟩
   have e0:cd (((m+1:Nat):Int)).toNat=fk 62 m:=by simp[cd]
   rw[e0]
   clear e0
   have hm:m<2 ^ 62:=by omega
   have e1:(((m+1:Nat):Int)) - 1=(m:Int):=by omega
   have hH:Hid (∃f:Nat,f<=62):=o_ ⟨62,by omega⟩
   obtain⟨R,hR⟩:∃R,fk 62 m=R:=⟨_,rfl⟩
   rw[hR]
   have hR2:Hid (fk 62 m+0=R):=o_ hR
   have HRl:=o_ (show R<=62 by rw[<- hR];exact jZ _ _)
   clear hR
   refine am Tryz.func118 rfl Tryz.ntmps118 rfl fun Q hQ hQe=>?_
   (repeat'(first|refine Ctl ?_|((with_reducible refine k_ hK ?_);clear hK hE K E)|((with_reducible refine ah (fun h=>?_) (fun h=>?_))<;>(try(exfalso;assumption)))|(((with_reducible refine ab fun K E hK hE=>?_))<;>(try simp(disch:=omega) only[go_sem,seval,h1,h2,e1, *]))))
   refine aY (fun fu env s'=>∃(k w:Nat),Hid (fk fu k+w=R/\k<2 ^ fu)/\fu<=62/\s'=s/\env 4=.int .i64 w/\env 5=.int .i64 k) 62 ⟨m,0,o_ ⟨hR2.out,hm⟩,by omega,rfl,ac,ac⟩ ?_
   clear hm h1 h2 e1 hR2 hH
   rintro fu env s' ⟨k,w,HH,hfu,rfl,e4,e5⟩
   have hRl:=HRl.out
   obtain⟨a1,a2⟩:=HH.out
   by_cases hk:k=0
   ·subst hk
    have hw:w=R:=by
     cases fu with
     |zero=>simpa [fk]using a1
     |succ f=>simpa [fk]using a1
    subst hw
    (repeat'(first|refine Ctl ?_|((with_reducible refine k_ hK ?_);clear hK hE K E)|((with_reducible refine ah (fun h=>?_) (fun h=>?_))<;>(try(exfalso;assumption)))|(((with_reducible refine ab fun K E hK hE=>?_))<;>(try simp(disch:=omega) only[go_sem,seval, *]))))
    all_goals(refine aq qX hQ ?_)
    all_goals exact⟨_,_,Wk.refl _,Fg.refl _,rfl,rfl⟩
   ·cases fu with
    |zero=>exact absurd a2 (by simpa using hk)
    |succ f=>
     have a3:fk f (k / 2)+(w+1)=R:=by
      simp only[fk,if_neg hk]at a1
      omega
     have a4:k / 2<2 ^ f:=by rw[Nat.pow_succ]at a2;omega
     have hwl:w+1<=62:=by omega
     have hk62:k<2 ^ 62:=Nat.lt_of_lt_of_le a2 (Nat.pow_le_pow_right (by omega) hfu)
     have hsh:=wH (m:=k) (w:=1) hk62 (by omega)
     have hkp:(k:Int) > 0:=by omega
     have hkp2:(0:Int)<(k:Int):=by omega
     rw[Nat.pow_one]at hsh
     have hsh:bF .shr .i64 (k:Int) 1=some (.int .i64 ((k / 2:Nat):Int)):=hsh
     have hfd:(k:Int).fdiv (2 ^ min (Int.toNat 1) IntKind.i64.bits)=((k / 2:Nat):Int):=by
      have:bF .shr .i64 (k:Int) 1=some (.int .i64 ((k:Int).fdiv (2 ^ min (Int.toNat 1) IntKind.i64.bits))):=rfl
      rw[this]at hsh
      injection hsh with hsh
      injection hsh with _ hsh
     have H2:=o_ (And.intro a3 a4)
     have hk2:k / 2<=k:=Nat.div_le_self _ _
     clear a1 a2 a3 a4 HH
     generalize k / 2=kk at *
     (repeat'(first|refine Ctl ?_|((with_reducible refine k_ hK ?_);clear hK hE K E)|((with_reducible refine ah (fun h=>?_) (fun h=>?_))<;>(try(exfalso;assumption)))|(((with_reducible refine ab fun K E hK hE=>?_))<;>(try simp(disch:=omega) only[go_sem,seval,hkp,hkp2,hsh,hfd, *]))))
     all_goals exact⟨f,by omega,kk,w+1,H2,by omega,rfl,ac,ac⟩
end Go.Proofs.YtohnaepcgnbaiaaGreatDoor
namespace Go.Proofs.YtohnaepcgnbaiaaGreatDoor
open Go.RowKit
abbrev Dm:=List UInt8×Int
def cH (ds:List Dm):List (List VV):=ds.map fun d=>[.str d.1,.int .i64 d.2]
theorem iM {ds:List Dm}:(cH ds).length=ds.length:=by simp[cH]
theorem tD {ds:List Dm}{i:Nat}{d:Dm}(h:ds[i]?=some d):(cH ds)[i]?=some [.str d.1,.int .i64 d.2]:=by simp[cH,h]
def fj (l:List (List UInt8)):List (List UInt8×Bool):=l.map fun k=>(k,true)
theorem si {k:List UInt8}:∀{l:List (List UInt8)},(lkA k (fj l)).getD false=decide (k∈l)
 |[]=>rfl
 |a::l=>by
  have ih:=si (k:=k) (l:=l)
  simp only[fj,List.map_cons,lkA]at ih ⊢
  by_cases h:k=a
  ·subst h;simp
  ·rw[if_neg h,ih]
   simp[h]
theorem sh {k:List UInt8}:∀{l:List (List UInt8)},k∉l->ptA k true (fj l)=fj (l++[k])
 |[],_=>rfl
 |a::l,h=>by
  have ih:=sh (k:=k) (l:=l) fun h2=>h (List.mem_cons_of_mem _ h2)
  simp only[fj,List.map_cons,ptA,List.cons_append]at ih ⊢
  rw[if_neg (fun e=>h (by rw[e];exact List.mem_cons_self ..)),ih]
def okD (sn:List (List UInt8))(d:Dm):Bool:=((decide (1<=d.2) && decide (d.2<=1073741824)) && sZ d.1) && !decide (d.1∈sn)
def ms:List (List UInt8)->List Dm->Bool
 |_,[]=>true
 |sn,d::r=>okD sn d && ms (sn++[d.1]) r
def wdL (ds:List Dm):List Nat:=ds.map fun d=>cd d.2.toNat
def wdR (ds:List Dm):List VV:=if ms [] ds=true then [.lst (ak (wdL ds)) .no,.int .i64 ((wdL ds).sum:Nat),.bool (decide ((wdL ds).sum<=256) && decide (ds.length<=32))] else [.lst [] .no,.int .i64 0,.bool false]
theorem Wk.tupW {xs:List (List VV)}{o:Own}{a c:VV}:Wk (.tup [.lst xs o,a,c]) (.tup [.lst xs .no,a,c]):=
 .tup rfl fun j x y hx hy=>by
  match j with
  |0=>simp at hx hy;subst hx;subst hy;exact .lst _ _
  |1=>simp at hx hy;subst hx;subst hy;exact .refl _
  |2=>simp at hx hy;subst hx;subst hy;exact .refl _
  |j+3=>simp at hx
set_option maxHeartbeats 16000000 in
theorem lB (s:St)(ds:List Dm)(ow:Own)(hl:ds.length<=1000000)(hnl:∀d,d∈ds->d.1.length<=1000000000):SRet Tryz.prog 93 [.lst (cH ds) ow] s (.tup (wdR ds)) s:=by
 have hat:=fun i d h=>tD (ds:=ds) (i:=i) (d:=d) h
 have hln:=iM (ds:=ds)
 obtain⟨R,hR⟩:∃R,wdR ds=R:=⟨_,rfl⟩
 rw[hR]
 have HR:=o_ hR
 have HAT:=o_ hat
 have HNL:=o_ hnl
 clear hR hat hnl
 generalize cH ds=D at *
 have hz0:fj []=[]:=rfl
 refine am Tryz.func93 rfl Tryz.ntmps93 rfl fun Q hQ hQe=>?_
 (repeat'(first|refine Ctl ?_|((with_reducible refine k_ hK ?_);clear hK hE K E)|((first|(with_reducible refine ab fun K E hK hE=>?_)|((with_reducible refine au (fun b hb=>?_))))<;>(try simp(disch:=omega) only[go_sem,seval,hln, *]))))
 obtain⟨bm,hbm⟩:∃z,z=b:=⟨_,rfl⟩
 subst hbm
 have HBM:=o_ hb
 refine bV (fun m env s'=>∃(i:Nat) (o:Own),i<=ds.length/\m+i=ds.length/\Hid (ms [] ds=ms ((ds.take i).map (·.1)) (ds.drop i)/\(wdL (ds.take i)).sum<=62 * i)/\OwnOk s o i/\cq o bm/\s'=(s.own o 3 1 i).set bm (.map (mpV bP (fj ((ds.take i).map (·.1)))))/\env 0=.lst D ow/\env 2=.lst (ak (wdL (ds.take i))) o/\env 3=.int .i64 ((wdL (ds.take i)).sum:Nat)/\env 5=.mp bm/\env 11=.lst D ow/\env 12=.int .i64 ds.length/\env 13=.int .i64 i) ds.length ?_ ?_
 ·exact⟨_,Fg.refl _,0,.full,by omega,by omega,o_ ⟨rfl,by simp[wdL]⟩,rfl,trivial,rfl,ac,ac,ac,ac,ac,ac,ac⟩
 rintro m env s' ⟨i,o,hi,hm,HN,hO,hno,rfl,e0,e2,e3,e5,e11,e12,e13⟩
 by_cases h7:i<ds.length
 ·have hk:=m_ h7
  have hkm:=List.getElem_mem h7
  have hdr:=c_ h7
  generalize ds[i]=d at hk hkm hdr
  have hx:=HAT.out i d hk
  have hnd:=HNL.out d hkm
  obtain⟨n1,n2⟩:=HN.out
  rw[hdr]at n1
  simp only[ms]at n1
  have htk:ds.take (i+1)=ds.take i++[d]:=by rw[List.take_add_one,hk];rfl
  have hsk:=si (k:=d.1) (l:=(ds.take i).map (·.1))
  have wn:=fun u=>Fv u d.1
  have ww:=fun u=>Cy u d.2
  obtain⟨nm,sz⟩:=d
  dsimp only at *
  have hfail:okD ((ds.take i).map (·.1)) (nm,sz)=false->R=[.lst [] .no,.int .i64 0,.bool false]:=fun h=>by
   rw[<- HR.out,wdR,if_neg]
   rw[n1,h]
   simp
  have hcont:okD ((ds.take i).map (·.1)) (nm,sz)=true->ms [] ds=ms ((ds.take (i+1)).map (·.1)) (ds.drop (i+1)):=fun h=>by
   rw[n1,h,Bool.true_and,htk,List.map_append]
   rfl
  have hfl:Fg ((s.own o 3 1 i).set bm (.map (mpV bP (fj ((ds.take i).map (·.1)))))) s:=Fg.setA (Fg.own hO) HBM.out
  have hwl:wdL (ds.take (i+1))=wdL (ds.take i)++[cd sz.toNat]:=by rw[htk,wdL,List.map_append];rfl
  have hpt:nm∉(ds.take i).map (·.1)->ptA nm true (fj ((ds.take i).map (·.1)))=fj ((ds.take (i+1)).map (·.1)):=fun h=>by
   rw[sh h,htk,List.map_append]
   rfl
  have hwb:cd sz.toNat<=62:=jZ _ _
  have HWL:=o_ hwl
  have HF:=o_ hfail
  have HC:=o_ hcont
  have HPT:=o_ hpt
  have HFL:=o_ hfl
  clear hk hkm hdr htk hfail hcont hfl hwl hpt n1 HN
  unfold okD at HF HC
  dsimp only at HF HC
  by_cases s1:1<=sz/\sz<=4611686018427387903
  ·simp only[if_pos s1]at ww
   by_cases s2:sz > 1073741824
   ·have hR:=HF.out (by simp;omega)
    subst hR
    (repeat'(first|refine Ctl ?_|((with_reducible refine k_ hK ?_);clear hK hE K E)|((with_reducible refine ah (fun h=>?_) (fun h=>?_))<;>(try(exfalso;assumption)))|((first|(with_reducible first|refine ab fun K E hK hE=>?_|refine ae o0 (ww _) ?_)|((with_reducible refine au (fun b hb=>?_));(repeat(obtain⟨_,hb⟩:=hb))))<;>(try simp(disch:=omega) only[go_sem,seval,hx,s2, *]))))
    all_goals(refine aq lO hQ ?_)
    all_goals exact⟨_,_,Wk.tupW,Fg.trans (w_ _ (by rw[j_ _ _ (by assumption)];exact hb)) HFL.out,rfl,rfl⟩
   ·have s2':¬ 1073741824<sz:=by omega
    by_cases s3:sZ nm=true
    ·rw[s3]at wn
     by_cases s4:nm∈(ds.take i).map (·.1)
     ·have hR:=HF.out (by rw[s3,decide_eq_true s4];simp)
      subst hR
      rw[decide_eq_true s4]at hsk
      generalize fj ((ds.take i).map (·.1))=Sn at *
      (repeat'(first|refine Ctl ?_|((with_reducible refine k_ hK ?_);clear hK hE K E)|((with_reducible refine ah (fun h=>?_) (fun h=>?_))<;>(try(exfalso;assumption)))|((first|(with_reducible first|refine ab fun K E hK hE=>?_|refine ae o0 (ww _) ?_|refine ae vH (wn _) ?_)|((with_reducible refine au (fun b hb=>?_));(repeat(obtain⟨_,hb⟩:=hb))))<;>(try simp(disch:=omega) only[go_sem,seval,hx,s2,s2',hsk, *]))))
      all_goals(refine aq lO hQ ?_)
      all_goals exact⟨_,_,Wk.tupW,Fg.trans (w_ _ (by rw[j_ _ _ (by assumption)];exact hb)) HFL.out,rfl,rfl⟩
     ·rw[decide_eq_false s4]at hsk
      have hp:=HPT.out s4
      have hc:=HC.out (by rw[s3,decide_eq_false s4,decide_eq_true s1.1,decide_eq_true (show sz<=1073741824 by omega)];rfl)
      have hsum:(wdL (ds.take (i+1))).sum=(wdL (ds.take i)).sum+cd sz.toNat:=by rw[HWL.out,List.sum_append];simp
      have hnl2:ak (wdL (ds.take (i+1)))=ak (wdL (ds.take i))++[[.int .i64 (cd sz.toNat:Int)]]:=by rw[HWL.out,dV]
      have hnl3:(ak (wdL (ds.take i))).length=i:=by
       rw[natsL_len,wdL,z_,r_]
       omega
      have HH:=o_ (And.intro hc (And.intro hsum hnl2))
      clear hc hsum hnl2 HF HC HPT s4
      generalize hSn2:fj ((ds.take (i+1)).map (·.1))=Sn2 at *
      have HSN:=o_ hSn2
      clear hSn2
      generalize fj ((ds.take i).map (·.1))=Sn at *
      generalize ak (wdL (ds.take i))=NL at *
      generalize (wdL (ds.take i)).sum=W0 at *
      generalize cd sz.toNat=wq at *
      (repeat'(first|(with_reducible refine aR 9 ?_)|refine Ctl ?_|((with_reducible refine k_ hK ?_);clear hK hE K E)|((with_reducible refine ah (fun h=>?_) (fun h=>?_))<;>(try(exfalso;assumption)))|((first|(with_reducible first|refine ab fun K E hK hE=>?_|refine ae o0 (ww _) ?_|refine ae vH (wn _) ?_)|((with_reducible refine au (fun b hb=>?_));(repeat(obtain⟨_,hb⟩:=hb))))<;>(try simp(disch:=first|assumption|omega) only[go_sem,seval,hx,s2,s2',hsk,hp, *]))))
      unfold bC
      refine dr (s':=(s.own o 3 1 i).set bm (.map (mpV bP Sn2))) (w_ _ (by rw[j_ _ _ (by assumption)];exact hb)) ?_
      (repeat'(first|refine Ctl ?_|((with_reducible refine k_ hK ?_);clear hK hE K E)|((first|(with_reducible refine ab fun K E hK hE=>?_)|((with_reducible refine fC (fun o2 ho=>?_));(try simp(disch:=assumption) only[bz,bB,cZ,c6,z_,List.length_cons,List.length_nil,Nat.zero_add,hnl3]at ho);(repeat(obtain⟨_,ho⟩:=ho))))<;>(try simp(disch:=first|assumption|omega) only[go_sem,seval,hnl3, *]))))
      all_goals exact⟨_,Fg.refl _,m - 1,by omega,i+1,o2,by omega,by omega,o_ ⟨HH.out.1,by rw[HH.out.2.1];omega⟩,ho,by assumption,by rw[HSN.out],ac,by(rw[HH.out.2.2];((try simp(disch:=assumption) only[go_sem,seval, *])<;>rfl)),by(rw[HH.out.2.1];((try simp(disch:=assumption) only[go_sem,seval, *])<;>rfl)),ac,ac,ac,ac⟩
    ·have s3':sZ nm=false:=by simpa using s3
     rw[s3']at wn
     have hR:=HF.out (by simp[s3'])
     subst hR
     (repeat'(first|refine Ctl ?_|((with_reducible refine k_ hK ?_);clear hK hE K E)|((with_reducible refine ah (fun h=>?_) (fun h=>?_))<;>(try(exfalso;assumption)))|((first|(with_reducible first|refine ab fun K E hK hE=>?_|refine ae o0 (ww _) ?_|refine ae vH (wn _) ?_)|((with_reducible refine au (fun b hb=>?_));(repeat(obtain⟨_,hb⟩:=hb))))<;>(try simp(disch:=omega) only[go_sem,seval,hx,s2,s2', *]))))
     all_goals(refine aq lO hQ ?_)
     all_goals exact⟨_,_,Wk.tupW,Fg.trans (w_ _ (by rw[j_ _ _ (by assumption)];exact hb)) HFL.out,rfl,rfl⟩
  ·simp only[if_neg s1]at ww
   have hR:=HF.out (by simp;omega)
   subst hR
   (repeat'(first|refine Ctl ?_|((with_reducible refine k_ hK ?_);clear hK hE K E)|((with_reducible refine ah (fun h=>?_) (fun h=>?_))<;>(try(exfalso;assumption)))|((first|(with_reducible first|refine ab fun K E hK hE=>?_|refine ae o0 (ww _) ?_)|((with_reducible refine au (fun b hb=>?_));(repeat(obtain⟨_,hb⟩:=hb))))<;>(try simp(disch:=omega) only[go_sem,seval,hx, *]))))
   all_goals(refine aq lO hQ ?_)
   all_goals exact⟨_,_,Wk.tupW,Fg.trans (w_ _ (by rw[j_ _ _ (by assumption)];exact hb)) HFL.out,rfl,rfl⟩
 ·have hie:i=ds.length:=by omega
  subst hie
  have ht:ds.take ds.length=ds:=b_
  have hd:ds.drop ds.length=[]:=B_
  obtain⟨n1,n2⟩:=HN.out
  rw[ht,hd]at n1
  rw[ht]at n2 e2 e3 ⊢
  simp only[ms]at n1
  have hR:R=[.lst (ak (wdL ds)) .no,.int .i64 ((wdL ds).sum:Nat),.bool (decide ((wdL ds).sum<=256) && decide (ds.length<=32))]:=by rw[<- HR.out,wdR,if_pos n1]
  have HRR:=o_ hR
  clear hR HR
  have hfl:Fg ((s.own o 3 1 ds.length).set bm (.map (mpV bP (fj (ds.map (·.1)))))) s:=Fg.setA (Fg.own hO) HBM.out
  have HFL:=o_ hfl
  clear ht hd n1 hfl HN
  generalize ak (wdL ds)=NL at *
  generalize (wdL ds).sum=W0 at *
  by_cases s1:W0<=256
  ·have s1':(W0:Int)<=256:=by omega
   by_cases s2:ds.length<=32
   ·have s2':(ds.length:Int)<=32:=by omega
    (repeat'(first|refine Ctl ?_|((with_reducible refine k_ hK ?_);clear hK hE K E)|((with_reducible refine ah (fun h=>?_) (fun h=>?_))<;>(try(exfalso;assumption)))|(((with_reducible refine ab fun K E hK hE=>?_))<;>(try simp(disch:=omega) only[go_sem,seval,s1',s2',hln, *]))))
    all_goals(refine aq lO hQ ?_)
    all_goals(rw[HRR.out,decide_eq_true s1,decide_eq_true s2];exact⟨_,_,Wk.tupW,HFL.out,rfl,rfl⟩)
   ·have s2':¬ (ds.length:Int)<=32:=by omega
    (repeat'(first|refine Ctl ?_|((with_reducible refine k_ hK ?_);clear hK hE K E)|((with_reducible refine ah (fun h=>?_) (fun h=>?_))<;>(try(exfalso;assumption)))|(((with_reducible refine ab fun K E hK hE=>?_))<;>(try simp(disch:=omega) only[go_sem,seval,s1',s2',hln, *]))))
    all_goals(refine aq lO hQ ?_)
    all_goals(rw[HRR.out,decide_eq_true s1,decide_eq_false s2];exact⟨_,_,Wk.tupW,HFL.out,rfl,rfl⟩)
  ·have s1':¬ (W0:Int)<=256:=by omega
   (repeat'(first|refine Ctl ?_|((with_reducible refine k_ hK ?_);clear hK hE K E)|((with_reducible refine ah (fun h=>?_) (fun h=>?_))<;>(try(exfalso;assumption)))|(((with_reducible refine ab fun K E hK hE=>?_))<;>(try simp(disch:=omega) only[go_sem,seval,s1',hln, *]))))
   all_goals(refine aq lO hQ ?_)
   all_goals(rw[HRR.out,decide_eq_false s1,Bool.false_and];exact⟨_,_,Wk.tupW,HFL.out,rfl,rfl⟩)
def iW (ds:List Dm):Bool:=ms [] ds && (decide ((wdL ds).sum<=256) && decide (ds.length<=32))
set_option maxHeartbeats 2000000 in
theorem Ce (s:St)(ds:List Dm)(ow:Own)(hl:ds.length<=1000000)(hnl:∀d,d∈ds->d.1.length<=1000000000):SRet Tryz.prog 58 [.lst (cH ds) ow] s (.int .i64 (if iW ds=true then 0 else 1)) s:=by
 have w1:=lB s ds ow hl hnl
 unfold wdR at w1
 unfold iW
 generalize cH ds=D at *
 cases h1:ms [] ds
 ·rw[h1]at w1
  simp only[Bool.false_eq_true,if_false]at w1
  simp only[Bool.false_and,Bool.false_eq_true,if_false]
  refine am Tryz.func58 rfl Tryz.ntmps58 rfl fun Q hQ hQe=>?_
  (repeat'(first|refine Ctl ?_|((with_reducible refine k_ hK ?_);clear hK hE K E)|((with_reducible refine ah (fun h=>?_) (fun h=>?_))<;>(try(exfalso;assumption)))|(((with_reducible first|refine ab fun K E hK hE=>?_|refine ae kA (w1) ?_))<;>(try simp(disch:=omega) only[go_sem,seval, *]))))
  all_goals(refine aq wS hQ ?_)
  all_goals exact⟨_,_,Wk.refl _,Fg.refl _,rfl,rfl⟩
 ·rw[h1]at w1
  simp only[if_true]at w1
  rw[Bool.true_and]
  generalize ak (wdL ds)=NL at *
  generalize (decide ((wdL ds).sum<=256) && decide (ds.length<=32))=B at *
  generalize (wdL ds).sum=W0 at *
  cases B
  ·simp only[Bool.false_eq_true,if_false]
   refine am Tryz.func58 rfl Tryz.ntmps58 rfl fun Q hQ hQe=>?_
   (repeat'(first|refine Ctl ?_|((with_reducible refine k_ hK ?_);clear hK hE K E)|((with_reducible refine ah (fun h=>?_) (fun h=>?_))<;>(try(exfalso;assumption)))|(((with_reducible first|refine ab fun K E hK hE=>?_|refine ae kA (w1) ?_))<;>(try simp(disch:=omega) only[go_sem,seval, *]))))
   all_goals(refine aq wS hQ ?_)
   all_goals exact⟨_,_,Wk.refl _,Fg.refl _,rfl,rfl⟩
  ·simp only[if_true]
   refine am Tryz.func58 rfl Tryz.ntmps58 rfl fun Q hQ hQe=>?_
   (repeat'(first|refine Ctl ?_|((with_reducible refine k_ hK ?_);clear hK hE K E)|((with_reducible refine ah (fun h=>?_) (fun h=>?_))<;>(try(exfalso;assumption)))|(((with_reducible first|refine ab fun K E hK hE=>?_|refine ae kA (w1) ?_))<;>(try simp(disch:=omega) only[go_sem,seval, *]))))
   all_goals(refine aq wS hQ ?_)
   all_goals exact⟨_,_,Wk.refl _,Fg.refl _,rfl,rfl⟩
set_option maxHeartbeats 2000000 in
theorem Fw (s:St)(ds:List Dm)(ow:Own)(hl:ds.length<=1000000)(hnl:∀d,d∈ds->d.1.length<=1000000000):SRet Tryz.prog 59 [.lst (cH ds) ow] s (.int .i64 (if iW ds=true then((wdL ds).sum:Nat)else 0)) s:=by
 have w1:=lB s ds ow hl hnl
 unfold wdR at w1
 unfold iW
 generalize cH ds=D at *
 cases h1:ms [] ds
 ·rw[h1]at w1
  simp only[Bool.false_eq_true,if_false]at w1
  simp only[Bool.false_and,Bool.false_eq_true,if_false]
  refine am Tryz.func59 rfl Tryz.ntmps59 rfl fun Q hQ hQe=>?_
  (repeat'(first|refine Ctl ?_|((with_reducible refine k_ hK ?_);clear hK hE K E)|((with_reducible refine ah (fun h=>?_) (fun h=>?_))<;>(try(exfalso;assumption)))|(((with_reducible first|refine ab fun K E hK hE=>?_|refine ae kA (w1) ?_))<;>(try simp(disch:=omega) only[go_sem,seval, *]))))
  all_goals(refine aq wR hQ ?_)
  all_goals exact⟨_,_,Wk.refl _,Fg.refl _,rfl,rfl⟩
 ·rw[h1]at w1
  simp only[if_true]at w1
  rw[Bool.true_and]
  generalize ak (wdL ds)=NL at *
  generalize (decide ((wdL ds).sum<=256) && decide (ds.length<=32))=B at *
  generalize (wdL ds).sum=W0 at *
  cases B
  ·simp only[Bool.false_eq_true,if_false]
   refine am Tryz.func59 rfl Tryz.ntmps59 rfl fun Q hQ hQe=>?_
   (repeat'(first|refine Ctl ?_|((with_reducible refine k_ hK ?_);clear hK hE K E)|((with_reducible refine ah (fun h=>?_) (fun h=>?_))<;>(try(exfalso;assumption)))|(((with_reducible first|refine ab fun K E hK hE=>?_|refine ae kA (w1) ?_))<;>(try simp(disch:=omega) only[go_sem,seval, *]))))
   all_goals(refine aq wR hQ ?_)
   all_goals exact⟨_,_,Wk.refl _,Fg.refl _,rfl,rfl⟩
  ·simp only[if_true]
   refine am Tryz.func59 rfl Tryz.ntmps59 rfl fun Q hQ hQe=>?_
   (repeat'(first|refine Ctl ?_|((with_reducible refine k_ hK ?_);clear hK hE K E)|((with_reducible refine ah (fun h=>?_) (fun h=>?_))<;>(try(exfalso;assumption)))|(((with_reducible first|refine ab fun K E hK hE=>?_|refine ae kA (w1) ?_))<;>(try simp(disch:=omega) only[go_sem,seval, *]))))
   all_goals(refine aq wR hQ ?_)
   all_goals exact⟨_,_,Wk.refl _,Fg.refl _,rfl,rfl⟩
open Go.RowKit Go.Sort
def ck (c:UInt8):List UInt8->List (List UInt8)
 |[]=>[[]]
 |b::l=>if b=c then []::ck c l else match ck c l with
  |[]=>[[b]]
  |p::r=>(b::p)::r
theorem vu (b c:UInt8)(l:List UInt8)(h:b≠c):Lib.index (b::l) [c]=if Lib.index l [c] == -1 then -1 else Lib.index l [c]+1:=by
 have hp:([c]:List UInt8).isPrefixOf (b::l)=false:=by simp[List.isPrefixOf,Ne.symm h]
 rw[Lib.index,hp];simp
theorem x9 (b c:UInt8)(h:b≠c):∀(k:Nat) (l:List UInt8),∃p r,Lib.splitK [c] 0 k l=p::r/\Lib.splitK [c] 0 k (b::l)=(b::p)::r
 |0,l=>⟨l,[],rfl,rfl⟩
 |k+1,l=>by
  have hix:=vu b c l h
  by_cases hm:Lib.index l [c]=-1
  ·refine⟨l,[],?_,?_⟩
   ·unfold Lib.splitK;rw[if_pos (beq_iff_eq.2 hm)]
   ·unfold Lib.splitK;rw[if_pos];rw[hix,if_pos (beq_iff_eq.2 hm)];rfl
  ·have hge:=Lib.index_ge l [c]
   obtain⟨j,hj⟩:∃j:Nat,Lib.index l [c]=j:=⟨(Lib.index l [c]).toNat,by omega⟩
   have hix':Lib.index (b::l) [c]=((j+1:Nat):Int):=by rw[hix,if_neg (fun e=>hm (beq_iff_eq.1 e)),hj];omega
   have n1:¬ (Lib.index l [c] == -1)=true:=fun e=>hm (beq_iff_eq.1 e)
   have n2:¬ (Lib.index (b::l) [c] == -1)=true:=fun e=>by have:=beq_iff_eq.1 e;omega
   refine⟨l.take j,Lib.splitK [c] 0 k (l.drop (j+1)),?_,?_⟩
   ·rw[Lib.splitK,if_neg n1,hj];rfl
   ·rw[Lib.splitK,if_neg n2,hix']
    rfl
theorem pS (c:UInt8):∀s:List UInt8,Lib.split s [c]=ck c s
 |[]=>by
  have:Lib.count [] [c]=0:=by rw[Lib.count_one];rfl
  rw[Lib.split,this];rfl
 |b::l=>by
  have ih:=pS c l
  unfold Lib.split at ih ⊢
  by_cases h:b=c
  ·subst h
   have hix:Lib.index (b::l) [b]=0:=by rw[Lib.index];simp[List.isPrefixOf]
   rw[Lib.count_cons_eq,Nat.add_comm,Lib.splitK,if_neg (by rw[hix];decide),hix]
   simp only[ck,if_true]
   rw[<- ih]
   rfl
  ·rw[Lib.count_cons_ne b c l h]
   obtain⟨p,r,h1,h2⟩:=x9 b c h (Lib.count l [c]) l
   rw[h2]
   simp only[ck,if_neg h]
   rw[<- ih,h1]
theorem jg (c:UInt8):∀s:List UInt8,(ck c s).length<=s.length+1
 |[]=>Nat.le_refl _
 |b::l=>by
  have ih:=jg c l
  simp only[ck]
  split
  ·simp;omega
  ·split
   ·simp
   ·rename_i h;rw[h]at ih;simp at ih ⊢;omega
theorem xQ (s:St)(l:List UInt8)(c:UInt8)(hl:l.length<4294967281):SRet Tryz.prog 94 [.str l,.str [c]] s (.lst (az (ck c l)) .no) s:=by
 intro w0 G w vs hS hA
 obtain⟨v1,v2,rfl,r1,r2⟩:=lz hA
 obtain⟨a,ha,rfl⟩:∃a:Array UInt8,a.toList=l/\v1=.string ⟨a⟩:=by cases r1;exact⟨_,rfl,rfl⟩
 obtain⟨sep,hsep,rfl⟩:∃a:Array UInt8,a.toList=[c]/\v2=.string ⟨a⟩:=by
  obtain⟨q,hq⟩:∃q,q=[c]:=⟨_,rfl⟩
  rw[<- hq]at r2
  cases r2
  exact⟨_,hq,rfl⟩
 obtain⟨m,hm⟩:=hS.gl
 have hlt:0<w0.heap.size:=World.block_lt_of_cell? _ _ hm
 have hm':w.cell? ⟨0,0,none⟩=some (.int .i64 m):=(hS.below.cell (p:=⟨0,0,none⟩) hlt).trans hm
 have hsz:(⟨a⟩:ByteArray).size<4294967281:=by
  have:(⟨a⟩:ByteArray).size=a.toList.length:=by rw[Array.length_toList];rfl
  rw[this,ha];exact hl
 have hs1:1<=(⟨sep⟩:ByteArray).size:=by
  have:(⟨sep⟩:ByteArray).size=sep.toList.length:=by rw[Array.length_toList];rfl
  rw[this,hsep];simp
 refine(Tryz.strings_Split ⟨a⟩ ⟨sep⟩ m w hsz hm' hs1).mono ?_
 rintro e w' ⟨rfl,rfl⟩
 obtain⟨PB,hPB⟩:∃PB,PB=Lib.splitB ⟨sep⟩ 0 (Lib.countB ⟨a⟩ ⟨sep⟩) ⟨a⟩:=⟨_,rfl⟩
 have hlen:PB.length=Lib.countB ⟨a⟩ ⟨sep⟩+1:=by rw[hPB];exact Lib.splitB_all _ hs1 0 _ _ rfl
 have hdat:PB.map (·.data.toList)=ck c l:=by
  rw[hPB,Lib.splitB_data,<- pS]
  show Lib.splitK sep.toList 0 (Lib.count a.toList sep.toList) a.toList=_
  rw[hsep,ha];rfl
 rw[<- hPB,<- hlen]
 have hSn:Below w.heap.size w (w.alloc (.cells (PB.map Value.string).toArray 9)):=(Below.refl _ w).alloc (Nat.le_refl _) _
 obtain⟨G',g1,g2,g3⟩:=hS.know hSn w.heap.size (Nat.le_refl _) (fun i=>(PB[i]?).map Value.string) fun i v hv=>by
  simp only[World.cell?,heap_alloc_new]
  simpa using hv
 refine⟨G',s,.ret (.lst (az (ck c l)) .no),g1,g2,?_,rfl,rfl⟩
 refine .lst w.heap.size 0 PB.length PB.length 1 (az (ck c l)) .no (fun i _=>.string ((PB[i]?).getD ⟨#[]⟩)) (by rw[<- hdat];simp[az]) (Nat.le_refl _) ?_ ?_ ?_ ?_ (.inl rfl)
 ·intro x hx
  obtain⟨y,_,rfl⟩:=A_.1 hx
  rfl
 ·intro x hx y hy
  obtain⟨z,_,rfl⟩:=A_.1 hx
  rw[a_]at hy
  subst hy
  rfl
 ·intro i j hi hj
  have:j=0:=by omega
  subst this
  have:=g3 i (.string PB[i]) (by rw[m_ hi];rfl)
  rw[m_ hi]
  simpa using this
 ·intro i j x y hx hy
  simp only[az,<- hdat,List.map_map,n_]at hx
  obtain⟨z,hz,rfl⟩:=Option.map_eq_some_iff.1 hx
  have hj:j=0:=by
   have:=(x_.1 hy).1
   simp at this;exact this
  subst hj
  simp at hy
  subst hy
  rw[hz]
  obtain⟨b⟩:=z
  exact .str b
theorem MY (s:St)(g:Nat)(T:TypeId)(zs:List Int)(hn:zs.length<=100000000)(hs:s g=.row T 1 (aM zs)) :
  SRet Tryz.prog 97 [.mrw g zs.length] s (.tup []) (s.set g (.row T 1 (aM zs.reverse))):=by
 intro w0 G w vs hS hA
 obtain⟨v1,rfl,r1⟩:=d7 hA
 cases r1 with
 |mrw _ _ cap sz hq hc=>
 have hok:=hS.ok g
 rw[hs]at hok
 obtain⟨hB,hnK,c,cap',hh,hq',hcs,hl,hm,hx⟩:=hok
 have hil:(aM zs).length=zs.length:=by simp[aM]
 rw[hil]at hl
 have hblk:g<w.heap.size:=hS.lt (by rw[hs];simp)
 have hcell:∀(i:Nat) (z:Int),zs[i]?=some z->c[i]?=some (.int .i64 z):=fun i z hz=>by
  obtain⟨_,v,h1,h2⟩:=hx i (.int .i64 z) (by simp[aM,hz])
  cases h2
  exact h1
 have hH:Holds (Value.int .i64) w g 0 zs.toArray:=fun j hj=>by
  rw[List.size_toArray]at hj
  have h1:=hcell j _ (m_ hj)
  constructor
  ·rw[getElem!_pos _ j (by simpa using hj)]
   simp only[World.cell?,Nat.zero_add,hh]
   simpa using h1
  ·simp[World.frozen?,hh]
 refine(Tryz.slices_Reverse_int g 0 cap zs w hH (by omega)).mono ?_
 rintro e w' ⟨rfl,n,rfl⟩
 have hS1:Sim w0 G (Sort.ahead w n) s:=hS.world ⟨rfl,rfl,rfl,Nat.le_refl _,fun _ _=>rfl⟩
 obtain⟨d',hd'⟩:∃d',d'=zs.reverse.toArray:=⟨_,rfl⟩
 have hdl:d'.size=zs.length:=by rw[hd',List.size_toArray,List.length_reverse]
 rw[<- hd']
 have hmod:∀k,(Sort.putRow (Value.int .i64) (Sort.ahead w n) g 0 d').heap[k]?=if g=k then(w.heap[k]?).map (onCells (putCells (Value.int .i64) 0 d'))else w.heap[k]?:=fun k=>Array.getElem?_modify ..
 have hS2:=hS1.set_row hs (Sort.putRow (Value.int .i64) (Sort.ahead w n) g 0 d') c (putCells (Value.int .i64) 0 d' c) (ys:=aM zs.reverse) hh
  ⟨rfl,rfl,rfl,by simp[Sort.putRow,mapBlock],fun k hk=>by rw[hmod,if_neg (by omega)];rfl⟩ (by simp[Sort.putRow,mapBlock]) (by rw[hmod,if_pos rfl,hh];rfl) (fun k hk=>by rw[hmod,if_neg (Ne.symm hk)];rfl)
  (by simp[putCells]) (by simp only[aM,z_,List.length_reverse];rw[hcs];exact hl) (fun i x hi=>by
   simp only[aM,n_]at hi
   obtain⟨k,hk,rfl⟩:=Option.map_eq_some_iff.1 hi
   have hil:=(x_.1 hk).1
   rw[List.length_reverse]at hil
   refine⟨rfl,.int .i64 k,?_,.int _ _⟩
   have hid:i<d'.size:=by omega
   have hdk:d'[i]=k:=by
    have h3:d'.toList[i]?=some k:=by rw[hd'];exact hk
    rw[Array.getElem?_toList,Array.getElem?_eq_getElem hid]at h3
    injection h3
   have hic:i<c.size:=by rw[hcs];omega
   simp only[putCells,Array.getElem?_mapIdx,Array.getElem?_eq_getElem hic,Option.map_some,Nat.zero_le,Nat.zero_add,true_and,hid,if_true,Nat.sub_zero]
   rw[getElem!_pos d' i hid,hdk])
 refine⟨G,_,.ret (.tup []),Gh.le.refl G,hS2,.tup #[] [] rfl (fun j v y h=>by simp at h),rfl,rfl⟩
theorem FB (s:St):SRet Tryz.prog 97 [.raw (.slice none 0 0)] s (.tup []) s:=by
 intro w0 G w vs hS hA
 obtain⟨v1,rfl,r1⟩:=d7 hA
 cases r1 with
 |raw=>
 refine(Tryz.slices_Reverse_int_empty none 0 w).mono ?_
 rintro e w' ⟨rfl,rfl⟩
 exact⟨G,s,.ret (.tup []),Gh.le.refl G,hS,R.tup #[] [] rfl (fun j v y h=>by simp at h),rfl,rfl⟩
def ixD (nm:List UInt8):List Dm->Nat->Int
 |[],_=>-1
 |d::r,i=>if d.1=nm then(i:Int)else ixD nm r (i+1)
set_option maxHeartbeats 1000000 in
theorem MN (s:St)(sb:Nat)(nm x:List UInt8)(sz:Int)(hs:s sb=.obj 9 [.str x]):SRet Tryz.prog 96 [.agg [.str nm,.int .i64 sz],.ptr sb 0] s (.bool (decide (nm=x))) s:=by
 have hf:s sb≠.free:=by rw[hs];simp
 refine am Tryz.func96 rfl Tryz.ntmps96 rfl fun Q hQ hQe=>?_
 (repeat'(first|refine Ctl ?_|((with_reducible refine k_ hK ?_);clear hK hE K E)|((first|(with_reducible refine ab fun K E hK hE=>?_)|((with_reducible refine au (fun b hb=>?_));(try(obtain⟨_,_⟩:=nef hb hf))))<;>(try simp(disch:=omega) only[go_sem,seval, *]))))
 all_goals(refine aq FL hQ ?_)
 exact⟨_,_,Wk.refl _,w_ _ hb,rfl,rfl⟩
set_option maxHeartbeats 4000000 in
theorem MO (s:St)(sb:Nat)(x:List UInt8)(ds:List Dm)(ow:Own)(hl:ds.length<=1000000)(hs:s sb=.obj 9 [.str x]) :
  SRet Tryz.prog 95 [.lst (cH ds) ow,.fn 96 [.ptr sb 0]] s (.int .i64 (ixD x ds 0)) s:=by
 have w1:=fun nm sz=>MN s sb nm x sz hs
 have hln:=iM (ds:=ds)
 have hat:=fun i d h=>tD (ds:=ds) (i:=i) (d:=d) h
 have HA:=o_ hat
 clear hat hs
 obtain⟨R,hR⟩:∃R,ixD x ds 0=R:=⟨_,rfl⟩
 rw[hR]
 have h0:Hid (ixD x (ds.drop 0) 0=R):=o_ (by rw[List.drop_zero];exact hR)
 clear hR
 generalize cH ds=L at *
 refine am Tryz.func95 rfl Tryz.ntmps95 rfl fun Q hQ hQe=>?_
 (repeat'(first|refine Ctl ?_|((with_reducible refine k_ hK ?_);clear hK hE K E)|(((with_reducible refine ab fun K E hK hE=>?_))<;>(try simp(disch:=omega) only[go_sem,seval,hln, *]))))
 refine aY (fun m env s'=>∃(i:Nat),i<=ds.length/\m+i=ds.length/\Hid (ixD x (ds.drop i) i=R)/\s'=s/\env 0=.lst L ow/\env 1=.fn 96 [.ptr sb 0]/\env 7=.int .i64 ds.length/\env 8=.int .i64 i) ds.length
  ⟨0,by omega,by omega,h0,rfl,ac,ac,ac,ac⟩ ?_
 rintro m env s' ⟨i,hi,hm,HR,rfl,e0,e1,e7,e8⟩
 by_cases h2:i<ds.length
 ·have hx:=HA.out i _ (m_ h2)
  have hd:=c_ h2
  have hr:=HR.out
  rw[hd]at hr
  simp only[ixD]at hr
  generalize ds[i]=d at *
  obtain⟨nm,sz⟩:=d
  dsimp only at hx hr
  have w2:=w1 nm sz
  by_cases e:nm=x
  ·rw[if_pos e]at hr
   rw[decide_eq_true e]at w2
   have HRR:=o_ hr
   clear hr hd e w1 HR
   (repeat'(first|refine Ctl ?_|((with_reducible refine k_ hK ?_);clear hK hE K E)|((with_reducible refine ah (fun h=>?_) (fun h=>?_))<;>(try(exfalso;assumption)))|(((with_reducible first|refine ab fun K E hK hE=>?_|refine ae GD (w2) ?_))<;>(try simp(disch:=omega) only[go_sem,seval,hx, *]))))
   all_goals(refine aq zU hQ ?_)
   all_goals(rw[<- HRR.out];exact⟨_,_,Wk.refl _,Fg.refl _,rfl,rfl⟩)
  ·rw[if_neg e]at hr
   rw[decide_eq_false e]at w2
   have HRR:=o_ hr
   clear hr hd e w1 HR
   (repeat'(first|refine Ctl ?_|((with_reducible refine k_ hK ?_);clear hK hE K E)|((with_reducible refine ah (fun h=>?_) (fun h=>?_))<;>(try(exfalso;assumption)))|(((with_reducible first|refine ab fun K E hK hE=>?_|refine ae GD (w2) ?_))<;>(try simp(disch:=omega) only[go_sem,seval,hx, *]))))
   all_goals exact⟨m - 1,by omega,i+1,by omega,by omega,HRR,rfl,ac,ac,ac,ac⟩
 ·have hr:=HR.out
  rw[List.drop_of_length_le (by omega)]at hr
  simp only[ixD]at hr
  have HRR:=o_ hr
  clear hr HR
  (repeat'(first|refine Ctl ?_|((with_reducible refine k_ hK ?_);clear hK hE K E)|((with_reducible refine ah (fun h=>?_) (fun h=>?_))<;>(try(exfalso;assumption)))|(((with_reducible refine ab fun K E hK hE=>?_))<;>(try simp(disch:=omega) only[go_sem,seval, *]))))
  all_goals(refine aq zU hQ ?_)
  all_goals(rw[<- HRR.out];exact⟨_,_,Wk.refl _,Fg.refl _,rfl,rfl⟩)
end Go.Proofs.YtohnaepcgnbaiaaGreatDoor
namespace Go.Proofs.YtohnaepcgnbaiaaGreatDoor
open Go.RowKit
section
variable {w0 w : World} {G : Gh} {s : St} {b g i n : Nat} {T T' : TypeId} {xs cs cs' : List VV}
theorem Ha {l:List VV}{i:Nat}{x y:VV}(h:l[i]?=some x):(l.set i y)[i]?=some y:=e_ (x_.1 h).1
theorem GSg.frz1 (hb:s b=.obj T cs)(hi:cs[i]?=some (.mrw g n))(hg:s g=.row T' 1 xs)(hn:xs.length=n) :
  GSg s ((s.set g .free).set b (.obj T (cs.set i (.lst (xs.map fun y=>[y]) .no)))):=by
 intro w0 G w h
 have hne:¬ b=g:=by rintro rfl;rw[hb]at hg;cases hg
 obtain⟨G',hle,hS,hK,_⟩:=h.frzR hg
 have hob:=hS.ok b
 rw[j_ _ _ hne,hb]at hob
 obtain⟨hB,hnK,c,hc,hsz,hx⟩:=hob
 refine⟨G',hle,hS.below,hS.K,hS.cap,fun x=>?_,hS.gl,hS.rows.keep' (Gh.le.refl _) (Nat.le_refl _) (fun g' _ hg'=>⟨?_,rfl,fun _=>rfl⟩) (fun b' T xs rs hb'=>?_)⟩
 ·by_cases hxb:x=b
  ·subst hxb
   rw[q_]
   refine⟨hB,hnK,c,hc,by rw[hsz,List.length_set],fun j y hj=>?_⟩
   by_cases hji:j=i
   ·subst hji
    rw[Ha hi]at hj
    injection hj with hj
    subst hj
    obtain⟨_,v,hv,hr⟩:=hx j _ hi
    exact⟨rfl,v,hv,R.frz hn hK hr⟩
   ·rw[i_ (Ne.symm hji)]at hj
    exact hx j y hj
  ·rw[j_ _ _ hxb];exact hS.ok x
 ·by_cases e:g'=b
  ·subst e;rw[j_ _ _ hne,hb]at hg';cases hg'
  ·rw[j_ _ _ e];exact hg'
 ·by_cases e:b'=b
  ·subst e;rw[q_]at hb';cases hb'
  ·rw[j_ _ _ e]at hb';exact⟨hb',rfl⟩
theorem GS.wkc (hb:s b=.obj T cs)(hl:cs'.length=cs.length)(hw:∀(i:Nat) (y':VV),cs'[i]?=some y'->∃y,cs[i]?=some y/\Wk y y'/\y'.one=true):GS s (s.set b (.obj T cs')):=by
 intro w0 G w hS
 have hob:=hS.ok b
 rw[hb]at hob
 obtain⟨hB,hnK,c,hc,hsz,hx⟩:=hob
 refine⟨hS.below,hS.K,hS.cap,fun x=>?_,hS.gl,hS.rows.keep' (Gh.le.refl _) (Nat.le_refl _) (fun g' _ hg'=>⟨?_,rfl,fun _=>rfl⟩) (fun b' T xs rs hb'=>?_)⟩
 ·by_cases hxb:x=b
  ·subst hxb
   rw[q_]
   refine⟨hB,hnK,c,hc,by rw[hsz,hl],fun j y hj=>?_⟩
   obtain⟨y0,h1,h2,h3⟩:=hw j y hj
   obtain⟨_,v,hv,hr⟩:=hx j _ h1
   exact⟨h3,v,hv,h2 _ _ hr⟩
  ·rw[j_ _ _ hxb];exact hS.ok x
 ·by_cases e:g'=b
  ·subst e;rw[hb]at hg';cases hg'
  ·rw[j_ _ _ e];exact hg'
 ·by_cases e:b'=b
  ·subst e;rw[q_]at hb';cases hb'
  ·rw[j_ _ _ e]at hb';exact⟨hb',rfl⟩
end
theorem Wk.toraw:Wk (.lst [] .full) (.raw (.slice none 0 0)):=fun G v hr=>by
 cases hr with
 |emp a cap o ho=>
  rcases ho with ho|⟨_,rfl,rfl⟩
  ·cases ho
  ·exact .raw _
 |lst b off len cap sz xs o f hl hc hz h1 hK hR ho=>
  simp at hl
  subst hl
  rcases ho with ho|⟨_,_,h0⟩|⟨ho,_⟩
  ·cases ho
  ·omega
  ·cases ho
structure PlS (s u:St) (bO:Nat) (xs:List VV) (out:List (List Nat)):Prop where
 o:u bO=.obj 28 xs
 nO:s bO=.free
 ln:xs.length=out.length
 c:∀(k:Nat) (r:List Nat),out[k]?=some r->(r=[]/\xs[k]?=some (.raw (.slice none 0 0)))\/∃g,xs[k]?=some (.mrw g r.length)/\u g=.row 3 1 (aM (r.map fun(k:Nat)=>(k:Int)))/\s g=.free
 ap:∀(k k' g n n':Nat),xs[k]?=some (.mrw g n)->xs[k']?=some (.mrw g n')->k=k'
 fr:∀z,s z≠.free->u z=s z
theorem PlS.ne {s u:St}{bO:Nat}{xs:List VV}{out:List (List Nat)}(h:PlS s u bO xs out){k g n:Nat}(hk:xs[k]?=some (.mrw g n)):g≠bO:=fun e=>by
 have hl:k<out.length:=by rw[<- h.ln];exact(x_.1 hk).1
 rcases h.c k _ (m_ hl)with ⟨_,e2⟩|⟨g',e2,e3,_⟩
 ·rw[hk]at e2;cases e2
 ·rw[hk]at e2
  injection e2 with e2
  injection e2 with e2 _
  rw[<- e2,e,h.o]at e3
  cases e3
theorem PlS.step {s u v:St}{bO k:Nat}{xs:List VV}{out:List (List Nat)}{r r2:List Nat}{y:Nat}(h:PlS s u bO xs out)(hk:out[k]?=some r)
  (hv:∀z,u z≠.free->z≠bO->(∀g n,xs[k]?=some (.mrw g n)->z≠g)->v z=u z) (ho:v bO=.obj 28 (xs.set k (.mrw y r2.length))) (hy:v y=.row 3 1 (aM (r2.map fun(k:Nat)=>(k:Int)))) (hyf:u y=.free\/∃n,xs[k]?=some (.mrw y n)) :
  PlS s v bO (xs.set k (.mrw y r2.length)) (out.set k r2):=by
 have hkl:k<out.length:=(x_.1 hk).1
 have hys:s y=.free:=by
  rcases hyf with e|⟨n,e⟩
  ·by_cases hs:s y=.free
   ·exact hs
   ·exact absurd (by rw[<- h.fr y hs];exact e) hs
  ·rcases h.c k r hk with ⟨_,e2⟩|⟨g,e2,_,e4⟩
   ·rw[e]at e2;cases e2
   ·rw[e]at e2;injection e2 with e2;injection e2 with e2 _;rw[e2];exact e4
 have hsep:∀(j:Nat) (g n:Nat),j≠k->xs[j]?=some (.mrw g n)->g≠y/\v g=u g:=fun j g n hj hx=>by
  have hjl:j<out.length:=by rw[<- h.ln];exact(x_.1 hx).1
  have hgu:u g≠.free:=by
   rcases h.c j _ (m_ hjl)with ⟨_,e2⟩|⟨g',e2,e3,_⟩
   ·rw[hx]at e2;cases e2
   ·rw[hx]at e2;injection e2 with e2;injection e2 with e2 _;rw[e2,e3];simp
  have hgk:∀g' n',xs[k]?=some (.mrw g' n')->g≠g':=fun g' n' hx' e=>hj (h.ap j k g n n' hx (e ▸ hx'))
  refine⟨fun e=>?_,hv g hgu (h.ne hx) hgk⟩
  rcases hyf with e2|⟨n',e2⟩
  ·rw[<- e]at e2;exact hgu e2
  ·exact hgk _ _ e2 e
 refine⟨ho,h.nO,by rw[List.length_set,List.length_set];exact h.ln,fun j r' hj=>?_,fun j j' g n n' h1 h2=>?_,fun z hz=>?_⟩
 ·by_cases e:k=j
  ·subst e
   rw[e_ hkl]at hj
   injection hj with hj
   subst hj
   exact .inr ⟨y,by rw[e_ (by rw[h.ln];exact hkl)],hy,hys⟩
  ·rw[i_ e]at hj ⊢
   rcases h.c j r' hj with e2|⟨g,e2,e3,e4⟩
   ·exact .inl e2
   ·exact .inr ⟨g,e2,by rw[(hsep j g _ (Ne.symm e) e2).2];exact e3,e4⟩
 ·have hkx:k<xs.length:=by rw[h.ln];exact hkl
  by_cases e1:k=j
  ·by_cases e2:k=j'
   ·rw[<- e1,<- e2]
   ·subst e1
    rw[e_ hkx]at h1
    rw[i_ e2]at h2
    injection h1 with h1
    injection h1 with h1 _
    exact absurd h1.symm (hsep j' g n' (Ne.symm e2) h2).1
  ·rw[i_ e1]at h1
   by_cases e2:k=j'
   ·subst e2
    rw[e_ hkx]at h2
    injection h2 with h2
    injection h2 with h2 _
    exact absurd h2.symm (hsep j g n (Ne.symm e1) h1).1
   ·rw[i_ e2]at h2
    exact h.ap j j' g n n' h1 h2
 ·rw[hv z (by rw[h.fr z hz];exact hz) (fun e=>hz (e ▸ h.nO)) ?_,h.fr z hz]
  rintro g n hx rfl
  rcases h.c k r hk with ⟨_,e2⟩|⟨g',e2,_,e4⟩
  ·rw[hx]at e2;cases e2
  ·rw[hx]at e2;injection e2 with e2;injection e2 with e2 _;rw[<- e2]at e4;exact hz e4
theorem PlS.other {s u v:St}{bO:Nat}{xs:List VV}{out:List (List Nat)}(h:PlS s u bO xs out)(hv:∀z,(∃T xs,u z=.obj T xs)\/(∃T sz xs,u z=.row T sz xs)\/s z≠.free->v z=u z):PlS s v bO xs out:=
 ⟨(hv bO (.inl ⟨_,_,h.o⟩)).trans h.o,h.nO,h.ln,fun k r hk=>by
  rcases h.c k r hk with e|⟨g,e1,e2,e3⟩
  ·exact .inl e
  ·exact .inr ⟨g,e1,(hv g (.inr (.inl ⟨_,_,_,e2⟩))).trans e2,e3⟩,h.ap,fun z hz=>(hv z (.inr (.inr hz))).trans (h.fr z hz)⟩
structure PlF (s u:St) (bO:Nat) (xs:List VV) (out:List (List Nat)) (j:Nat):Prop where
 o:u bO=.obj 28 xs
 nO:s bO=.free
 ln:xs.length=out.length
 d:∀(k:Nat) (r:List Nat),k<j->out[k]?=some r->xs[k]?=some (.lst (ak r) .no)
 c:∀(k:Nat) (r:List Nat),j<=k->out[k]?=some r->(r=[]/\xs[k]?=some (.raw (.slice none 0 0)))\/∃g,xs[k]?=some (.mrw g r.length)/\u g=.row 3 1 (aM (r.map fun(k:Nat)=>(k:Int)))/\s g=.free
 ap:∀(k k' g n n':Nat),xs[k]?=some (.mrw g n)->xs[k']?=some (.mrw g n')->k=k'
 fr:∀z,s z≠.free->u z=s z
theorem Bh {s u:St}{bO j:Nat}{xs:List VV}{out:List (List Nat)}(h:PlF s u bO xs out j){r:List Nat}(hr:out[j]?=some r):∃u',GSg u u'/\PlF s u' bO (xs.set j (.lst (ak r) .no)) out (j+1):=by
 have hjl:j<xs.length:=by rw[h.ln];exact(x_.1 hr).1
 have dn:∀(k:Nat) (r':List Nat),k<j+1->out[k]?=some r'->(xs.set j (.lst (ak r) .no))[k]?=some (.lst (ak r') .no):=fun k r' hk hr'=>by
  by_cases e:j=k
  ·subst e
   rw[hr]at hr'
   injection hr' with hr'
   rw[e_ hjl,hr']
  ·rw[i_ e]
   exact h.d k r' (by omega) hr'
 have ap2:∀(k k' g n n':Nat),(xs.set j (.lst (ak r) .no))[k]?=some (.mrw g n)->(xs.set j (.lst (ak r) .no))[k']?=some (.mrw g n')->k=k':=fun k k' g n n' h1 h2=>by
  have key:∀{k n:Nat},(xs.set j (.lst (ak r) .no))[k]?=some (.mrw g n)->xs[k]?=some (.mrw g n):=fun {k n} hh=>by
   by_cases e:j=k
   ·subst e;rw[e_ hjl]at hh;cases hh
   ·rwa [i_ e]at hh
  exact h.ap k k' g n n' (key h1) (key h2)
 rcases h.c j r (Nat.le_refl _) hr with ⟨e1,e2⟩|⟨g,e1,e2,e3⟩
 ·refine⟨u.set bO (.obj 28 (xs.set j (.lst (ak r) .no))),.of_gs (GS.wkc h.o (List.length_set ..) fun i y hy=>?_),q_ _ _ _,h.nO,by rw[List.length_set];exact h.ln,dn,fun k r' hk hr'=>?_,ap2,fun z hz=>by rw[j_ _ _ (fun e=>hz (by rw[e];exact h.nO))];exact h.fr z hz⟩
  ·by_cases e:j=i
   ·subst e
    rw[e_ hjl]at hy
    injection hy with hy
    subst hy
    subst e1
    exact⟨_,e2,Wk.rawnil,rfl⟩
   ·rw[i_ e]at hy
    refine⟨y,hy,Wk.refl _,?_⟩
    have hil:i<out.length:=by rw[<- h.ln];exact(x_.1 hy).1
    by_cases hij:i<j
    ·rw[h.d i _ hij (m_ hil)]at hy
     injection hy with hy;subst hy;rfl
    ·rcases h.c i _ (by omega) (m_ hil)with ⟨_,e3⟩|⟨g,e3,_⟩
     ·rw[e3]at hy;injection hy with hy;subst hy;rfl
     ·rw[e3]at hy;injection hy with hy;subst hy;rfl
  ·have hkj:j≠k:=by omega
   rw[i_ hkj]
   rcases h.c k r' (by omega) hr' with e|⟨g,a1,a2,a3⟩
   ·exact .inl e
   ·refine .inr ⟨g,a1,?_,a3⟩
    rw[j_]
    ·exact a2
    ·intro e;rw[e,h.o]at a2;cases a2
 ·have hgb:g≠bO:=fun e=>by rw[e,h.o]at e2;cases e2
  have hf:=GSg.frz1 h.o e1 e2 (by rw[dJ,z_])
  have hL:(aM (r.map fun(k:Nat)=>(k:Int))).map (fun y=>[y])=ak r:=by simp[aM,ak,Function.comp]
  rw[hL]at hf
  refine⟨_,hf,q_ _ _ _,h.nO,by rw[List.length_set];exact h.ln,dn,fun k r' hk hr'=>?_,ap2,fun z hz=>?_⟩
  ·have hkj:j≠k:=by omega
   rw[i_ hkj]
   rcases h.c k r' (by omega) hr' with e|⟨g',a1,a2,a3⟩
   ·exact .inl e
   ·refine .inr ⟨g',a1,?_,a3⟩
    have n1:g'≠bO:=fun e=>by rw[e,h.o]at a2;cases a2
    have n2:g'≠g:=fun e=>hkj (h.ap j k g _ _ e1 (e ▸ a1))
    rw[j_ _ _ n1,j_ _ _ n2]
    exact a2
  ·rw[j_ _ _ (fun e=>hz (by rw[e];exact h.nO)),j_ _ _ (fun e=>hz (by rw[e];exact e3))]
   exact h.fr z hz
theorem xp {s:St}{bO:Nat}{out:List (List Nat)}:∀(d j:Nat) {u:St} {xs:List VV},j+d=out.length->PlF s u bO xs out j->∃u' xs',GSg u u'/\PlF s u' bO xs' out out.length
 |0,j,u,xs,hd,h=>by
  have:j=out.length:=by omega
  subst this
  exact⟨u,xs,.refl u,h⟩
 |d+1,j,u,xs,hd,h=>by
  have hr:=m_ (show j<out.length by omega)
  obtain⟨u1,g1,h1⟩:=Bh h hr
  obtain⟨u2,xs2,g2,h2⟩:=xp d (j+1) (by omega) h1
  exact⟨u2,xs2,g1.trans g2,h2⟩
def nG (out:List (List Nat)):List VV:=out.map fun r=>.lst (ak r) .no
theorem PlS.freeze {s u:St}{bO:Nat}{xs:List VV}{out:List (List Nat)}(h:PlS s u bO xs out):GSg u (s.set bO (.obj 28 (nG out))):=by
 obtain⟨u',xs',g1,h1⟩:=xp (s:=s) (bO:=bO) (out:=out) out.length 0 (by omega) ⟨h.o,h.nO,h.ln,fun k r hk _=>by omega,fun k r _ hr=>h.c k r hr,h.ap,h.fr⟩
 have e:xs'=nG out:=by
  apply List.ext_getElem?
  intro k
  simp only[nG,n_]
  by_cases hk:k<out.length
  ·rw[h1.d k _ hk (m_ hk),m_ hk];rfl
  ·rw[t_ (by rw[h1.ln];omega),t_ (by omega)];rfl
 subst e
 refine g1.trans (.of_fg fun z=>?_)
 by_cases e:z=bO
 ·subst e;rw[q_,h1.o];exact .inr rfl
 ·rw[j_ _ _ e]
  by_cases hz:s z=.free
  ·exact .inl hz
  ·exact .inr (h1.fr z hz).symm
def yK (ds:List Dm):List (List UInt8)->List Nat->List Nat->Option (List Nat×List Nat)
 |[],l,sn=>some (l,sn)
 |p::r,l,sn=>if ixD p ds 0<0\/(ixD p ds 0).toNat∈sn then none else yK ds r (l++[(ixD p ds 0).toNat]) (sn++[(ixD p ds 0).toNat])
def fR (wd:List Nat)(lv:Nat):List Nat->List (List Nat)->Nat->Bool->List (List Nat)×Nat×Bool
 |[],o,nx,mo=>(o,nx,mo)
 |k::r,o,nx,mo=>if lv<wd.getD k 0 then fR wd lv r (o.set k (o.getD k []++[nx])) (nx+1) true else fR wd lv r o nx mo
def yx (wd l:List Nat):Nat->Nat->List (List Nat)->Nat->List (List Nat)×Nat
 |0,_,o,nx=>(o,nx)
 |f+1,lv,o,nx=>if (fR wd lv l o nx false).2.2=true then yx wd l f (lv+1) (fR wd lv l o nx false).1 (fR wd lv l o nx false).2.1 else((fR wd lv l o nx false).1,(fR wd lv l o nx false).2.1)
def plF (ds:List Dm)(wd:List Nat):List (List UInt8)->List (List Nat)->Nat->List Nat->Option (List (List Nat)×List Nat)
 |[],o,_,sn=>some (o,sn)
 |g::r,o,nx,sn=>match yK ds (ck 42 g) [] sn with
  |none=>none
  |some (l,sn')=>plF ds wd r (yx wd l 64 0 o nx).1 (yx wd l 64 0 o nx).2 sn'
def Bj (n:Nat):Option (List (List Nat)×List Nat)->Except Int (List (List Nat))
 |none=>.error 70
 |some (o,sn)=>if sn.length<n then .error 70 else .ok (o.map List.reverse)
def eO (ds:List Dm)(od:List UInt8):Except Int (List (List Nat)):=
 if iW ds=true then Bj ds.length (plF ds (wdL ds) (if od=[] then [] else ck 95 od) (List.replicate ds.length []) 0 [])else .error 1
end Go.Proofs.YtohnaepcgnbaiaaGreatDoor
