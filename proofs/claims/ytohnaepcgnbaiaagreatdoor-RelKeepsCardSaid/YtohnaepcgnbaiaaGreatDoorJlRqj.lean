/- Walks. Conditions: in the statements. -/
import Derived.Test.YtohnaepcgnbaiaaGreatDoorJlRp
import Derived.Test.YtohnaepcgnbaiaaGreatDoorJlEhj
import Derived.Laws.RangeAny
set_option maxHeartbeats 32000000
set_option linter.unusedSimpArgs false
set_option linter.unusedVariables false
set_option maxRecDepth 100000
namespace Go.Proofs.YtohnaepcgnbaiaaGreatDoor
open Go.RowKit
def sZ (l:TT):Bool:=(decide (l≠[]) && decide (l.length<=16)) && l.all tS
theorem sU {c:Nat}(h:128<=c):jM c=true:=by
 simp only[jM,Bool.and_eq_true,Bool.or_eq_true,decide_eq_true_eq]
 omega
theorem zTo (s:ByteArray):∀(f pos:Nat),s.size - pos<=f->(Lib.idxFuncFrom jM true s f pos<0↔∀(j:Nat) (b:UInt8),pos<=j->s.data.toList[j]?=some b->tS b=true)
 |0,pos,h=>by
  have hsz:s.data.toList.length=s.size:=by rw[Array.length_toList];rfl
  constructor
  ·intro _ j b hj hb
   have:=(x_.1 hb).1
   omega
  ·intro _;unfold Lib.idxFuncFrom;omega
 |f+1,pos,h=>by
  have hsz:s.data.toList.length=s.size:=by rw[Array.length_toList];rfl
  unfold Lib.idxFuncFrom
  by_cases hp:pos<s.size
  ·rw[if_pos hp]
   have hb:s.data.toList[pos]?=some (s[pos]'hp):=by
    rw[m_ (by omega)]
    rfl
   by_cases hhi:128<=(s[pos]'hp).toNat
   ·obtain⟨h1,h2⟩:=_root_.Go.decode_high s pos hp hhi
    rw[if_pos (sU h1)]
    constructor
    ·intro h;omega
    ·intro h
     have:=h pos _ (Nat.le_refl _) hb
     simp only[tS,sU hhi]at this
     cases this
   ·have hd:=_root_.Go.decode_ascii s pos hp (by omega)
    rw[hd]
    by_cases ho:jM (s[pos]'hp).toNat=true
    ·rw[if_pos ho]
     constructor
     ·intro h;omega
     ·intro h
      have:=h pos _ (Nat.le_refl _) hb
      simp only[tS,ho]at this
      cases this
    ·rw[if_neg ho,zTo s f (pos+1) (by omega)]
     constructor
     ·intro h j b hj hjb
      by_cases e:j=pos
      ·subst e
       rw[hb]at hjb
       injection hjb with hjb
       subst hjb
       simp only[tS]
       simpa using ho
      ·exact h j b (by omega) hjb
     ·intro h j b hj hjb
      exact h j b (by omega) hjb
  ·rw[if_neg hp]
   constructor
   ·intro _ j b hj hb
    have:=(x_.1 hb).1
    omega
   ·intro _;omega
theorem EN (l:TT):Lib.idxFunc jM true ⟨l.toArray⟩<0↔l.all tS=true:=by
 unfold Lib.idxFunc
 rw[zTo _ _ _ (by omega),List.all_eq_true]
 constructor
 ·intro h b hb
  obtain⟨j,hj⟩:=d_.1 hb
  exact h j b (Nat.zero_le _) (by simpa using hj)
 ·intro h j b _ hj
  exact h b (y_ (by simpa using hj))
theorem MZ (s:St)(l:TT):SRet Tryz.prog 159 [.str l,.fn 158 []] s (.int .i64 (Lib.idxFunc jM true ⟨l.toArray⟩)) s:=by
 intro w0 G w vs hS hA
 obtain⟨v1,v2,rfl,r1,r2⟩:=lz hA
 cases r1 with
 |str a=>
 cases r2 with
 |fn f vs xs hs hR=>
 have hv:vs=#[]:=by
  have:vs.size=0:=hs
  exact Array.eq_empty_of_size_eq_zero this
 subst hv
 refine(EM ⟨a⟩ w).mono ?_
 rintro e w' ⟨rfl,hb⟩
 exact⟨G,s,.ret (.int .i64 (Lib.idxFunc jM true ⟨a⟩)),Gh.le.refl G,hS.world hb,.int _ _,by simp,rfl⟩
theorem Fv (s:St)(l:TT):SRet Tryz.prog 119 [.str l] s (.bool (sZ l)) s:=by
 have w1:=MZ s l
 have h1:=EN l
 generalize Lib.idxFunc jM true ⟨l.toArray⟩=ix at *
 unfold sZ
 have h2:l.all tS=decide (ix<0):=by
  by_cases e:ix<0
  ·rw[h1.1 e];simp[e]
  ·have:l.all tS≠true:=fun h=>e (h1.2 h)
   simp only[Bool.not_eq_true]at this
   rw[this];simp[e]
 rw[h2]
 clear h1 h2
 by_cases h3:l=[]
 ·subst h3
  refine am Tryz.func119 rfl Tryz.ntmps119 rfl fun Q hQ hQe=>?_
  (repeat'(first|refine Ctl ?_|((with_reducible refine k_ hK ?_);clear hK hE K E)|(((with_reducible refine ab fun K E hK hE=>?_))<;>(try simp(disch:=omega) only[go_sem,seval, *]))))
  all_goals(refine aq qW hQ ?_)
  all_goals exact⟨_,_,Wk.refl _,Fg.refl _,rfl,rfl⟩
 ·by_cases h4:l.length<=16
  ·have h4':((l.length:Nat):Int)<=16:=by omega
   have e3:decide (l≠[])=true:=decide_eq_true h3
   have e4:decide (l.length<=16)=true:=decide_eq_true h4
   rw[e3,e4]
   clear e3 e4 h4
   refine am Tryz.func119 rfl Tryz.ntmps119 rfl fun Q hQ hQe=>?_
   (repeat'(first|refine Ctl ?_|((with_reducible refine k_ hK ?_);clear hK hE K E)|(((with_reducible first|refine ab fun K E hK hE=>?_|refine ae Mf (w1) ?_))<;>(try simp(disch:=omega) only[go_sem,seval,h3,h4', *]))))
   all_goals(refine aq qW hQ ?_)
   all_goals exact⟨_,_,Wk.refl _,Fg.refl _,by simp,rfl⟩
  ·have h4':¬ ((l.length:Nat):Int)<=16:=by omega
   have e3:decide (l≠[])=true:=decide_eq_true h3
   have e4:decide (l.length<=16)=false:=decide_eq_false h4
   rw[e3,e4]
   clear e3 e4 h4
   refine am Tryz.func119 rfl Tryz.ntmps119 rfl fun Q hQ hQe=>?_
   (repeat'(first|refine Ctl ?_|((with_reducible refine k_ hK ?_);clear hK hE K E)|(((with_reducible refine ab fun K E hK hE=>?_))<;>(try simp(disch:=omega) only[go_sem,seval,h3,h4', *]))))
   all_goals(refine aq qW hQ ?_)
   all_goals exact⟨_,_,Wk.refl _,Fg.refl _,by simp,rfl⟩
def fk:Nat->Nat->Nat
 |0,_=>0
 |f+1,m=>if m=0 then 0 else fk f (m / 2)+1
theorem jZ:∀(f m:Nat),fk f m<=f
 |0,_=>Nat.le_refl _
 |f+1,m=>by
  unfold fk
  split
  ·omega
  ·have:=jZ f (m / 2);omega
def cd (n:Nat):Nat:=fk 62 (n - 1)
attribute [-go_sem] bJ cX bH bG
theorem Cy (s:St)(n:Int):SRet Tryz.prog 118 [.int .i64 n] s (.tup (if 1<=n/\n<=4611686018427387903 then [.int .i64 (cd n.toNat:Nat),.int .i64 0] else [.int .i64 0,.int .i64 1])) s:=by
 by_cases h1:n<1
 ·rw[if_neg (by omega)]
  refine am Tryz.func118 rfl Tryz.ntmps118 rfl fun Q hQ hQe=>?_
  (repeat'(first|refine Ctl ?_|((with_reducible refine k_ hK ?_);clear hK hE K E)|((with_reducible refine bZ (fun h=>?_) (fun h=>?_))<;>(try(exfalso;assumption)))|(((with_reducible refine ab fun K E hK hE=>?_))<;>(try simp(disch:=omega) only[go_sem,seval,h1, *]))))
  all_goals(refine aq qX hQ ?_)
  all_goals exact⟨_,_,Wk.refl _,Fg.refl _,rfl,rfl⟩
 ·by_cases h2:n > 4611686018427387903
  ·rw[if_neg (by omega)]
   refine am Tryz.func118 rfl Tryz.ntmps118 rfl fun Q hQ hQe=>?_
   (repeat'(first|refine Ctl ?_|((with_reducible refine k_ hK ?_);clear hK hE K E)|((with_reducible refine bZ (fun h=>?_) (fun h=>?_))<;>(try(exfalso;assumption)))|(((with_reducible refine ab fun K E hK hE=>?_))<;>(try simp(disch:=omega) only[go_sem,seval,h1,h2, *]))))
   all_goals(refine aq qX hQ ?_)
   all_goals exact⟨_,_,Wk.refl _,Fg.refl _,rfl,rfl⟩
  ·rw[if_pos (by omega)]
   obtain⟨m,rfl⟩:∃m:Nat,n=((m+1:Nat):Int):=⟨n.toNat - 1,by omega⟩
   have e0:cd (((m+1:Nat):Int)).toNat=fk 62 m:=by simp[cd]
   rw[e0]
   clear e0
   have hm:m<2 ^ 62:=by omega
   have e1:(((m+1:Nat):Int)) - 1=(m:Int):=by omega
   have hH:Hid (∃f:Nat,f<=62):=o_ ⟨62,by omega⟩
   obtain⟨R,hR⟩:∃R,fk 62 m=R:=⟨_,rfl⟩
   rw[hR]
   have hR2:Hid (fk 62 m+0=R):=o_ hR
   have HRl:=o_ (show R<=62 by rw[<- hR];exact jZ _ _)
   clear hR
   refine am Tryz.func118 rfl Tryz.ntmps118 rfl fun Q hQ hQe=>?_
   (repeat'(first|refine Ctl ?_|((with_reducible refine k_ hK ?_);clear hK hE K E)|((with_reducible refine bZ (fun h=>?_) (fun h=>?_))<;>(try(exfalso;assumption)))|(((with_reducible refine ab fun K E hK hE=>?_))<;>(try simp(disch:=omega) only[go_sem,seval,h1,h2,e1, *]))))
   refine aY (fun fu env s'=>∃(k w:Nat),Hid (fk fu k+w=R/\k<2 ^ fu)/\fu<=62/\s'=s/\env 4=.int .i64 w/\env 5=.int .i64 k) 62 ⟨m,0,o_ ⟨hR2.out,hm⟩,by omega,rfl,ac,ac⟩ ?_
   clear hm h1 h2 e1 hR2 hH
   rintro fu env s' ⟨k,w,HH,hfu,rfl,e4,e5⟩
   have hRl:=HRl.out
   obtain⟨a1,a2⟩:=HH.out
   by_cases hk:k=0
   ·subst hk
    have hw:w=R:=by
     cases fu with
     |zero=>simpa [fk]using a1
     |succ f=>simpa [fk]using a1
    subst hw
    (repeat'(first|refine Ctl ?_|((with_reducible refine k_ hK ?_);clear hK hE K E)|((with_reducible refine bZ (fun h=>?_) (fun h=>?_))<;>(try(exfalso;assumption)))|(((with_reducible refine ab fun K E hK hE=>?_))<;>(try simp(disch:=omega) only[go_sem,seval, *]))))
    all_goals(refine aq qX hQ ?_)
    all_goals exact⟨_,_,Wk.refl _,Fg.refl _,rfl,rfl⟩
   ·cases fu with
    |zero=>exact absurd a2 (by simpa using hk)
    |succ f=>
     have a3:fk f (k / 2)+(w+1)=R:=by
      simp only[fk,if_neg hk]at a1
      omega
     have a4:k / 2<2 ^ f:=by rw[Nat.pow_succ]at a2;omega
     have hwl:w+1<=62:=by omega
     have hk62:k<2 ^ 62:=Nat.lt_of_lt_of_le a2 (Nat.pow_le_pow_right (by omega) hfu)
     have hsh:=wH (m:=k) (w:=1) hk62 (by omega)
     have hkp:(k:Int) > 0:=by omega
     have hkp2:(0:Int)<(k:Int):=by omega
     rw[Nat.pow_one]at hsh
     have hsh:bF .shr .i64 (k:Int) 1=some (.int .i64 ((k / 2:Nat):Int)):=hsh
     have hfd:(k:Int).fdiv (2 ^ min (Int.toNat 1) IntKind.i64.bits)=((k / 2:Nat):Int):=by
      have:bF .shr .i64 (k:Int) 1=some (.int .i64 ((k:Int).fdiv (2 ^ min (Int.toNat 1) IntKind.i64.bits))):=rfl
      rw[this]at hsh
      injection hsh with hsh
      injection hsh with _ hsh
     have H2:=o_ (And.intro a3 a4)
     have hk2:k / 2<=k:=Nat.div_le_self _ _
     clear a1 a2 a3 a4 HH
     generalize k / 2=kk at *
     (repeat'(first|refine Ctl ?_|((with_reducible refine k_ hK ?_);clear hK hE K E)|((with_reducible refine bZ (fun h=>?_) (fun h=>?_))<;>(try(exfalso;assumption)))|(((with_reducible refine ab fun K E hK hE=>?_))<;>(try simp(disch:=omega) only[go_sem,seval,hkp,hkp2,hsh,hfd, *]))))
     all_goals exact⟨f,by omega,kk,w+1,H2,by omega,rfl,ac,ac⟩
end Go.Proofs.YtohnaepcgnbaiaaGreatDoor
namespace Go.Proofs.YtohnaepcgnbaiaaGreatDoor
open Go.RowKit
abbrev Dm:=TT×Int
def cH (ds:List Dm):Ta:=ds.map fun d=>[.str d.1,.int .i64 d.2]
theorem iM {ds:List Dm}:(cH ds).length=ds.length:=by simp[cH]
theorem tD {ds:List Dm}{i:Nat}{d:Dm}(h:ds[i]?=some d):(cH ds)[i]?=some [.str d.1,.int .i64 d.2]:=by simp[cH,h]
def fj (l:TV):List (TT×Bool):=l.map fun k=>(k,true)
theorem si {k:TT}:∀{l:TV},(lkA k (fj l)).getD false=decide (k∈l)
 |[]=>rfl
 |a::l=>by
  have ih:=si (k:=k) (l:=l)
  simp only[fj,List.map_cons,lkA]at ih ⊢
  by_cases h:k=a
  ·subst h;simp
  ·rw[if_neg h,ih]
   simp[h]
theorem sh {k:TT}:∀{l:TV},k∉l->ptA k true (fj l)=fj (l++[k])
 |[],_=>rfl
 |a::l,h=>by
  have ih:=sh (k:=k) (l:=l) fun h2=>h (List.mem_cons_of_mem _ h2)
  simp only[fj,List.map_cons,ptA,List.cons_append]at ih ⊢
  rw[if_neg (fun e=>h (by rw[e];exact List.mem_cons_self ..)),ih]
def okD (sn:TV)(d:Dm):Bool:=((decide (1<=d.2) && decide (d.2<=1073741824)) && sZ d.1) && !decide (d.1∈sn)
def ms:TV->List Dm->Bool
 |_,[]=>true
 |sn,d::r=>okD sn d && ms (sn++[d.1]) r
def wdL (ds:List Dm):TW:=ds.map fun d=>cd d.2.toNat
def wdR (ds:List Dm):Tb:=if ms [] ds=true then [.lst (ak (wdL ds)) .no,.int .i64 ((wdL ds).sum:Nat),.bool (decide ((wdL ds).sum<=256) && decide (ds.length<=32))] else [.lst [] .no,.int .i64 0,.bool false]
theorem Wk.tupW {xs:Ta}{o:Own}{a c:VV}:Wk (.tup [.lst xs o,a,c]) (.tup [.lst xs .no,a,c]):=
 .tup rfl fun j x y hx hy=>by
  match j with
  |0=>simp at hx hy;subst hx;subst hy;exact .lst _ _
  |1=>simp at hx hy;subst hx;subst hy;exact .refl _
  |2=>simp at hx hy;subst hx;subst hy;exact .refl _
  |j+3=>simp at hx
theorem lB (s:St)(ds:List Dm)(ow:Own)(hl:ds.length<=1000000)(hnl:∀d,d∈ds->d.1.length<=1000000000):SRet Tryz.prog 93 [.lst (cH ds) ow] s (.tup (wdR ds)) s:=by
 have hat:=fun i d h=>tD (ds:=ds) (i:=i) (d:=d) h
 have hln:=iM (ds:=ds)
 obtain⟨R,hR⟩:∃R,wdR ds=R:=⟨_,rfl⟩
 rw[hR]
 have HR:=o_ hR
 have HAT:=o_ hat
 have HNL:=o_ hnl
 clear hR hat hnl
 generalize cH ds=D at *
 have hz0:fj []=[]:=rfl
 refine am Tryz.func93 rfl Tryz.ntmps93 rfl fun Q hQ hQe=>?_
 (repeat'(first|refine Ctl ?_|((with_reducible refine k_ hK ?_);clear hK hE K E)|((first|(with_reducible refine ab fun K E hK hE=>?_)|((with_reducible refine au (fun b hb=>?_))))<;>(try simp(disch:=omega) only[go_sem,seval,hln, *]))))
 obtain⟨bm,hbm⟩:∃z,z=b:=⟨_,rfl⟩
 subst hbm
 have HBM:=o_ hb
 refine bV (fun m env s'=>∃(i:Nat) (o:Own),i<=ds.length/\m+i=ds.length/\Hid (ms [] ds=ms ((ds.take i).map (·.1)) (ds.drop i)/\(wdL (ds.take i)).sum<=62 * i)/\OwnOk s o i/\cq o bm/\s'=(s.own o 3 1 i).set bm (.map (mpV bP (fj ((ds.take i).map (·.1)))))/\env 0=.lst D ow/\env 2=.lst (ak (wdL (ds.take i))) o/\env 3=.int .i64 ((wdL (ds.take i)).sum:Nat)/\env 5=.mp bm/\env 11=.lst D ow/\env 12=.int .i64 ds.length/\env 13=.int .i64 i) ds.length ?_ ?_
 ·exact⟨_,Fg.refl _,0,.full,by omega,by omega,o_ ⟨rfl,by simp[wdL]⟩,rfl,trivial,rfl,ac,ac,ac,ac,ac,ac,ac⟩
 rintro m env s' ⟨i,o,hi,hm,HN,hO,hno,rfl,e0,e2,e3,e5,e11,e12,e13⟩
 by_cases h7:i<ds.length
 ·have hk:=m_ h7
  have hkm:=List.getElem_mem h7
  have hdr:=c_ h7
  generalize ds[i]=d at hk hkm hdr
  have hx:=HAT.out i d hk
  have hnd:=HNL.out d hkm
  obtain⟨n1,n2⟩:=HN.out
  rw[hdr]at n1
  simp only[ms]at n1
  have htk:ds.take (i+1)=ds.take i++[d]:=by rw[List.take_add_one,hk];rfl
  have hsk:=si (k:=d.1) (l:=(ds.take i).map (·.1))
  have wn:=fun u=>Fv u d.1
  have ww:=fun u=>Cy u d.2
  obtain⟨nm,sz⟩:=d
  dsimp only at *
  have hfail:okD ((ds.take i).map (·.1)) (nm,sz)=false->R=[.lst [] .no,.int .i64 0,.bool false]:=fun h=>by
   rw[<- HR.out,wdR,if_neg]
   rw[n1,h]
   simp
  have hcont:okD ((ds.take i).map (·.1)) (nm,sz)=true->ms [] ds=ms ((ds.take (i+1)).map (·.1)) (ds.drop (i+1)):=fun h=>by
   rw[n1,h,Bool.true_and,htk,List.map_append]
   rfl
  have hfl:Fg ((s.own o 3 1 i).set bm (.map (mpV bP (fj ((ds.take i).map (·.1)))))) s:=Fg.setA (Fg.own hO) HBM.out
  have hwl:wdL (ds.take (i+1))=wdL (ds.take i)++[cd sz.toNat]:=by rw[htk,wdL,List.map_append];rfl
  have hpt:nm∉(ds.take i).map (·.1)->ptA nm true (fj ((ds.take i).map (·.1)))=fj ((ds.take (i+1)).map (·.1)):=fun h=>by
   rw[sh h,htk,List.map_append]
   rfl
  have hwb:cd sz.toNat<=62:=jZ _ _
  have HWL:=o_ hwl
  have HF:=o_ hfail
  have HC:=o_ hcont
  have HPT:=o_ hpt
  have HFL:=o_ hfl
  clear hk hkm hdr htk hfail hcont hfl hwl hpt n1 HN
  unfold okD at HF HC
  dsimp only at HF HC
  by_cases s1:1<=sz/\sz<=4611686018427387903
  ·simp only[if_pos s1]at ww
   by_cases s2:sz > 1073741824
   ·have hR:=HF.out (by simp;omega)
    subst hR
    (repeat'(first|refine Ctl ?_|((with_reducible refine k_ hK ?_);clear hK hE K E)|((with_reducible refine bZ (fun h=>?_) (fun h=>?_))<;>(try(exfalso;assumption)))|((first|(with_reducible first|refine ab fun K E hK hE=>?_|refine ae o0 (ww _) ?_)|((with_reducible refine au (fun b hb=>?_));(repeat(obtain⟨_,hb⟩:=hb))))<;>(try simp(disch:=omega) only[go_sem,seval,hx,s2, *]))))
    all_goals(refine aq lO hQ ?_)
    all_goals exact⟨_,_,Wk.tupW,Fg.trans (w_ _ (by rw[j_ _ _ (‹_›)];exact hb)) HFL.out,rfl,rfl⟩
   ·have s2':¬ 1073741824<sz:=by omega
    by_cases s3:sZ nm=true
    ·rw[s3]at wn
     by_cases s4:nm∈(ds.take i).map (·.1)
     ·have hR:=HF.out (by rw[s3,decide_eq_true s4];simp)
      subst hR
      rw[decide_eq_true s4]at hsk
      generalize fj ((ds.take i).map (·.1))=Sn at *
      (repeat'(first|refine Ctl ?_|((with_reducible refine k_ hK ?_);clear hK hE K E)|((with_reducible refine bZ (fun h=>?_) (fun h=>?_))<;>(try(exfalso;assumption)))|((first|(with_reducible first|refine ab fun K E hK hE=>?_|refine ae o0 (ww _) ?_|refine ae vH (wn _) ?_)|((with_reducible refine au (fun b hb=>?_));(repeat(obtain⟨_,hb⟩:=hb))))<;>(try simp(disch:=omega) only[go_sem,seval,hx,s2,s2',hsk, *]))))
      all_goals(refine aq lO hQ ?_)
      all_goals exact⟨_,_,Wk.tupW,Fg.trans (w_ _ (by rw[j_ _ _ (‹_›)];exact hb)) HFL.out,rfl,rfl⟩
     ·rw[decide_eq_false s4]at hsk
      have hp:=HPT.out s4
      have hc:=HC.out (by rw[s3,decide_eq_false s4,decide_eq_true s1.1,decide_eq_true (show sz<=1073741824 by omega)];rfl)
      have hsum:(wdL (ds.take (i+1))).sum=(wdL (ds.take i)).sum+cd sz.toNat:=by rw[HWL.out,List.sum_append];simp
      have hnl2:ak (wdL (ds.take (i+1)))=ak (wdL (ds.take i))++[[.int .i64 (cd sz.toNat:Int)]]:=by rw[HWL.out,dV]
      have hnl3:(ak (wdL (ds.take i))).length=i:=by
       rw[natsL_len,wdL,z_,r_]
       omega
      have HH:=o_ (And.intro hc (And.intro hsum hnl2))
      clear hc hsum hnl2 HF HC HPT s4
      generalize hSn2:fj ((ds.take (i+1)).map (·.1))=Sn2 at *
      have HSN:=o_ hSn2
      clear hSn2
      generalize fj ((ds.take i).map (·.1))=Sn at *
      generalize ak (wdL (ds.take i))=NL at *
      generalize (wdL (ds.take i)).sum=W0 at *
      generalize cd sz.toNat=wq at *
      (repeat'(first|(with_reducible refine aR 9 ?_)|refine Ctl ?_|((with_reducible refine k_ hK ?_);clear hK hE K E)|((with_reducible refine bZ (fun h=>?_) (fun h=>?_))<;>(try(exfalso;assumption)))|((first|(with_reducible first|refine ab fun K E hK hE=>?_|refine ae o0 (ww _) ?_|refine ae vH (wn _) ?_)|((with_reducible refine au (fun b hb=>?_));(repeat(obtain⟨_,hb⟩:=hb))))<;>(try simp(disch:=first|assumption|omega) only[go_sem,seval,hx,s2,s2',hsk,hp, *]))))
      unfold bC
      refine dr (s':=(s.own o 3 1 i).set bm (.map (mpV bP Sn2))) (w_ _ (by rw[j_ _ _ (‹_›)];exact hb)) ?_
      (repeat'(first|refine Ctl ?_|((with_reducible refine k_ hK ?_);clear hK hE K E)|((first|(with_reducible refine ab fun K E hK hE=>?_)|((with_reducible refine fC (fun o2 ho=>?_));(try simp(disch:=assumption) only[bz,bB,cZ,c6,z_,List.length_cons,List.length_nil,Nat.zero_add,hnl3]at ho);(repeat(obtain⟨_,ho⟩:=ho))))<;>(try simp(disch:=first|assumption|omega) only[go_sem,seval,hnl3, *]))))
      all_goals exact⟨_,Fg.refl _,m - 1,by omega,i+1,o2,by omega,by omega,o_ ⟨HH.out.1,by rw[HH.out.2.1];omega⟩,ho,‹_›,by rw[HSN.out],ac,by(rw[HH.out.2.2];((try simp(disch:=assumption) only[go_sem,seval, *])<;>rfl)),by(rw[HH.out.2.1];((try simp(disch:=assumption) only[go_sem,seval, *])<;>rfl)),ac,ac,ac,ac⟩
    ·have s3':sZ nm=false:=by simpa using s3
     rw[s3']at wn
     have hR:=HF.out (by simp[s3'])
     subst hR
     (repeat'(first|refine Ctl ?_|((with_reducible refine k_ hK ?_);clear hK hE K E)|((with_reducible refine bZ (fun h=>?_) (fun h=>?_))<;>(try(exfalso;assumption)))|((first|(with_reducible first|refine ab fun K E hK hE=>?_|refine ae o0 (ww _) ?_|refine ae vH (wn _) ?_)|((with_reducible refine au (fun b hb=>?_));(repeat(obtain⟨_,hb⟩:=hb))))<;>(try simp(disch:=omega) only[go_sem,seval,hx,s2,s2', *]))))
     all_goals(refine aq lO hQ ?_)
     all_goals exact⟨_,_,Wk.tupW,Fg.trans (w_ _ (by rw[j_ _ _ (‹_›)];exact hb)) HFL.out,rfl,rfl⟩
  ·simp only[if_neg s1]at ww
   have hR:=HF.out (by simp;omega)
   subst hR
   (repeat'(first|refine Ctl ?_|((with_reducible refine k_ hK ?_);clear hK hE K E)|((with_reducible refine bZ (fun h=>?_) (fun h=>?_))<;>(try(exfalso;assumption)))|((first|(with_reducible first|refine ab fun K E hK hE=>?_|refine ae o0 (ww _) ?_)|((with_reducible refine au (fun b hb=>?_));(repeat(obtain⟨_,hb⟩:=hb))))<;>(try simp(disch:=omega) only[go_sem,seval,hx, *]))))
   all_goals(refine aq lO hQ ?_)
   all_goals exact⟨_,_,Wk.tupW,Fg.trans (w_ _ (by rw[j_ _ _ (‹_›)];exact hb)) HFL.out,rfl,rfl⟩
 ·have hie:i=ds.length:=by omega
  subst hie
  have ht:ds.take ds.length=ds:=b_
  have hd:ds.drop ds.length=[]:=B_
  obtain⟨n1,n2⟩:=HN.out
  rw[ht,hd]at n1
  rw[ht]at n2 e2 e3 ⊢
  simp only[ms]at n1
  have hR:R=[.lst (ak (wdL ds)) .no,.int .i64 ((wdL ds).sum:Nat),.bool (decide ((wdL ds).sum<=256) && decide (ds.length<=32))]:=by rw[<- HR.out,wdR,if_pos n1]
  have HRR:=o_ hR
  clear hR HR
  have hfl:Fg ((s.own o 3 1 ds.length).set bm (.map (mpV bP (fj (ds.map (·.1)))))) s:=Fg.setA (Fg.own hO) HBM.out
  have HFL:=o_ hfl
  clear ht hd n1 hfl HN
  generalize ak (wdL ds)=NL at *
  generalize (wdL ds).sum=W0 at *
  by_cases s1:W0<=256
  ·have s1':(W0:Int)<=256:=by omega
   by_cases s2:ds.length<=32
   ·have s2':(ds.length:Int)<=32:=by omega
    (repeat'(first|refine Ctl ?_|((with_reducible refine k_ hK ?_);clear hK hE K E)|((with_reducible refine bZ (fun h=>?_) (fun h=>?_))<;>(try(exfalso;assumption)))|(((with_reducible refine ab fun K E hK hE=>?_))<;>(try simp(disch:=omega) only[go_sem,seval,s1',s2',hln, *]))))
    all_goals(refine aq lO hQ ?_)
    all_goals(rw[HRR.out,decide_eq_true s1,decide_eq_true s2];exact⟨_,_,Wk.tupW,HFL.out,rfl,rfl⟩)
   ·have s2':¬ (ds.length:Int)<=32:=by omega
    (repeat'(first|refine Ctl ?_|((with_reducible refine k_ hK ?_);clear hK hE K E)|((with_reducible refine bZ (fun h=>?_) (fun h=>?_))<;>(try(exfalso;assumption)))|(((with_reducible refine ab fun K E hK hE=>?_))<;>(try simp(disch:=omega) only[go_sem,seval,s1',s2',hln, *]))))
    all_goals(refine aq lO hQ ?_)
    all_goals(rw[HRR.out,decide_eq_true s1,decide_eq_false s2];exact⟨_,_,Wk.tupW,HFL.out,rfl,rfl⟩)
  ·have s1':¬ (W0:Int)<=256:=by omega
   (repeat'(first|refine Ctl ?_|((with_reducible refine k_ hK ?_);clear hK hE K E)|((with_reducible refine bZ (fun h=>?_) (fun h=>?_))<;>(try(exfalso;assumption)))|(((with_reducible refine ab fun K E hK hE=>?_))<;>(try simp(disch:=omega) only[go_sem,seval,s1',hln, *]))))
   all_goals(refine aq lO hQ ?_)
   all_goals(rw[HRR.out,decide_eq_false s1,Bool.false_and];exact⟨_,_,Wk.tupW,HFL.out,rfl,rfl⟩)
def iW (ds:List Dm):Bool:=ms [] ds && (decide ((wdL ds).sum<=256) && decide (ds.length<=32))
theorem Ce (s:St)(ds:List Dm)(ow:Own)(hl:ds.length<=1000000)(hnl:∀d,d∈ds->d.1.length<=1000000000):SRet Tryz.prog 58 [.lst (cH ds) ow] s (.int .i64 (if iW ds=true then 0 else 1)) s:=by
 have w1:=lB s ds ow hl hnl
 unfold wdR at w1
 unfold iW
 generalize cH ds=D at *
 cases h1:ms [] ds
 ·rw[h1]at w1
  simp only[Bool.false_eq_true,if_false]at w1
  simp only[Bool.false_and,Bool.false_eq_true,if_false]
  refine am Tryz.func58 rfl Tryz.ntmps58 rfl fun Q hQ hQe=>?_
  (repeat'(first|refine Ctl ?_|((with_reducible refine k_ hK ?_);clear hK hE K E)|((with_reducible refine bZ (fun h=>?_) (fun h=>?_))<;>(try(exfalso;assumption)))|(((with_reducible first|refine ab fun K E hK hE=>?_|refine ae kA (w1) ?_))<;>(try simp(disch:=omega) only[go_sem,seval, *]))))
  all_goals(refine aq wS hQ ?_)
  all_goals exact⟨_,_,Wk.refl _,Fg.refl _,rfl,rfl⟩
 ·rw[h1]at w1
  simp only[if_true]at w1
  rw[Bool.true_and]
  generalize ak (wdL ds)=NL at *
  generalize (decide ((wdL ds).sum<=256) && decide (ds.length<=32))=B at *
  generalize (wdL ds).sum=W0 at *
  cases B
  ·simp only[Bool.false_eq_true,if_false]
   refine am Tryz.func58 rfl Tryz.ntmps58 rfl fun Q hQ hQe=>?_
   (repeat'(first|refine Ctl ?_|((with_reducible refine k_ hK ?_);clear hK hE K E)|((with_reducible refine bZ (fun h=>?_) (fun h=>?_))<;>(try(exfalso;assumption)))|(((with_reducible first|refine ab fun K E hK hE=>?_|refine ae kA (w1) ?_))<;>(try simp(disch:=omega) only[go_sem,seval, *]))))
   all_goals(refine aq wS hQ ?_)
   all_goals exact⟨_,_,Wk.refl _,Fg.refl _,rfl,rfl⟩
  ·simp only[if_true]
   refine am Tryz.func58 rfl Tryz.ntmps58 rfl fun Q hQ hQe=>?_
   (repeat'(first|refine Ctl ?_|((with_reducible refine k_ hK ?_);clear hK hE K E)|((with_reducible refine bZ (fun h=>?_) (fun h=>?_))<;>(try(exfalso;assumption)))|(((with_reducible first|refine ab fun K E hK hE=>?_|refine ae kA (w1) ?_))<;>(try simp(disch:=omega) only[go_sem,seval, *]))))
   all_goals(refine aq wS hQ ?_)
   all_goals exact⟨_,_,Wk.refl _,Fg.refl _,rfl,rfl⟩
theorem Fw (s:St)(ds:List Dm)(ow:Own)(hl:ds.length<=1000000)(hnl:∀d,d∈ds->d.1.length<=1000000000):SRet Tryz.prog 59 [.lst (cH ds) ow] s (.int .i64 (if iW ds=true then((wdL ds).sum:Nat)else 0)) s:=by
 have w1:=lB s ds ow hl hnl
 unfold wdR at w1
 unfold iW
 generalize cH ds=D at *
 cases h1:ms [] ds
 ·rw[h1]at w1
  simp only[Bool.false_eq_true,if_false]at w1
  simp only[Bool.false_and,Bool.false_eq_true,if_false]
  refine am Tryz.func59 rfl Tryz.ntmps59 rfl fun Q hQ hQe=>?_
  (repeat'(first|refine Ctl ?_|((with_reducible refine k_ hK ?_);clear hK hE K E)|((with_reducible refine bZ (fun h=>?_) (fun h=>?_))<;>(try(exfalso;assumption)))|(((with_reducible first|refine ab fun K E hK hE=>?_|refine ae kA (w1) ?_))<;>(try simp(disch:=omega) only[go_sem,seval, *]))))
  all_goals(refine aq wR hQ ?_)
  all_goals exact⟨_,_,Wk.refl _,Fg.refl _,rfl,rfl⟩
 ·rw[h1]at w1
  simp only[if_true]at w1
  rw[Bool.true_and]
  generalize ak (wdL ds)=NL at *
  generalize (decide ((wdL ds).sum<=256) && decide (ds.length<=32))=B at *
  generalize (wdL ds).sum=W0 at *
  cases B
  ·simp only[Bool.false_eq_true,if_false]
   refine am Tryz.func59 rfl Tryz.ntmps59 rfl fun Q hQ hQe=>?_
   (repeat'(first|refine Ctl ?_|((with_reducible refine k_ hK ?_);clear hK hE K E)|((with_reducible refine bZ (fun h=>?_) (fun h=>?_))<;>(try(exfalso;assumption)))|(((with_reducible first|refine ab fun K E hK hE=>?_|refine ae kA (w1) ?_))<;>(try simp(disch:=omega) only[go_sem,seval, *]))))
   all_goals(refine aq wR hQ ?_)
   all_goals exact⟨_,_,Wk.refl _,Fg.refl _,rfl,rfl⟩
  ·simp only[if_true]
   refine am Tryz.func59 rfl Tryz.ntmps59 rfl fun Q hQ hQe=>?_
   (repeat'(first|refine Ctl ?_|((with_reducible refine k_ hK ?_);clear hK hE K E)|((with_reducible refine bZ (fun h=>?_) (fun h=>?_))<;>(try(exfalso;assumption)))|(((with_reducible first|refine ab fun K E hK hE=>?_|refine ae kA (w1) ?_))<;>(try simp(disch:=omega) only[go_sem,seval, *]))))
   all_goals(refine aq wR hQ ?_)
   all_goals exact⟨_,_,Wk.refl _,Fg.refl _,rfl,rfl⟩
open Go.RowKit Go.Sort
def ck (c:UInt8):TT->TV
 |[]=>[[]]
 |b::l=>if b=c then []::ck c l else match ck c l with
  |[]=>[[b]]
  |p::r=>(b::p)::r
theorem vu (b c:UInt8)(l:TT)(h:b≠c):Lib.index (b::l) [c]=if Lib.index l [c] == -1 then -1 else Lib.index l [c]+1:=by
 have hp:([c]:TT).isPrefixOf (b::l)=false:=by simp[List.isPrefixOf,Ne.symm h]
 rw[Lib.index,hp];simp
theorem x9 (b c:UInt8)(h:b≠c):∀(k:Nat) (l:TT),∃p r,Lib.splitK [c] 0 k l=p::r/\Lib.splitK [c] 0 k (b::l)=(b::p)::r
 |0,l=>⟨l,[],rfl,rfl⟩
 |k+1,l=>by
  have hix:=vu b c l h
  by_cases hm:Lib.index l [c]=-1
  ·refine⟨l,[],?_,?_⟩
   ·unfold Lib.splitK;rw[if_pos (beq_iff_eq.2 hm)]
   ·unfold Lib.splitK;rw[if_pos];rw[hix,if_pos (beq_iff_eq.2 hm)];rfl
  ·have hge:=Lib.index_ge l [c]
   obtain⟨j,hj⟩:∃j:Nat,Lib.index l [c]=j:=⟨(Lib.index l [c]).toNat,by omega⟩
   have hix':Lib.index (b::l) [c]=((j+1:Nat):Int):=by rw[hix,if_neg (fun e=>hm (beq_iff_eq.1 e)),hj];omega
   have n1:¬ (Lib.index l [c] == -1)=true:=fun e=>hm (beq_iff_eq.1 e)
   have n2:¬ (Lib.index (b::l) [c] == -1)=true:=fun e=>by have:=beq_iff_eq.1 e;omega
   refine⟨l.take j,Lib.splitK [c] 0 k (l.drop (j+1)),?_,?_⟩
   ·rw[Lib.splitK,if_neg n1,hj];rfl
   ·rw[Lib.splitK,if_neg n2,hix']
    rfl
theorem pS (c:UInt8):∀s:TT,Lib.split s [c]=ck c s
 |[]=>by
  have:Lib.count [] [c]=0:=by rw[Lib.count_one];rfl
  rw[Lib.split,this];rfl
 |b::l=>by
  have ih:=pS c l
  unfold Lib.split at ih ⊢
  by_cases h:b=c
  ·subst h
   have hix:Lib.index (b::l) [b]=0:=by rw[Lib.index];simp[List.isPrefixOf]
   rw[Lib.count_cons_eq,Nat.add_comm,Lib.splitK,if_neg (by rw[hix];decide),hix]
   simp only[ck,if_true]
   rw[<- ih]
   rfl
  ·rw[Lib.count_cons_ne b c l h]
   obtain⟨p,r,h1,h2⟩:=x9 b c h (Lib.count l [c]) l
   rw[h2]
   simp only[ck,if_neg h]
   rw[<- ih,h1]
theorem jg (c:UInt8):∀s:TT,(ck c s).length<=s.length+1
 |[]=>Nat.le_refl _
 |b::l=>by
  have ih:=jg c l
  simp only[ck]
  split
  ·simp;omega
  ·split
   ·simp
   ·rename_i h;rw[h]at ih;simp at ih ⊢;omega
theorem xQ (s:St)(l:TT)(c:UInt8)(hl:l.length<4294967281):SRet Tryz.prog 94 [.str l,.str [c]] s (.lst (az (ck c l)) .no) s:=by
 intro w0 G w vs hS hA
 obtain⟨v1,v2,rfl,r1,r2⟩:=lz hA
 obtain⟨a,ha,rfl⟩:∃a:Array UInt8,a.toList=l/\v1=.string ⟨a⟩:=by cases r1;exact⟨_,rfl,rfl⟩
 obtain⟨sep,hsep,rfl⟩:∃a:Array UInt8,a.toList=[c]/\v2=.string ⟨a⟩:=by
  obtain⟨q,hq⟩:∃q,q=[c]:=⟨_,rfl⟩
  rw[<- hq]at r2
  cases r2
  exact⟨_,hq,rfl⟩
 obtain⟨m,hm⟩:=hS.gl
 have hlt:0<w0.heap.size:=World.block_lt_of_cell? _ _ hm
 have hm':w.cell? ⟨0,0,none⟩=some (.int .i64 m):=(hS.below.cell (p:=⟨0,0,none⟩) hlt).trans hm
 have hsz:(⟨a⟩:ByteArray).size<4294967281:=by
  have:(⟨a⟩:ByteArray).size=a.toList.length:=by rw[Array.length_toList];rfl
  rw[this,ha];exact hl
 have hs1:1<=(⟨sep⟩:ByteArray).size:=by
  have:(⟨sep⟩:ByteArray).size=sep.toList.length:=by rw[Array.length_toList];rfl
  rw[this,hsep];simp
 refine(Tryz.strings_Split ⟨a⟩ ⟨sep⟩ m w hsz hm' hs1).mono ?_
 rintro e w' ⟨rfl,rfl⟩
 obtain⟨PB,hPB⟩:∃PB,PB=Lib.splitB ⟨sep⟩ 0 (Lib.countB ⟨a⟩ ⟨sep⟩) ⟨a⟩:=⟨_,rfl⟩
 have hlen:PB.length=Lib.countB ⟨a⟩ ⟨sep⟩+1:=by rw[hPB];exact Lib.splitB_all _ hs1 0 _ _ rfl
 have hdat:PB.map (·.data.toList)=ck c l:=by
  rw[hPB,Lib.splitB_data,<- pS]
  show Lib.splitK sep.toList 0 (Lib.count a.toList sep.toList) a.toList=_
  rw[hsep,ha];rfl
 rw[<- hPB,<- hlen]
 have hSn:Below w.heap.size w (w.alloc (.cells (PB.map Value.string).toArray 9)):=(Below.refl _ w).alloc (Nat.le_refl _) _
 obtain⟨G',g1,g2,g3⟩:=hS.know hSn w.heap.size (Nat.le_refl _) (fun i=>(PB[i]?).map Value.string) fun i v hv=>by
  simp only[World.cell?,heap_alloc_new]
  simpa using hv
 refine⟨G',s,.ret (.lst (az (ck c l)) .no),g1,g2,?_,rfl,rfl⟩
 refine .lst w.heap.size 0 PB.length PB.length 1 (az (ck c l)) .no (fun i _=>.string ((PB[i]?).getD ⟨#[]⟩)) (by rw[<- hdat];simp[az]) (Nat.le_refl _) ?_ ?_ ?_ ?_ (.inl rfl)
 ·intro x hx
  obtain⟨y,_,rfl⟩:=A_.1 hx
  rfl
 ·intro x hx y hy
  obtain⟨z,_,rfl⟩:=A_.1 hx
  rw[a_]at hy
  subst hy
  rfl
 ·intro i j hi hj
  have:j=0:=by omega
  subst this
  have:=g3 i (.string PB[i]) (by rw[m_ hi];rfl)
  rw[m_ hi]
  simpa using this
 ·intro i j x y hx hy
  simp only[az,<- hdat,List.map_map,n_]at hx
  obtain⟨z,hz,rfl⟩:=Option.map_eq_some_iff.1 hx
  have hj:j=0:=by
   have:=(x_.1 hy).1
   simp at this;exact this
  subst hj
  simp at hy
  subst hy
  rw[hz]
  obtain⟨b⟩:=z
  exact .str b
theorem MY (s:St)(g:Nat)(T:TypeId)(zs:TZ)(hn:zs.length<=100000000)(hs:s g=.row T 1 (aM zs)) :
  SRet Tryz.prog 97 [.mrw g zs.length] s (.tup []) (s.set g (.row T 1 (aM zs.reverse))):=by
 intro w0 G w vs hS hA
 obtain⟨v1,rfl,r1⟩:=d7 hA
 cases r1 with
 |mrw _ _ cap sz hq hc=>
 have hok:=hS.ok g
 rw[hs]at hok
 obtain⟨hB,hnK,c,cap',hh,hq',hcs,hl,hm,hx⟩:=hok
 have hil:(aM zs).length=zs.length:=by simp[aM]
 rw[hil]at hl
 have hblk:g<w.heap.size:=hS.lt (by rw[hs];simp)
 have hcell:∀(i:Nat) (z:Int),zs[i]?=some z->c[i]?=some (.int .i64 z):=fun i z hz=>by
  obtain⟨_,v,h1,h2⟩:=hx i (.int .i64 z) (by simp[aM,hz])
  cases h2
  exact h1
 have hH:Holds (Value.int .i64) w g 0 zs.toArray:=fun j hj=>by
  rw[List.size_toArray]at hj
  have h1:=hcell j _ (m_ hj)
  constructor
  ·rw[getElem!_pos _ j (by simpa using hj)]
   simp only[World.cell?,Nat.zero_add,hh]
   simpa using h1
  ·simp[World.frozen?,hh]
 refine(Tryz.slices_Reverse_int g 0 cap zs w hH (by omega)).mono ?_
 rintro e w' ⟨rfl,n,rfl⟩
 have hS1:Sim w0 G (Sort.ahead w n) s:=hS.world ⟨rfl,rfl,rfl,Nat.le_refl _,fun _ _=>rfl⟩
 obtain⟨d',hd'⟩:∃d',d'=zs.reverse.toArray:=⟨_,rfl⟩
 have hdl:d'.size=zs.length:=by rw[hd',List.size_toArray,List.length_reverse]
 rw[<- hd']
 have hmod:∀k,(Sort.putRow (Value.int .i64) (Sort.ahead w n) g 0 d').heap[k]?=if g=k then(w.heap[k]?).map (onCells (putCells (Value.int .i64) 0 d'))else w.heap[k]?:=fun k=>Array.getElem?_modify ..
 have hS2:=hS1.set_row hs (Sort.putRow (Value.int .i64) (Sort.ahead w n) g 0 d') c (putCells (Value.int .i64) 0 d' c) (ys:=aM zs.reverse) hh
  ⟨rfl,rfl,rfl,by simp[Sort.putRow,mapBlock],fun k hk=>by rw[hmod,if_neg (by omega)];rfl⟩ (by simp[Sort.putRow,mapBlock]) (by rw[hmod,if_pos rfl,hh];rfl) (fun k hk=>by rw[hmod,if_neg (Ne.symm hk)];rfl)
  (by simp[putCells]) (by simp only[aM,z_,List.length_reverse];rw[hcs];exact hl) (fun i x hi=>by
   simp only[aM,n_]at hi
   obtain⟨k,hk,rfl⟩:=Option.map_eq_some_iff.1 hi
   have hil:=(x_.1 hk).1
   rw[List.length_reverse]at hil
   refine⟨rfl,.int .i64 k,?_,.int _ _⟩
   have hid:i<d'.size:=by omega
   have hdk:d'[i]=k:=by
    have h3:d'.toList[i]?=some k:=by rw[hd'];exact hk
    rw[Array.getElem?_toList,Array.getElem?_eq_getElem hid]at h3
    injection h3
   have hic:i<c.size:=by rw[hcs];omega
   simp only[putCells,Array.getElem?_mapIdx,Array.getElem?_eq_getElem hic,Option.map_some,Nat.zero_le,Nat.zero_add,true_and,hid,if_true,Nat.sub_zero]
   rw[getElem!_pos d' i hid,hdk])
 refine⟨G,_,.ret (.tup []),Gh.le.refl G,hS2,.tup #[] [] rfl (fun j v y h=>by simp at h),rfl,rfl⟩
theorem FB (s:St):SRet Tryz.prog 97 [.raw (.slice none 0 0)] s (.tup []) s:=by
 intro w0 G w vs hS hA
 obtain⟨v1,rfl,r1⟩:=d7 hA
 cases r1 with
 |raw=>
 refine(Tryz.slices_Reverse_int_empty none 0 w).mono ?_
 rintro e w' ⟨rfl,rfl⟩
 exact⟨G,s,.ret (.tup []),Gh.le.refl G,hS,R.tup #[] [] rfl (fun j v y h=>by simp at h),rfl,rfl⟩
def ixD (nm:TT):List Dm->Nat->Int
 |[],_=>-1
 |d::r,i=>if d.1=nm then(i:Int)else ixD nm r (i+1)
theorem MN (s:St)(sb:Nat)(nm x:TT)(sz:Int)(hs:s sb=.obj 9 [.str x]):SRet Tryz.prog 96 [.agg [.str nm,.int .i64 sz],.ptr sb 0] s (.bool (decide (nm=x))) s:=by
 have hf:s sb≠.free:=by rw[hs];simp
 refine am Tryz.func96 rfl Tryz.ntmps96 rfl fun Q hQ hQe=>?_
 (repeat'(first|refine Ctl ?_|((with_reducible refine k_ hK ?_);clear hK hE K E)|((first|(with_reducible refine ab fun K E hK hE=>?_)|((with_reducible refine au (fun b hb=>?_));(try(obtain⟨_,_⟩:=nef hb hf))))<;>(try simp(disch:=omega) only[go_sem,seval, *]))))
 all_goals(refine aq FL hQ ?_)
 exact⟨_,_,Wk.refl _,w_ _ hb,rfl,rfl⟩
theorem MO (s:St)(sb:Nat)(x:TT)(ds:List Dm)(ow:Own)(hl:ds.length<=1000000)(hs:s sb=.obj 9 [.str x]) :
  SRet Tryz.prog 95 [.lst (cH ds) ow,.fn 96 [.ptr sb 0]] s (.int .i64 (ixD x ds 0)) s:=by
 have w1:=fun nm sz=>MN s sb nm x sz hs
 have hln:=iM (ds:=ds)
 have hat:=fun i d h=>tD (ds:=ds) (i:=i) (d:=d) h
 have HA:=o_ hat
 clear hat hs
 obtain⟨R,hR⟩:∃R,ixD x ds 0=R:=⟨_,rfl⟩
 rw[hR]
 have h0:Hid (ixD x (ds.drop 0) 0=R):=o_ (by rw[List.drop_zero];exact hR)
 clear hR
 generalize cH ds=L at *
 refine am Tryz.func95 rfl Tryz.ntmps95 rfl fun Q hQ hQe=>?_
 (repeat'(first|refine Ctl ?_|((with_reducible refine k_ hK ?_);clear hK hE K E)|(((with_reducible refine ab fun K E hK hE=>?_))<;>(try simp(disch:=omega) only[go_sem,seval,hln, *]))))
 refine aY (fun m env s'=>∃(i:Nat),i<=ds.length/\m+i=ds.length/\Hid (ixD x (ds.drop i) i=R)/\s'=s/\env 0=.lst L ow/\env 1=.fn 96 [.ptr sb 0]/\env 7=.int .i64 ds.length/\env 8=.int .i64 i) ds.length
  ⟨0,by omega,by omega,h0,rfl,ac,ac,ac,ac⟩ ?_
 rintro m env s' ⟨i,hi,hm,HR,rfl,e0,e1,e7,e8⟩
 by_cases h2:i<ds.length
 ·have hx:=HA.out i _ (m_ h2)
  have hd:=c_ h2
  have hr:=HR.out
  rw[hd]at hr
  simp only[ixD]at hr
  generalize ds[i]=d at *
  obtain⟨nm,sz⟩:=d
  dsimp only at hx hr
  have w2:=w1 nm sz
  by_cases e:nm=x
  ·rw[if_pos e]at hr
   rw[decide_eq_true e]at w2
   have HRR:=o_ hr
   clear hr hd e w1 HR
   (repeat'(first|refine Ctl ?_|((with_reducible refine k_ hK ?_);clear hK hE K E)|((with_reducible refine bZ (fun h=>?_) (fun h=>?_))<;>(try(exfalso;assumption)))|(((with_reducible first|refine ab fun K E hK hE=>?_|refine ae GD (w2) ?_))<;>(try simp(disch:=omega) only[go_sem,seval,hx, *]))))
   all_goals(refine aq zU hQ ?_)
   all_goals(rw[<- HRR.out];exact⟨_,_,Wk.refl _,Fg.refl _,rfl,rfl⟩)
  ·rw[if_neg e]at hr
   rw[decide_eq_false e]at w2
   have HRR:=o_ hr
   clear hr hd e w1 HR
   (repeat'(first|refine Ctl ?_|((with_reducible refine k_ hK ?_);clear hK hE K E)|((with_reducible refine bZ (fun h=>?_) (fun h=>?_))<;>(try(exfalso;assumption)))|(((with_reducible first|refine ab fun K E hK hE=>?_|refine ae GD (w2) ?_))<;>(try simp(disch:=omega) only[go_sem,seval,hx, *]))))
   all_goals exact⟨m - 1,by omega,i+1,by omega,by omega,HRR,rfl,ac,ac,ac,ac⟩
 ·have hr:=HR.out
  rw[List.drop_of_length_le (by omega)]at hr
  simp only[ixD]at hr
  have HRR:=o_ hr
  clear hr HR
  (repeat'(first|refine Ctl ?_|((with_reducible refine k_ hK ?_);clear hK hE K E)|((with_reducible refine bZ (fun h=>?_) (fun h=>?_))<;>(try(exfalso;assumption)))|(((with_reducible refine ab fun K E hK hE=>?_))<;>(try simp(disch:=omega) only[go_sem,seval, *]))))
  all_goals(refine aq zU hQ ?_)
  all_goals(rw[<- HRR.out];exact⟨_,_,Wk.refl _,Fg.refl _,rfl,rfl⟩)
end Go.Proofs.YtohnaepcgnbaiaaGreatDoor
namespace Go.Proofs.YtohnaepcgnbaiaaGreatDoor
open Go.RowKit
section
variable {w0 w : World} {G : Gh} {s : St} {b g i n : Nat} {T T' : TypeId} {xs cs cs' : Tb}
theorem Ha {l:Tb}{i:Nat}{x y:VV}(h:l[i]?=some x):(l.set i y)[i]?=some y:=e_ (x_.1 h).1
theorem GSg.frz1 (hb:s b=.obj T cs)(hi:cs[i]?=some (.mrw g n))(hg:s g=.row T' 1 xs)(hn:xs.length=n) :
  GSg s ((s.set g .free).set b (.obj T (cs.set i (.lst (xs.map fun y=>[y]) .no)))):=by
 intro w0 G w h
 have hne:¬ b=g:=by rintro rfl;rw[hb]at hg;cases hg
 obtain⟨G',hle,hS,hK,_⟩:=h.frzR hg
 have hob:=hS.ok b
 rw[j_ _ _ hne,hb]at hob
 obtain⟨hB,hnK,c,hc,hsz,hx⟩:=hob
 refine⟨G',hle,hS.below,hS.K,hS.cap,fun x=>?_,hS.gl,hS.rows.keep' (Gh.le.refl _) (Nat.le_refl _) (fun g' _ hg'=>⟨?_,rfl,fun _=>rfl⟩) (fun b' T xs rs hb'=>?_)⟩
 ·by_cases hxb:x=b
  ·subst hxb
   rw[q_]
   refine⟨hB,hnK,c,hc,by rw[hsz,List.length_set],fun j y hj=>?_⟩
   by_cases hji:j=i
   ·subst hji
    rw[Ha hi]at hj
    injection hj with hj
    subst hj
    obtain⟨_,v,hv,hr⟩:=hx j _ hi
    exact⟨rfl,v,hv,R.frz hn hK hr⟩
   ·rw[i_ (Ne.symm hji)]at hj
    exact hx j y hj
  ·rw[j_ _ _ hxb];exact hS.ok x
 ·by_cases e:g'=b
  ·subst e;rw[j_ _ _ hne,hb]at hg';cases hg'
  ·rw[j_ _ _ e];exact hg'
 ·by_cases e:b'=b
  ·subst e;rw[q_]at hb';cases hb'
  ·rw[j_ _ _ e]at hb';exact⟨hb',rfl⟩
theorem GS.wkc (hb:s b=.obj T cs)(hl:cs'.length=cs.length)(hw:∀(i:Nat) (y':VV),cs'[i]?=some y'->∃y,cs[i]?=some y/\Wk y y'/\y'.one=true):GS s (s.set b (.obj T cs')):=by
 intro w0 G w hS
 have hob:=hS.ok b
 rw[hb]at hob
 obtain⟨hB,hnK,c,hc,hsz,hx⟩:=hob
 refine⟨hS.below,hS.K,hS.cap,fun x=>?_,hS.gl,hS.rows.keep' (Gh.le.refl _) (Nat.le_refl _) (fun g' _ hg'=>⟨?_,rfl,fun _=>rfl⟩) (fun b' T xs rs hb'=>?_)⟩
 ·by_cases hxb:x=b
  ·subst hxb
   rw[q_]
   refine⟨hB,hnK,c,hc,by rw[hsz,hl],fun j y hj=>?_⟩
   obtain⟨y0,h1,h2,h3⟩:=hw j y hj
   obtain⟨_,v,hv,hr⟩:=hx j _ h1
   exact⟨h3,v,hv,h2 _ _ hr⟩
  ·rw[j_ _ _ hxb];exact hS.ok x
 ·by_cases e:g'=b
  ·subst e;rw[hb]at hg';cases hg'
  ·rw[j_ _ _ e];exact hg'
 ·by_cases e:b'=b
  ·subst e;rw[q_]at hb';cases hb'
  ·rw[j_ _ _ e]at hb';exact⟨hb',rfl⟩
end
theorem Wk.toraw:Wk (.lst [] .full) (.raw (.slice none 0 0)):=fun G v hr=>by
 cases hr with
 |emp a cap o ho=>
  rcases ho with ho|⟨_,rfl,rfl⟩
  ·cases ho
  ·exact .raw _
 |lst b off len cap sz xs o f hl hc hz h1 hK hR ho=>
  simp at hl
  subst hl
  rcases ho with ho|⟨_,_,h0⟩|⟨ho,_⟩
  ·cases ho
  ·omega
  ·cases ho
structure PlS (s u:St) (bO:Nat) (xs:Tb) (out:TU):Prop where
 o:u bO=.obj 28 xs
 nO:s bO=.free
 ln:xs.length=out.length
 c:∀(k:Nat) (r:TW),out[k]?=some r->(r=[]/\xs[k]?=some (.raw (.slice none 0 0)))\/∃g,xs[k]?=some (.mrw g r.length)/\u g=.row 3 1 (aM (r.map fun(k:Nat)=>(k:Int)))/\s g=.free
 ap:∀(k k' g n n':Nat),xs[k]?=some (.mrw g n)->xs[k']?=some (.mrw g n')->k=k'
 fr:∀z,s z≠.free->u z=s z
theorem PlS.ne {s u:St}{bO:Nat}{xs:Tb}{out:TU}(h:PlS s u bO xs out){k g n:Nat}(hk:xs[k]?=some (.mrw g n)):g≠bO:=fun e=>by
 have hl:k<out.length:=by rw[<- h.ln];exact(x_.1 hk).1
 rcases h.c k _ (m_ hl)with ⟨_,e2⟩|⟨g',e2,e3,_⟩
 ·rw[hk]at e2;cases e2
 ·rw[hk]at e2
  injection e2 with e2
  injection e2 with e2 _
  rw[<- e2,e,h.o]at e3
  cases e3
theorem PlS.step {s u v:St}{bO k:Nat}{xs:Tb}{out:TU}{r r2:TW}{y:Nat}(h:PlS s u bO xs out)(hk:out[k]?=some r)
  (hv:∀z,u z≠.free->z≠bO->(∀g n,xs[k]?=some (.mrw g n)->z≠g)->v z=u z) (ho:v bO=.obj 28 (xs.set k (.mrw y r2.length))) (hy:v y=.row 3 1 (aM (r2.map fun(k:Nat)=>(k:Int)))) (hyf:u y=.free\/∃n,xs[k]?=some (.mrw y n)) :
  PlS s v bO (xs.set k (.mrw y r2.length)) (out.set k r2):=by
 have hkl:k<out.length:=(x_.1 hk).1
 have hys:s y=.free:=by
  rcases hyf with e|⟨n,e⟩
  ·by_cases hs:s y=.free
   ·exact hs
   ·exact absurd (by rw[<- h.fr y hs];exact e) hs
  ·rcases h.c k r hk with ⟨_,e2⟩|⟨g,e2,_,e4⟩
   ·rw[e]at e2;cases e2
   ·rw[e]at e2;injection e2 with e2;injection e2 with e2 _;rw[e2];exact e4
 have hsep:∀(j:Nat) (g n:Nat),j≠k->xs[j]?=some (.mrw g n)->g≠y/\v g=u g:=fun j g n hj hx=>by
  have hjl:j<out.length:=by rw[<- h.ln];exact(x_.1 hx).1
  have hgu:u g≠.free:=by
   rcases h.c j _ (m_ hjl)with ⟨_,e2⟩|⟨g',e2,e3,_⟩
   ·rw[hx]at e2;cases e2
   ·rw[hx]at e2;injection e2 with e2;injection e2 with e2 _;rw[e2,e3];simp
  have hgk:∀g' n',xs[k]?=some (.mrw g' n')->g≠g':=fun g' n' hx' e=>hj (h.ap j k g n n' hx (e ▸ hx'))
  refine⟨fun e=>?_,hv g hgu (h.ne hx) hgk⟩
  rcases hyf with e2|⟨n',e2⟩
  ·rw[<- e]at e2;exact hgu e2
  ·exact hgk _ _ e2 e
 refine⟨ho,h.nO,by rw[List.length_set,List.length_set];exact h.ln,fun j r' hj=>?_,fun j j' g n n' h1 h2=>?_,fun z hz=>?_⟩
 ·by_cases e:k=j
  ·subst e
   rw[e_ hkl]at hj
   injection hj with hj
   subst hj
   exact .inr ⟨y,by rw[e_ (by rw[h.ln];exact hkl)],hy,hys⟩
  ·rw[i_ e]at hj ⊢
   rcases h.c j r' hj with e2|⟨g,e2,e3,e4⟩
   ·exact .inl e2
   ·exact .inr ⟨g,e2,by rw[(hsep j g _ (Ne.symm e) e2).2];exact e3,e4⟩
 ·have hkx:k<xs.length:=by rw[h.ln];exact hkl
  by_cases e1:k=j
  ·by_cases e2:k=j'
   ·rw[<- e1,<- e2]
   ·subst e1
    rw[e_ hkx]at h1
    rw[i_ e2]at h2
    injection h1 with h1
    injection h1 with h1 _
    exact absurd h1.symm (hsep j' g n' (Ne.symm e2) h2).1
  ·rw[i_ e1]at h1
   by_cases e2:k=j'
   ·subst e2
    rw[e_ hkx]at h2
    injection h2 with h2
    injection h2 with h2 _
    exact absurd h2.symm (hsep j g n (Ne.symm e1) h1).1
   ·rw[i_ e2]at h2
    exact h.ap j j' g n n' h1 h2
 ·rw[hv z (by rw[h.fr z hz];exact hz) (fun e=>hz (e ▸ h.nO)) ?_,h.fr z hz]
  rintro g n hx rfl
  rcases h.c k r hk with ⟨_,e2⟩|⟨g',e2,_,e4⟩
  ·rw[hx]at e2;cases e2
  ·rw[hx]at e2;injection e2 with e2;injection e2 with e2 _;rw[<- e2]at e4;exact hz e4
theorem PlS.other {s u v:St}{bO:Nat}{xs:Tb}{out:TU}(h:PlS s u bO xs out)(hv:∀z,(∃T xs,u z=.obj T xs)\/(∃T sz xs,u z=.row T sz xs)\/s z≠.free->v z=u z):PlS s v bO xs out:=
 ⟨(hv bO (.inl ⟨_,_,h.o⟩)).trans h.o,h.nO,h.ln,fun k r hk=>by
  rcases h.c k r hk with e|⟨g,e1,e2,e3⟩
  ·exact .inl e
  ·exact .inr ⟨g,e1,(hv g (.inr (.inl ⟨_,_,_,e2⟩))).trans e2,e3⟩,h.ap,fun z hz=>(hv z (.inr (.inr hz))).trans (h.fr z hz)⟩
structure PlF (s u:St) (bO:Nat) (xs:Tb) (out:TU) (j:Nat):Prop where
 o:u bO=.obj 28 xs
 nO:s bO=.free
 ln:xs.length=out.length
 d:∀(k:Nat) (r:TW),k<j->out[k]?=some r->xs[k]?=some (.lst (ak r) .no)
 c:∀(k:Nat) (r:TW),j<=k->out[k]?=some r->(r=[]/\xs[k]?=some (.raw (.slice none 0 0)))\/∃g,xs[k]?=some (.mrw g r.length)/\u g=.row 3 1 (aM (r.map fun(k:Nat)=>(k:Int)))/\s g=.free
 ap:∀(k k' g n n':Nat),xs[k]?=some (.mrw g n)->xs[k']?=some (.mrw g n')->k=k'
 fr:∀z,s z≠.free->u z=s z
theorem Bh {s u:St}{bO j:Nat}{xs:Tb}{out:TU}(h:PlF s u bO xs out j){r:TW}(hr:out[j]?=some r):∃u',GSg u u'/\PlF s u' bO (xs.set j (.lst (ak r) .no)) out (j+1):=by
 have hjl:j<xs.length:=by rw[h.ln];exact(x_.1 hr).1
 have dn:∀(k:Nat) (r':TW),k<j+1->out[k]?=some r'->(xs.set j (.lst (ak r) .no))[k]?=some (.lst (ak r') .no):=fun k r' hk hr'=>by
  by_cases e:j=k
  ·subst e
   rw[hr]at hr'
   injection hr' with hr'
   rw[e_ hjl,hr']
  ·rw[i_ e]
   exact h.d k r' (by omega) hr'
 have ap2:∀(k k' g n n':Nat),(xs.set j (.lst (ak r) .no))[k]?=some (.mrw g n)->(xs.set j (.lst (ak r) .no))[k']?=some (.mrw g n')->k=k':=fun k k' g n n' h1 h2=>by
  have key:∀{k n:Nat},(xs.set j (.lst (ak r) .no))[k]?=some (.mrw g n)->xs[k]?=some (.mrw g n):=fun {k n} hh=>by
   by_cases e:j=k
   ·subst e;rw[e_ hjl]at hh;cases hh
   ·rwa [i_ e]at hh
  exact h.ap k k' g n n' (key h1) (key h2)
 rcases h.c j r (Nat.le_refl _) hr with ⟨e1,e2⟩|⟨g,e1,e2,e3⟩
 ·refine⟨u.set bO (.obj 28 (xs.set j (.lst (ak r) .no))),.of_gs (GS.wkc h.o (List.length_set ..) fun i y hy=>?_),q_ _ _ _,h.nO,by rw[List.length_set];exact h.ln,dn,fun k r' hk hr'=>?_,ap2,fun z hz=>by rw[j_ _ _ (fun e=>hz (by rw[e];exact h.nO))];exact h.fr z hz⟩
  ·by_cases e:j=i
   ·subst e
    rw[e_ hjl]at hy
    injection hy with hy
    subst hy
    subst e1
    exact⟨_,e2,Wk.rawnil,rfl⟩
   ·rw[i_ e]at hy
    refine⟨y,hy,Wk.refl _,?_⟩
    have hil:i<out.length:=by rw[<- h.ln];exact(x_.1 hy).1
    by_cases hij:i<j
    ·rw[h.d i _ hij (m_ hil)]at hy
     injection hy with hy;subst hy;rfl
    ·rcases h.c i _ (by omega) (m_ hil)with ⟨_,e3⟩|⟨g,e3,_⟩
     ·rw[e3]at hy;injection hy with hy;subst hy;rfl
     ·rw[e3]at hy;injection hy with hy;subst hy;rfl
  ·have hkj:j≠k:=by omega
   rw[i_ hkj]
   rcases h.c k r' (by omega) hr' with e|⟨g,a1,a2,a3⟩
   ·exact .inl e
   ·refine .inr ⟨g,a1,?_,a3⟩
    rw[j_]
    ·exact a2
    ·intro e;rw[e,h.o]at a2;cases a2
 ·have hgb:g≠bO:=fun e=>by rw[e,h.o]at e2;cases e2
  have hf:=GSg.frz1 h.o e1 e2 (by rw[dJ,z_])
  have hL:(aM (r.map fun(k:Nat)=>(k:Int))).map (fun y=>[y])=ak r:=by simp[aM,ak,Function.comp]
  rw[hL]at hf
  refine⟨_,hf,q_ _ _ _,h.nO,by rw[List.length_set];exact h.ln,dn,fun k r' hk hr'=>?_,ap2,fun z hz=>?_⟩
  ·have hkj:j≠k:=by omega
   rw[i_ hkj]
   rcases h.c k r' (by omega) hr' with e|⟨g',a1,a2,a3⟩
   ·exact .inl e
   ·refine .inr ⟨g',a1,?_,a3⟩
    have n1:g'≠bO:=fun e=>by rw[e,h.o]at a2;cases a2
    have n2:g'≠g:=fun e=>hkj (h.ap j k g _ _ e1 (e ▸ a1))
    rw[j_ _ _ n1,j_ _ _ n2]
    exact a2
  ·rw[j_ _ _ (fun e=>hz (by rw[e];exact h.nO)),j_ _ _ (fun e=>hz (by rw[e];exact e3))]
   exact h.fr z hz
theorem xp {s:St}{bO:Nat}{out:TU}:∀(d j:Nat) {u:St} {xs:Tb},j+d=out.length->PlF s u bO xs out j->∃u' xs',GSg u u'/\PlF s u' bO xs' out out.length
 |0,j,u,xs,hd,h=>by
  have:j=out.length:=by omega
  subst this
  exact⟨u,xs,.refl u,h⟩
 |d+1,j,u,xs,hd,h=>by
  have hr:=m_ (show j<out.length by omega)
  obtain⟨u1,g1,h1⟩:=Bh h hr
  obtain⟨u2,xs2,g2,h2⟩:=xp d (j+1) (by omega) h1
  exact⟨u2,xs2,g1.trans g2,h2⟩
def nG (out:TU):Tb:=out.map fun r=>.lst (ak r) .no
theorem PlS.freeze {s u:St}{bO:Nat}{xs:Tb}{out:TU}(h:PlS s u bO xs out):GSg u (s.set bO (.obj 28 (nG out))):=by
 obtain⟨u',xs',g1,h1⟩:=xp (s:=s) (bO:=bO) (out:=out) out.length 0 (by omega) ⟨h.o,h.nO,h.ln,fun k r hk _=>by omega,fun k r _ hr=>h.c k r hr,h.ap,h.fr⟩
 have e:xs'=nG out:=by
  apply List.ext_getElem?
  intro k
  simp only[nG,n_]
  by_cases hk:k<out.length
  ·rw[h1.d k _ hk (m_ hk),m_ hk];rfl
  ·rw[t_ (by rw[h1.ln];omega),t_ (by omega)];rfl
 subst e
 refine g1.trans (.of_fg fun z=>?_)
 by_cases e:z=bO
 ·subst e;rw[q_,h1.o];exact .inr rfl
 ·rw[j_ _ _ e]
  by_cases hz:s z=.free
  ·exact .inl hz
  ·exact .inr (h1.fr z hz).symm
def yK (ds:List Dm):TV->TW->TW->Option (TW×TW)
 |[],l,sn=>some (l,sn)
 |p::r,l,sn=>if ixD p ds 0<0\/(ixD p ds 0).toNat∈sn then none else yK ds r (l++[(ixD p ds 0).toNat]) (sn++[(ixD p ds 0).toNat])
def fR (wd:TW)(lv:Nat):TW->TU->Nat->Bool->TU×Nat×Bool
 |[],o,nx,mo=>(o,nx,mo)
 |k::r,o,nx,mo=>if lv<wd.getD k 0 then fR wd lv r (o.set k (o.getD k []++[nx])) (nx+1) true else fR wd lv r o nx mo
def yx (wd l:TW):Nat->Nat->TU->Nat->TU×Nat
 |0,_,o,nx=>(o,nx)
 |f+1,lv,o,nx=>if (fR wd lv l o nx false).2.2=true then yx wd l f (lv+1) (fR wd lv l o nx false).1 (fR wd lv l o nx false).2.1 else((fR wd lv l o nx false).1,(fR wd lv l o nx false).2.1)
def plF (ds:List Dm)(wd:TW):TV->TU->Nat->TW->Option (TU×TW)
 |[],o,_,sn=>some (o,sn)
 |g::r,o,nx,sn=>match yK ds (ck 42 g) [] sn with
  |none=>none
  |some (l,sn')=>plF ds wd r (yx wd l 64 0 o nx).1 (yx wd l 64 0 o nx).2 sn'
def Bj (n:Nat):Option (TU×TW)->Except Int (TU)
 |none=>.error 70
 |some (o,sn)=>if sn.length<n then .error 70 else .ok (o.map List.reverse)
def eO (ds:List Dm)(od:TT):Except Int (TU):=
 if iW ds=true then Bj ds.length (plF ds (wdL ds) (if od=[] then [] else ck 95 od) (List.replicate ds.length []) 0 [])else .error 1
theorem A9 {p:TT}:∀{ds:List Dm} {i:Nat},ixD p ds i<0\/((i:Int)<=ixD p ds i/\ixD p ds i<(i:Int)+ds.length)
 |[],i=>.inl (by simp[ixD])
 |d::r,i=>by
  simp only[ixD]
  by_cases h:d.1=p
  ·rw[if_pos h]
   right
   simp only[List.length_cons]
   omega
  ·rw[if_neg h]
   rcases A9 (p:=p) (ds:=r) (i:=i+1)with e|⟨e1,e2⟩
   ·exact .inl e
   ·right
    simp only[List.length_cons]
    omega
theorem um {α:Type}{xs:List α}{k:Nat}(h:k<xs.length)(y:α):splice xs k [y]=xs.set k y:=by
 rw[splice,List.set_eq_take_append_cons_drop,if_pos h]
 simp
theorem sO {wd:TW}{lv:Nat}:∀{l:TW} {o:TU} {nx:Nat} {mo:Bool},(fR wd lv l o nx mo).2.2=true->mo=true\/∃k,k∈l/\lv<wd.getD k 0
 |[],o,nx,mo,h=>.inl h
 |k::r,o,nx,mo,h=>by
  unfold fR at h
  split at h
  ·exact .inr ⟨k,List.mem_cons_self ..,‹_›⟩
  ·rcases sO h with e|⟨k',h1,h2⟩
   ·exact .inl e
   ·exact .inr ⟨k',List.mem_cons_of_mem _ h1,h2⟩
theorem lJ (c:UInt8):∀(s:TT) (p:TT),p∈ck c s->p.length<=s.length
 |[],p,h=>by simp[ck]at h;subst h;simp
 |b::l,p,h=>by
  have ih:=lJ c l
  simp only[ck]at h
  split at h
  ·rcases AT.1 h with rfl|h
   ·simp
   ·have:=ih p h;simp;omega
  ·split at h
   ·simp at h;subst h;simp
   ·rename_i q r hq
    rcases AT.1 h with rfl|h
    ·have:=ih q (by rw[hq];simp);simp;omega
    ·have:=ih p (by rw[hq];simp[h]);simp;omega
structure PlU (s u:St) (bO bm n:Nat) (xs:Tb) (out:TU) (sn:TW) (nx:Nat):Prop where
 p:PlS s u bO xs out
 m:u bm=.map (mpZ bP (aS sn))
 ol:out.length=n
 rl:∀r,r∈out->r.length<=nx
 nd:sn.Nodup
 lt:∀k,k∈sn->k<n
theorem PlU.fg {s u:St}{bO bm n:Nat}{xs:Tb}{out:TU}{sn:TW}{nx:Nat}(h:PlU s u bO bm n xs out sn nx):Fg u s:=fun z=>by
 by_cases hz:s z=.free
 ·exact .inl hz
 ·exact .inr (h.p.fr z hz).symm
theorem PlU.put {s u:St}{bO bm n:Nat}{xs:Tb}{out:TU}{sn:TW}{nx k:Nat}(h:PlU s u bO bm n xs out sn nx)(hb:s bm=.free)(hk:k∉sn)(hkn:k<n) :
  PlU s (u.set bm (.map (mpZ bP (aS (sn++[k]))))) bO bm n xs out (sn++[k]) nx:=by
 refine⟨h.p.other fun z hz=>j_ _ _ fun e=>?_,q_ _ _ _,h.ol,h.rl,?_,fun z hz=>?_⟩
 ·subst e
  rcases hz with ⟨T,ys,e⟩|⟨T,sz,ys,e⟩|e
  ·rw[h.m]at e;cases e
  ·rw[h.m]at e;cases e
  ·exact e hb
 ·rw[List.nodup_append]
  exact⟨h.nd,by simp,fun a ha b hb2 e=>by rw[a_]at hb2;subst hb2;subst e;exact hk ha⟩
 ·rcases f_.1 hz with e|e
  ·exact h.lt z e
  ·rw[a_]at e;rw[e];exact hkn
theorem PlU.len {s u:St}{bO bm n:Nat}{xs:Tb}{out:TU}{sn:TW}{nx:Nat}(h:PlU s u bO bm n xs out sn nx):sn.length<=n:=by
 have:=ed (X:=sn) (Y:=List.range n) h.nd fun x hx=>List.mem_range.2 (h.lt x hx)
 rwa [List.length_range]at this
theorem OwnOk.set {s:St}{o:Own}{n b:Nat}{c:Cell}(h:OwnOk s o n)(hn:cq o b):OwnOk (s.set b c) o n:=by
 cases o with
 |at_ x=>exact(j_ _ _ (fun e=>hn e.symm)).trans h
 |_=>exact h
theorem PlU.row {s u v:St}{bO bm n:Nat}{xs:Tb}{out:TU}{sn:TW}{nx k:Nat}{r:TW}{y:Nat}(h:PlU s u bO bm n xs out sn nx)(hk:out[k]?=some r)
  (hv:∀z,u z≠.free->z≠bO->(∀g n,xs[k]?=some (.mrw g n)->z≠g)->v z=u z) (ho:v bO=.obj 28 (xs.set k (.mrw y (r++[nx]).length))) (hy:v y=.row 3 1 (aM ((r++[nx]).map fun(k:Nat)=>(k:Int)))) (hyf:u y=.free\/∃n,xs[k]?=some (.mrw y n)) :
  PlU s v bO bm n (xs.set k (.mrw y (r++[nx]).length)) (out.set k (r++[nx])) sn (nx+1):=by
 have hmf:u bm≠.free:=by rw[h.m];simp
 refine⟨h.p.step hk hv ho hy hyf,?_,by rw[List.length_set];exact h.ol,fun z hz=>?_,h.nd,h.lt⟩
 ·rw[hv bm hmf (fun e=>by have:=h.p.o;rw[<- e,h.m]at this;cases this) fun g n' hx e=>?_]
  ·exact h.m
  ·rcases h.p.c k r hk with ⟨_,e2⟩|⟨g',e2,e3,_⟩
   ·rw[hx]at e2;cases e2
   ·rw[hx]at e2
    injection e2 with e2
    injection e2 with e2 _
    rw[<- e2,<- e,h.m]at e3
    cases e3
 ·rcases List.mem_or_eq_of_mem_set hz with e|e
  ·have:=h.rl z e;omega
  ·rw[e,p_]
   have:=h.rl r (y_ hk)
   simp
   omega
def plV:Except Int (TU)->VV
 |.error e=>.tup [.lst [] .no,.int .i64 e]
 |.ok o=>.tup [.lst (atC o) .no,.int .i64 0]
theorem Cd (s:St)(ds:List Dm)(ow:Own)(od:TT)(hl:ds.length<=1000000)(hnl:∀d,d∈ds->d.1.length<=1000000000)(hod:od.length<=10000) :
  SRet Tryz.prog 61 [.lst (cH ds) ow,.str od] s (plV (eO ds od)) s:=by
 have w1:=lB s ds ow hl hnl
 have hlD:=iM (ds:=ds)
 by_cases hmay:iW ds=true
 ·have hm2:=hmay
  unfold iW at hm2
  simp only[Bool.and_eq_true,decide_eq_true_eq]at hm2
  obtain⟨m1,m2,m3⟩:=hm2
  have hB:(decide ((wdL ds).sum<=256) && decide (ds.length<=32))=true:=by simp[m2,m3]
  unfold wdR at w1
  rw[if_pos m1,hB]at w1
  have wx:=fun(u:St) (sb:Nat) (x:TT) (h:u sb=.obj 9 [.str x])=>MO u sb x ds ow hl h
  have hwl:(wdL ds).length=ds.length:=by simp[wdL]
  have hw62:∀k,(wdL ds).getD k 0<=62:=fun k=>by
   rw[List.getD_eq_getElem?_getD,wdL,n_]
   cases ds[k]? with
   |none=>simp
   |some d=>exact jZ _ _
  have hnw:(ak (wdL ds)).length=ds.length:=by rw[natsL_len,hwl]
  have hwat:∀k,k<ds.length->(ak (wdL ds))[k]?=some [.int .i64 (((wdL ds).getD k 0:Nat):Int)]:=fun k hk=>by
   refine aH ?_
   rw[List.getD_eq_getElem?_getD,m_ (by omega)]
   rfl
  obtain⟨RES,hRES⟩:∃R,plF ds (wdL ds) (if od=[] then [] else ck 95 od) (List.replicate ds.length []) 0 []=R:=⟨_,rfl⟩
  have hfin:eO ds od=Bj ds.length RES:=by
   unfold eO
   rw[if_pos hmay,hRES]
  have hsp1:=fun u=>xQ u od 95 (by omega)
  have HFIN:=o_ hfin
  obtain⟨AN,hAN⟩:∃AN,plV (eO ds od)=AN:=⟨_,rfl⟩
  rw[hAN]
  have HAN:=o_ hAN
  clear hfin hAN hmay hB m1 m2 hnl
  have HRES:=o_ hRES
  have HW62:=o_ hw62
  have HWAT:=o_ hwat
  have WX:=o_ wx
  clear hRES hw62 hwat wx
  generalize hWD:wdL ds=wd at *
  generalize wd.sum=SM at *
  generalize ak wd=WL at *
  generalize cH ds=D at *
  clear hWD
  have hgl:(if od=[] then [] else ck 95 od).length<=10001:=by
   split
   ·simp
   ·have:=jg 95 od;omega
  obtain⟨GR,hGR⟩:∃GR,(if od=[] then [] else ck 95 od)=GR:=⟨_,rfl⟩
  rw[hGR]at hgl
  have hgg:∀g,g∈GR->g.length<=10000:=fun g hg=>by
   rw[<- hGR]at hg
   split at hg
   ·simp at hg
   ·exact Nat.le_trans (lJ 95 od g hg) hod
  rw[hGR]at HRES
  have HGG:=o_ hgg
  have hgrl:(az GR).length=GR.length:=by simp[az]
  have hgat:=fun(i:Nat) (g:TT) (h:GR[i]?=some g)=>show (az GR)[i]?=some [.str g] by simp[az,h]
  have HGAT:=o_ hgat
  clear hgg hgat
  refine am Tryz.func61 rfl Tryz.ntmps61 rfl fun Q hQ hQe=>?_
  (repeat'(first|(with_reducible refine aR 9 ?_)|refine Ctl ?_|((with_reducible refine k_ hK ?_);clear hK hE K E)|((with_reducible refine bZ (fun h=>?_) (fun h=>?_))<;>(try(exfalso;assumption)))|((first|(with_reducible first|refine ab fun K E hK hE=>?_|refine ae kA (w1) ?_|refine iY ?_)|((with_reducible refine au (fun b hb=>?_));(repeat(obtain⟨_,hb⟩:=hb))))<;>(try simp(disch:=omega) only[go_sem,seval,hlD,Int.toNat_natCast, *]))))
  unfold bC
  refine bE fun S hS=>?_
  rename_i bO hbO _ _
  obtain⟨bm,hbm⟩:∃z,z=b:=⟨_,rfl⟩
  subst hbm
  have hsbm:s bm=.free:=by assumption
  have hOm:¬ bO=bm:=by assumption
  have hmO:¬ bm=bO:=fun e=>hOm e.symm
  have hSO:S bO=.obj 28 (List.replicate ds.length (.lst [] .full)):=by rw[hS];simp only[St.set,if_true,if_false, *]
  have hSm:S bm=.map []:=by rw[hS];exact q_ _ _ _
  have hSf:∀z,s z≠.free->S z=s z:=fun z hz=>by rw[hS,j_ _ _ (nef hsbm hz).1,j_ _ _ (nef hbO hz).1]
  refine lD (.of_gs (GS.wkc (cs':=List.replicate ds.length (.raw (.slice none 0 0))) hSO (by simp) (fun i y hy=>by
   rw[List.getElem?_replicate]at hy
   split at hy
   ·injection hy with hy
    subst hy
    exact⟨_,by rw[List.getElem?_replicate,if_pos (‹_›)],Wk.toraw,rfl⟩
   ·cases hy))) ?_
  refine bE fun S1 hS1=>?_
  have hU:PlU s S1 bO bm ds.length (List.replicate ds.length (.raw (.slice none 0 0))) (List.replicate ds.length []) [] 0:=by
   refine⟨⟨by rw[hS1];exact q_ _ _ _,hbO,by simp,fun k r hk=>.inl ?_,fun k k' g n n' h1=>?_,fun z hz=>by rw[hS1,j_ _ _ (nef hbO hz).1];exact hSf z hz⟩,by rw[hS1,j_ _ _ hmO];exact hSm,by simp,fun r hr=>by rw[List.mem_replicate]at hr;rw[hr.2];simp,List.nodup_nil,fun k hk=>by simp at hk⟩
   ·rw[List.getElem?_replicate]at hk ⊢
    split at hk
    ·injection hk with hk
     exact⟨hk.symm,by rw[if_pos (‹_›)]⟩
    ·cases hk
   ·rw[List.getElem?_replicate]at h1
    split at h1
    ·injection h1 with h1;cases h1
    ·cases h1
  have HU:=o_ hU
  have HBM:=o_ hsbm
  clear hS hS1 hSO hSm hSf hU hb hbO hsbm
  have hgoal:od=[]\/od≠[]:=by by_cases h:od=[];exact .inl h;exact .inr h
  rcases hgoal with h0|h0
  focus
   have hG0:GR=[]:=by rw[<- hGR,if_pos h0]
   have HG0:=o_ hG0
   subst h0
   clear hG0 hGR
   (repeat'(first|(with_reducible refine aR 11 ?_)|refine Ctl ?_|((with_reducible refine k_ hK ?_);clear hK hE K E)|((with_reducible refine bZ (fun h=>?_) (fun h=>?_))<;>(try(exfalso;assumption)))|(((with_reducible refine ab fun K E hK hE=>?_))<;>(try simp(disch:=omega) only[go_sem,seval, *]))))
   unfold bC
   refine lC 13 (x:=.lst [] .full) (y:=.lst (az GR) .no) (ac) (by rw[HG0.out];exact Wk.lst [] .full) ?_
   clear HG0
  rotate_left
  focus
   have hG0:ck 95 od=GR:=by rw[<- hGR,if_neg h0]
   have wz:=hsp1 S1
   rw[hG0]at wz
   clear hG0 hGR hsp1
   (repeat'(first|(with_reducible refine aR 11 ?_)|refine Ctl ?_|((with_reducible refine k_ hK ?_);clear hK hE K E)|((with_reducible refine bZ (fun h=>?_) (fun h=>?_))<;>(try(exfalso;assumption)))|(((with_reducible first|refine ab fun K E hK hE=>?_|refine ae GE (wz) ?_))<;>(try simp(disch:=omega) only[go_sem,seval,h0, *]))))
   unfold bC
   clear wz
  all_goals
   (repeat'(first|refine Ctl ?_|((with_reducible refine k_ hK ?_);clear hK hE K E)|(((with_reducible refine ab fun K E hK hE=>?_))<;>(try simp(disch:=omega) only[go_sem,seval,hgrl, *]))))
   refine bV (fun m env s'=>∃(j nx:Nat) (xs:Tb) (out:TU) (sn:TW),j<=GR.length/\m+j=GR.length/\Hid (plF ds wd (GR.drop j) out nx sn=RES)/\nx<=2112 * j/\Hid (PlU s s' bO bm ds.length xs out sn nx)/\sn.length<=ds.length/\env 0=.lst D ow/\env 6=.lst WL .no/\env 9=.msl bO ds.length/\env 10=.int .i64 ((ds.length:Int) - (sn.length:Int))/\env 11=.int .i64 nx/\env 12=.mp bm/\env 44=.lst (az GR) .no/\env 45=.int .i64 GR.length/\env 46=.int .i64 j) GR.length ?_ ?_
   ·exact⟨_,Fg.refl _,0,0,_,_,[],by omega,by omega,HRES,by omega,HU,by simp,ac,ac,ac,by(simp only[List.length_nil,Int.natCast_zero,Int.sub_zero];((try simp(disch:=assumption) only[go_sem,seval, *])<;>rfl)),ac,ac,ac,ac,ac⟩
   clear HRES HU w1
   rintro m env u ⟨j,nx,xs,out,sn,hj,hmj,HR,hnx,HU,hsnl,e0,e6,e9,e10,e11,e12,e44,e45,e46⟩
   by_cases h2:j<GR.length
   ·have hg:=HGAT.out j _ (m_ h2)
    have hgl2:=HGG.out _ (List.getElem_mem h2)
    have hdr:=c_ h2
    generalize GR[j]=gp at *
    have hr:=HR.out
    rw[hdr]at hr
    simp only[plF]at hr
    have wz:=xQ u gp 42 (by omega)
    obtain⟨PT,hPT⟩:∃PT,ck 42 gp=PT:=⟨_,rfl⟩
    rw[hPT]at wz hr
    have hptl:PT.length<=10001:=by rw[<- hPT];have:=jg 42 gp;omega
    have hpts:(az PT).length=PT.length:=by simp[az]
    have hpat:=fun(i:Nat) (g:TT) (h:PT[i]?=some g)=>show (az PT)[i]?=some [.str g] by simp[az,h]
    obtain⟨RG,hRG⟩:∃RG,yK ds PT [] sn=RG:=⟨_,rfl⟩
    rw[hRG]at hr
    have HRG:=o_ hRG
    have HR2:=o_ hr
    have HPAT:=o_ hpat
    have hnl0:ak ([]:TW)=[]:=rfl
    clear hdr hr hPT hpat hRG HR
    (repeat'(first|refine Ctl ?_|((with_reducible refine k_ hK ?_);clear hK hE K E)|((with_reducible refine bZ (fun h=>?_) (fun h=>?_))<;>(try(exfalso;assumption)))|(((with_reducible first|refine ab fun K E hK hE=>?_|refine ae GE (wz) ?_))<;>(try simp(disch:=omega) only[go_sem,seval,hg,hpts, *]))))
    refine bV (fun m2 env s'=>∃(i:Nat) (l sn2:TW) (o:Own) (u2:St),i<=PT.length/\m2+i=PT.length/\Hid (yK ds (PT.drop i) l sn2=RG/\∀k,k∈l->k∈sn2)/\Hid (PlU s u2 bO bm ds.length xs out sn2 nx)/\sn2.length<=ds.length/\l.length<=sn2.length/\OwnOk u2 o l.length/\s'=u2.own o 3 1 l.length/\env 0=.lst D ow/\env 6=.lst WL .no/\env 9=.msl bO ds.length/\env 10=.int .i64 ((ds.length:Int) - (sn2.length:Int))/\env 11=.int .i64 nx/\env 12=.mp bm/\env 44=.lst (az GR) .no/\env 45=.int .i64 GR.length/\env 46=.int .i64 j/\env 16=.lst (ak l) o/\env 51=.lst (az PT) .no/\env 52=.int .i64 PT.length/\env 53=.int .i64 i) PT.length ?_ ?_
    ·exact⟨_,Fg.refl _,0,[],sn,.full,u,by omega,by omega,o_ ⟨HRG.out,fun k hk=>by simp at hk⟩,HU,hsnl,by simp,rfl,rfl,ac,ac,ac,ac,ac,ac,ac,ac,ac,by(rw[hnl0];((try simp(disch:=assumption) only[go_sem,seval, *])<;>rfl)),ac,ac,ac⟩
    clear e0 e6 e9 e10 e11 e12 e44 e45 e46 HRG HU wz hnl0
    rintro m2 env s' ⟨i,l,sn2,o,u2,hi,hmi,HG,HU,hsnl2,hll,hO,rfl,e0,e6,e9,e10,e11,e12,e44,e45,e46,e16,e51,e52,e53⟩
    by_cases h3:i<PT.length
    ·have hpx:=HPAT.out i _ (m_ h3)
     have hdr:=c_ h3
     generalize PT[i]=pp at *
     obtain⟨g1,g2⟩:=HG.out
     rw[hdr]at g1
     simp only[yK]at g1
     have hum:=HU.out.m
     have hmf0:u2 bm≠.free:=by rw[hum];simp
     have hnb:=hO.not hmf0
     have hmf:(u2.own o 3 1 l.length) bm≠.free:=by rw[uV hnb];exact hmf0
     have hix:=A9 (p:=pp) (ds:=ds) (i:=0)
     have hfail:RG=none->AN=.tup [.lst [] .no,.int .i64 70]:=fun h=>by
      have h5:=HR2.out
      rw[h]at h5
      rw[<- HAN.out,HFIN.out,<- h5]
      rfl
     have HFAIL:=o_ hfail
     have HG1:=o_ g1
     have HG2:=o_ g2
     have wq:=fun(u:St) (sb:Nat) (h:u sb=.obj 9 [.str pp])=>WX.out u sb pp h
     have WQ:=o_ wq
     have hfgu:=HU.out.fg
     have HFGU:=o_ hfgu
     clear hdr g1 g2 hfail HG wq hfgu
     (repeat'(first|refine Ctl ?_|((with_reducible refine k_ hK ?_);clear hK hE K E)|((with_reducible refine bZ (fun h=>?_) (fun h=>?_))<;>(try(exfalso;assumption)))|((first|(with_reducible refine ab fun K E hK hE=>?_)|((with_reducible refine au (fun b hb=>?_));(repeat(obtain⟨_,hb⟩:=hb))))<;>(try simp(disch:=omega) only[go_sem,seval,hpx, *]))))
     obtain⟨nb1,nb2⟩:=nef hb hmf0
     have hbo:(u2.own o 3 1 l.length) b=.free:=by rw[AG];exact⟨‹_›,hb⟩
     refine ae PV (WQ.out _ _ (q_ _ _ _)) ?_
     simp only[go_sem,seval]
     generalize hkx:ixD pp ds 0=kx at *
     by_cases c1:kx<0
     ·have hA:=HFAIL.out (by rw[<- HG1.out,if_pos (.inl c1)])
      (repeat'(first|refine Ctl ?_|((with_reducible refine k_ hK ?_);clear hK hE K E)|((with_reducible refine bZ (fun h=>?_) (fun h=>?_))<;>(try(exfalso;assumption)))|(((with_reducible refine ab fun K E hK hE=>?_))<;>(try simp(disch:=omega) only[go_sem,seval,c1, *]))))
      all_goals(refine aq nK hQ ?_)
      all_goals(rw[hA];exact⟨_,_,Wk.tupQ,Fg.trans (w_ _ hbo) (Fg.trans (Fg.own hO) HFGU.out),rfl,rfl⟩)
     ·obtain⟨kk,rfl⟩:∃kk:Nat,kx=(kk:Int):=⟨kx.toNat,by omega⟩
      have hkn:kk<ds.length:=by omega
      have hsk:=fO (k:=kk) (ks:=sn2)
      have G1:=HG1.out
      simp only[Int.toNat_natCast]at G1
      by_cases c2:kk∈sn2
      ·have hA:=HFAIL.out (by rw[<- G1,if_pos (.inr c2)])
       rw[decide_eq_true c2]at hsk
       clear G1
       generalize aS sn2=Sn at *
       (repeat'(first|refine Ctl ?_|((with_reducible refine k_ hK ?_);clear hK hE K E)|((with_reducible refine bZ (fun h=>?_) (fun h=>?_))<;>(try(exfalso;assumption)))|(((with_reducible refine ab fun K E hK hE=>?_))<;>(try simp(disch:=first|assumption|omega) only[go_sem,seval,c1,hsk, *]))))
       all_goals(refine aq nK hQ ?_)
       all_goals(rw[hA];exact⟨_,_,Wk.tupQ,Fg.trans (w_ _ hbo) (Fg.trans (Fg.own hO) HFGU.out),rfl,rfl⟩)
      ·rw[if_neg (by rintro(h|h);exact c1 h;exact c2 h)]at G1
       rw[decide_eq_false c2]at hsk
       have hpt:=jE c2
       have HG3:=o_ G1
       have hnl2:ak (l++[kk])=ak l++[[.int .i64 (kk:Int)]]:=dV
       have HNL:=o_ hnl2
       have hnl3:(ak l).length=l.length:=natsL_len
       clear G1 HG1 hnl2
       generalize hS1':aS sn2=Sn at *
       generalize hS2':aS (sn2++[kk])=Sn2 at *
       have HS2:=o_ hS2'
       clear hS1' hS2'
       generalize ak l=NL at *
       (repeat'(first|(with_reducible refine aR 21 ?_)|refine Ctl ?_|((with_reducible refine k_ hK ?_);clear hK hE K E)|((with_reducible refine bZ (fun h=>?_) (fun h=>?_))<;>(try(exfalso;assumption)))|(((with_reducible refine ab fun K E hK hE=>?_))<;>(try simp(disch:=first|assumption|omega) only[go_sem,seval,c1,hsk, *]))))
       unfold bC
       refine dr (s':=u2.own o 3 1 l.length) (w_ _ hbo) ?_
       (repeat'(first|refine Ctl ?_|((with_reducible refine k_ hK ?_);clear hK hE K E)|((first|(with_reducible refine ab fun K E hK hE=>?_)|((with_reducible refine fC (fun o2 ho=>?_));(try simp(disch:=assumption) only[bz,bB,cZ,c6,z_,List.length_cons,List.length_nil,Nat.zero_add,hpt,hnl3]at ho);(repeat(obtain⟨_,ho⟩:=ho))))<;>(try simp(disch:=first|assumption|omega) only[go_sem,seval,hpt,hnl3, *]))))
       have hno:cq o2 bm:=by assumption
       have hU2:=HU.out.put HBM.out c2 hkn
       have hln2:=hU2.len
       rw[HS2.out]at hU2
       have hleft:(ds.length:Int) - ((sn2++[kk]).length:Int)=(ds.length:Int) - (sn2.length:Int) - 1:=by rw[p_];simp;omega
       have hl1:(l++[kk]).length=l.length+1:=by simp
       refine⟨_,Fg.refl _,m2 - 1,by omega,i+1,l++[kk],sn2++[kk],o2,u2.set bm (.map (mpZ bP Sn2)),by omega,by omega,o_ ⟨HG3.out,fun z hz=>?_⟩,o_ hU2,hln2,by simp;omega,by rw[hl1];exact ho.set hno,by rw[hl1];exact(sS hno).symm,ac,ac,ac,by(rw[hleft];((try simp(disch:=assumption) only[go_sem,seval, *])<;>rfl)),ac,ac,ac,ac,ac,by(rw[HNL.out];((try simp(disch:=assumption) only[go_sem,seval, *])<;>rfl)),ac,ac,ac⟩
       rcases f_.1 hz with e|e
       ·exact List.mem_append_left _ (HG2.out z e)
       ·exact List.mem_append_right _ e
    ·have hie:i=PT.length:=by omega
     subst hie
     obtain⟨g1,g2⟩:=HG.out
     rw[B_]at g1
     simp only[yK]at g1
     have hR3:=HR2.out
     rw[<- g1]at hR3
     simp only at hR3
     have hll2:l.length<=32:=by omega
     have hlt2:∀k,k∈l->k<ds.length:=fun k hk=>HU.out.lt k (g2 k hk)
     have hnll:(ak l).length=l.length:=natsL_len
     have hlat:=fun(i k:Nat) (h:l[i]?=some k)=>aH h
     obtain⟨RL,hRL⟩:∃RL,yx wd l 64 0 out nx=RL:=⟨_,rfl⟩
     rw[hRL]at hR3
     have HR3:=o_ hR3
     have HRL:=o_ hRL
     have HLT2:=o_ hlt2
     have HLAT:=o_ hlat
     clear g1 g2 hR3 hlt2 hlat hRL HG HR2
     generalize ak l=NL at *
     (repeat'(first|(with_reducible refine aR 25 ?_)|refine Ctl ?_|((with_reducible refine k_ hK ?_);clear hK hE K E)|((with_reducible refine bZ (fun h=>?_) (fun h=>?_))<;>(try(exfalso;assumption)))|(((with_reducible refine ab fun K E hK hE=>?_))<;>(try simp(disch:=omega) only[go_sem,seval, *]))))
     unfold bC
     refine dr (s':=u2) (Fg.own hO) ?_
     (repeat'(first|refine Ctl ?_|((with_reducible refine k_ hK ?_);clear hK hE K E)|(((with_reducible refine ab fun K E hK hE=>?_))<;>(try simp(disch:=omega) only[go_sem,seval, *]))))
     refine bV (fun f env s'=>∃(lv nx3:Nat) (xs3:Tb) (out3:TU) (mo:Bool),Hid ((if mo=true then yx wd l f lv out3 nx3 else(out3,nx3))=RL/\(mo=true->lv=0\/∃k,k∈l/\lv - 1<wd.getD k 0))/\f+lv=64/\nx3<=nx+32 * lv/\Hid (PlU s s' bO bm ds.length xs3 out3 sn2 nx3)/\env 0=.lst D ow/\env 6=.lst WL .no/\env 9=.msl bO ds.length/\env 10=.int .i64 ((ds.length:Int) - (sn2.length:Int))/\env 11=.int .i64 nx3/\env 12=.mp bm/\env 44=.lst (az GR) .no/\env 45=.int .i64 GR.length/\env 46=.int .i64 j/\env 16=.lst NL o/\env 20=.int .i64 lv/\env 21=.bool mo) 64 ?_ ?_
     ·exact⟨_,Fg.refl _,0,nx,xs,out,true,o_ ⟨by rw[if_pos rfl];exact HRL.out,fun _=>.inl rfl⟩,by omega,by omega,HU,ac,ac,ac,ac,ac,ac,ac,ac,ac,ac,ac,ac⟩
     clear e0 e6 e9 e10 e11 e12 e44 e45 e46 e16 e51 e52 e53 HU HRL hO
     rintro f env u3 ⟨lv,nx3,xs3,out3,mo,HL,hfl,hnx3,HU,e0,e6,e9,e10,e11,e12,e44,e45,e46,e16,e20,e21⟩
     cases mo with
     |false=>
      have hq:=HL.out.1
      simp only[Bool.false_eq_true,if_false]at hq
      have hR4:=HR3.out
      rw[<- hq]at hR4
      have HR4:=o_ hR4
      have hlv:lv<=64:=by omega
      clear hq hR4 HL
      (repeat'(first|refine Ctl ?_|((with_reducible refine k_ hK ?_);clear hK hE K E)|((with_reducible refine bZ (fun h=>?_) (fun h=>?_))<;>(try(exfalso;assumption)))|(((with_reducible refine ab fun K E hK hE=>?_))<;>(try simp(disch:=omega) only[go_sem,seval, *]))))
      exact⟨_,Fg.refl _,m - 1,by omega,j+1,nx3,xs3,out3,sn2,by omega,by omega,HR4,by omega,HU,by omega,ac,ac,ac,ac,ac,ac,ac,ac,ac⟩
     |true=>
      obtain⟨q1,q2⟩:=HL.out
      rw[if_pos rfl]at q1
      cases f with
      |zero=>
       exfalso
       rcases q2 rfl with e|⟨k,h1,h2⟩
       ·omega
       ·have:=HW62.out k;omega
      |succ f=>
       simp only[yx]at q1
       obtain⟨PR,hPR⟩:∃PR,fR wd lv l out3 nx3 false=PR:=⟨_,rfl⟩
       rw[hPR]at q1
       have hpm:=fun(h:PR.2.2=true)=>sO (wd:=wd) (lv:=lv) (l:=l) (o:=out3) (nx:=nx3) (mo:=false) (by rw[hPR];exact h)
       have HPM:=o_ hpm
       have HQ1:=o_ q1
       have HPR:=o_ hPR
       clear q1 q2 hPR hpm HL
       (repeat'(first|refine Ctl ?_|((with_reducible refine k_ hK ?_);clear hK hE K E)|((with_reducible refine bZ (fun h=>?_) (fun h=>?_))<;>(try(exfalso;assumption)))|(((with_reducible refine ab fun K E hK hE=>?_))<;>(try simp(disch:=omega) only[go_sem,seval,hnll, *]))))
       refine bV (fun m4 env s'=>∃(i4 nx4:Nat) (xs4:Tb) (out4:TU) (mo4:Bool),i4<=l.length/\m4+i4=l.length/\Hid (fR wd lv (l.drop i4) out4 nx4 mo4=PR)/\nx4<=nx3+i4/\Hid (PlU s s' bO bm ds.length xs4 out4 sn2 nx4)/\env 0=.lst D ow/\env 6=.lst WL .no/\env 9=.msl bO ds.length/\env 10=.int .i64 ((ds.length:Int) - (sn2.length:Int))/\env 11=.int .i64 nx4/\env 12=.mp bm/\env 44=.lst (az GR) .no/\env 45=.int .i64 GR.length/\env 46=.int .i64 j/\env 16=.lst NL o/\env 20=.int .i64 lv/\env 21=.bool mo4/\env 79=.lst NL o/\env 80=.int .i64 l.length/\env 81=.int .i64 i4) l.length ?_ ?_
       ·exact⟨_,Fg.refl _,0,nx3,xs3,out3,false,by omega,by omega,HPR,by omega,HU,ac,ac,ac,ac,ac,ac,ac,ac,ac,ac,ac,ac,ac,ac,ac⟩
       clear e0 e6 e9 e10 e11 e12 e44 e45 e46 e16 e20 e21 HU HPR
       rintro m4 env u4 ⟨i4,nx4,xs4,out4,mo4,hi4,hm4,HP,hnx4,HU,e0,e6,e9,e10,e11,e12,e44,e45,e46,e16,e20,e21,e79,e80,e81⟩
       by_cases h4:i4<l.length
       ·have hkx:=HLAT.out i4 _ (m_ h4)
        have hkn:=HLT2.out _ (List.getElem_mem h4)
        have hp:=HP.out
        rw[c_ h4]at hp
        simp only[fR]at hp
        generalize l[i4]=kk at *
        have hwk:=HWAT.out kk hkn
        have hw62:=HW62.out kk
        generalize wd.getD kk 0=wk at *
        by_cases c1:lv<wk
        ·rw[if_pos c1]at hp
         obtain⟨r,hr⟩:∃r,out4[kk]?=some r:=⟨_,m_ (by rw[HU.out.ol];exact hkn)⟩
         have hgd:out4.getD kk []=r:=by rw[List.getD_eq_getElem?_getD,hr];rfl
         rw[hgd]at hp
         have HP2:=o_ hp
         have hrl:=HU.out.rl r (y_ hr)
         have huo:=HU.out.p.o
         have hxl:kk<xs4.length:=by rw[HU.out.p.ln,HU.out.ol];exact hkn
         have hxn:xs4.length=ds.length:=by rw[HU.out.p.ln,HU.out.ol]
         have hsp:=fun y=>um hxl y
         have c1':(lv:Int)<(wk:Int):=by omega
         have hof:u4 bO≠.free:=by rw[huo];simp
         have hst:=fun v y h1 h2 h3 h4=>HU.out.row (v:=v) (y:=y) hr h1 h2 h3 h4
         have HST:=o_ hst
         clear hp hgd HP hst
         rcases HU.out.p.c kk r hr with ⟨hr0,hx0⟩|⟨g,hx0,hug,hsg⟩
         ·subst hr0
          (repeat'(first|refine Ctl ?_|((with_reducible refine k_ hK ?_);clear hK hE K E)|((with_reducible refine bZ (fun h=>?_) (fun h=>?_))<;>(try(exfalso;assumption)))|((first|(with_reducible first|refine ab fun K E hK hE=>?_|refine d6 ?_|refine dP ?_)|((with_reducible refine fG (fun bM hM=>?_));(try(obtain⟨_,_⟩:=nef hM hof))))<;>(try simp(disch:=omega) only[go_sem,seval,hkx,hwk,c1',hx0,hsp,hxn,Nat.mul_one, *]))))
          have hbMf:bM≠bO:=by assumption
          refine⟨_,Fg.refl _,m4 - 1,by omega,i4+1,nx4+1,xs4.set kk (.mrw bM ([]++[nx4]).length),_,true,by omega,by omega,HP2,by omega,o_ (HST.out _ bM (fun z hz h1 h2=>?_) (q_ _ _ _) ?_ (.inl hM)),ac,ac,ac,ac,ac,ac,ac,ac,ac,ac,ac,ac,ac,ac,ac⟩
          ·rw[j_ _ _ h1,j_ _ _ (nef hM hz).1]
          ·rw[j_ _ _ hbMf,q_];rfl
         ·have hgO:g≠bO:=fun e=>by rw[e,huo]at hug;cases hug
          obtain⟨S',hS'⟩:∃S',u4.set g .free=S':=⟨_,rfl⟩
          have hSo:S' bO=.obj 28 xs4:=by rw[<- hS',j_ _ _ (Ne.symm hgO)];exact huo
          have hSf:S' bO≠.free:=by rw[hSo];simp
          have hil:(aM (r.map fun(k:Nat)=>(k:Int))).length=r.length:=by rw[dJ,z_]
          have hap:aM ((r++[nx4]).map fun(k:Nat)=>(k:Int))=aM (r.map fun(k:Nat)=>(k:Int))++[.int .i64 (nx4:Int)]:=by simp[aM]
          have HAP:=o_ hap
          have HS':=o_ hS'
          have HUO:=o_ huo
          clear hap
          generalize aM (r.map fun(k:Nat)=>(k:Int))=RX at *
          (repeat'(first|refine Ctl ?_|((with_reducible refine k_ hK ?_);clear hK hE K E)|((with_reducible refine bZ (fun h=>?_) (fun h=>?_))<;>(try(exfalso;assumption)))|((first|(with_reducible first|refine ab fun K E hK hE=>?_|refine d6 ?_|refine dP ?_)|((with_reducible refine cJ (fun bM hM=>?_));(try(obtain⟨_,_⟩:=nef hM hSf))))<;>(try simp(disch:=omega) only[go_sem,seval,hkx,hwk,c1',hx0,hsp,hxn,Nat.mul_one,hil,hS',hSo,hug, *]))))
          have hbMf:bM≠bO:=by assumption
          have hlen:(r++[nx4]).length=r.length+1:=by simp
          have hkeep:∀z,z≠g->S' z=u4 z:=fun z hz=>by rw[<- HS'.out];exact j_ _ _ hz
          refine⟨_,Fg.refl _,m4 - 1,by omega,i4+1,nx4+1,xs4.set kk (.mrw bM (r++[nx4]).length),_,true,by omega,by omega,HP2,by omega,o_ (HST.out _ bM (fun z hz h1 h2=>?_) (by rw[hlen];exact q_ _ _ _) ?_ ?_),ac,ac,ac,ac,ac,ac,ac,ac,ac,ac,ac,ac,ac,ac,ac⟩
          ·have e1:=hkeep z (h2 _ _ hx0)
           rw[j_ _ _ h1,j_ _ _ (nef hM (by rw[e1];exact hz)).1,e1]
          ·rw[j_ _ _ hbMf,q_,HAP.out];rfl
          ·by_cases e:bM=g
           ·exact .inr ⟨_,by rw[e];exact hx0⟩
           ·exact .inl (by rw[<- hkeep bM e];exact hM)
        ·rw[if_neg c1]at hp
         have HP2:=o_ hp
         have c1':¬ (lv:Int)<(wk:Int):=by omega
         clear hp HP
         (repeat'(first|refine Ctl ?_|((with_reducible refine k_ hK ?_);clear hK hE K E)|((with_reducible refine bZ (fun h=>?_) (fun h=>?_))<;>(try(exfalso;assumption)))|(((with_reducible refine ab fun K E hK hE=>?_))<;>(try simp(disch:=omega) only[go_sem,seval,hkx,hwk,c1', *]))))
         exact⟨_,Fg.refl _,m4 - 1,by omega,i4+1,nx4,xs4,out4,mo4,by omega,by omega,HP2,by omega,HU,ac,ac,ac,ac,ac,ac,ac,ac,ac,ac,ac,ac,ac,ac,ac⟩
       ·have hp:=HP.out
        rw[List.drop_of_length_le (by omega)]at hp
        simp only[fR]at hp
        have hq1:=HQ1.out
        have hpm:=HPM.out
        rw[<- hp]at hq1 hpm
        simp only at hq1 hpm
        have HQ2:=o_ hq1
        have HPM2:=o_ hpm
        clear hp hq1 hpm HP
        (repeat'(first|refine Ctl ?_|((with_reducible refine k_ hK ?_);clear hK hE K E)|((with_reducible refine bZ (fun h=>?_) (fun h=>?_))<;>(try(exfalso;assumption)))|(((with_reducible refine ab fun K E hK hE=>?_))<;>(try simp(disch:=omega) only[go_sem,seval, *]))))
        refine⟨_,Fg.refl _,f,by omega,lv+1,nx4,xs4,out4,mo4,o_ ⟨HQ2.out,fun h=>.inr ?_⟩,by omega,by omega,HU,ac,ac,ac,ac,ac,ac,ac,ac,ac,ac,ac,ac⟩
        rcases HPM2.out h with e|e
        ·cases e
        ·exact e
   ·have hje:j=GR.length:=by omega
    subst hje
    have hr:=HR.out
    rw[B_]at hr
    simp only[plF]at hr
    have hA:AN=plV (Bj ds.length (some (out,sn))):=by rw[<- HAN.out,HFIN.out,<- hr]
    simp only[Bj]at hA
    have HFGU:=o_ HU.out.fg
    clear hr HR
    by_cases c1:sn.length<ds.length
    ·rw[if_pos c1]at hA
     have c1':(ds.length:Int) - (sn.length:Int) > 0:=by omega
     have c1'':(0:Int)<(ds.length:Int) - (sn.length:Int):=by omega
     (repeat'(first|refine Ctl ?_|((with_reducible refine k_ hK ?_);clear hK hE K E)|((with_reducible refine bZ (fun h=>?_) (fun h=>?_))<;>(try(exfalso;assumption)))|(((with_reducible refine ab fun K E hK hE=>?_))<;>(try simp(disch:=omega) only[go_sem,seval,c1',c1'', *]))))
     all_goals(refine aq nK hQ ?_)
     all_goals(rw[hA];exact⟨_,_,Wk.tupQ,HFGU.out,rfl,rfl⟩)
    ·rw[if_neg c1]at hA
     have c1':¬ (ds.length:Int) - (sn.length:Int) > 0:=by omega
     have c1'':¬ (0:Int)<(ds.length:Int) - (sn.length:Int):=by omega
     have hpo:=HU.out.p
     have hol:=HU.out.ol
     have hrl:=HU.out.rl
     have HRLX:=o_ hrl
     have hnx9:nx<=30000000:=by omega
     have HP0:=o_ hpo
     have HA:=o_ hA
     clear hpo hrl hA HFGU HU
     (repeat'(first|refine Ctl ?_|((with_reducible refine k_ hK ?_);clear hK hE K E)|((with_reducible refine bZ (fun h=>?_) (fun h=>?_))<;>(try(exfalso;assumption)))|(((with_reducible refine ab fun K E hK hE=>?_))<;>(try simp(disch:=omega) only[go_sem,seval,c1',c1'', *]))))
     refine bV (fun m env s'=>∃(i:Nat) (xs5:Tb),i<=ds.length/\m+i=ds.length/\Hid (PlS s s' bO xs5 ((out.take i).map List.reverse++out.drop i))/\env 9=.msl bO ds.length/\env 107=.msl bO ds.length/\env 108=.int .i64 ds.length/\env 109=.int .i64 i) ds.length ?_ ?_
     ·exact⟨_,Fg.refl _,0,xs,by omega,by omega,HP0,ac,ac,ac,ac⟩
     clear e0 e6 e9 e10 e11 e12 e44 e45 e46 HP0
     rintro m env u5 ⟨i,xs5,hi,hmi,HP,e9,e107,e108,e109⟩
     have hpo:=HP.out.o
     have hxn:xs5.length=ds.length:=by
      rw[HP.out.ln,p_,z_,r_,u_,hol]
      omega
     by_cases h5:i<ds.length
     ·have hri:((out.take i).map List.reverse++out.drop i)[i]?=some out[i]:=by
       rw[h_ (by rw[z_,r_];omega)]
       have:i - ((out.take i).map List.reverse).length=0:=by rw[z_,r_];omega
       rw[this,List.getElem?_drop,Nat.add_zero]
       exact m_ (by omega)
      have hrl:=HRLX.out _ (List.getElem_mem (l:=out) (n:=i) (by omega))
      have hout2:(out.take (i+1)).map List.reverse++out.drop (i+1)=((out.take i).map List.reverse++out.drop i).set i out[i].reverse:=by
       apply List.ext_getElem?
       intro z
       have la:((out.take i).map List.reverse).length=i:=by rw[z_,r_];omega
       have lb:((out.take (i+1)).map List.reverse).length=i+1:=by rw[z_,r_];omega
       by_cases e:i=z
       ·subst e
        rw[e_ (by rw[p_,la,u_];omega),g_ (by omega),n_,List.getElem?_take_of_lt (by omega),m_ (by omega)]
        rfl
       ·rw[i_ e]
        by_cases hz:z<i
        ·rw[g_ (by omega),g_ (by omega),n_,n_,List.getElem?_take_of_lt (by omega),List.getElem?_take_of_lt (by omega)]
        ·rw[h_ (by omega),h_ (by omega),la,lb,List.getElem?_drop,List.getElem?_drop]
         congr 1
         omega
      generalize out[i]=r at *
      have HO2:=o_ hout2
      clear hout2
      rcases HP.out.c i r hri with ⟨hr0,hx0⟩|⟨g,hx0,hug,hsg⟩
      ·have wz:=FB u5
       (repeat'(first|refine Ctl ?_|((with_reducible refine k_ hK ?_);clear hK hE K E)|((with_reducible refine bZ (fun h=>?_) (fun h=>?_))<;>(try(exfalso;assumption)))|(((with_reducible first|refine ab fun K E hK hE=>?_|refine ae GC (wz) ?_|refine d6 ?_))<;>(try simp(disch:=omega) only[go_sem,seval,hx0,hxn, *]))))
       refine⟨_,Fg.refl _,m - 1,by omega,i+1,xs5,by omega,by omega,?_,ac,ac,ac,ac⟩
       rw[HO2.out,hr0,show ([]:TW).reverse=[] from rfl]
       have:((out.take i).map List.reverse++out.drop i).set i []=(out.take i).map List.reverse++out.drop i:=by
        rw[hr0]at hri
        apply List.ext_getElem?
        intro z
        by_cases e:i=z
        ·subst e
         rw[e_ (x_.1 hri).1,hri]
        ·rw[i_ e]
       rw[this]
       exact HP
      ·have wz:=MY u5 g 3 (r.map fun(k:Nat)=>(k:Int)) (by rw[z_];omega) hug
       rw[z_]at wz
       have hmr:aM (r.map fun(k:Nat)=>(k:Int)).reverse=aM (r.reverse.map fun(k:Nat)=>(k:Int)):=by rw[List.map_reverse]
       rw[hmr]at wz
       have hgO:g≠bO:=fun e=>by rw[e,hpo]at hug;cases hug
       have hsx:xs5.set i (.mrw g r.reverse.length)=xs5:=by
        rw[List.length_reverse]
        apply List.ext_getElem?
        intro z
        by_cases e:i=z
        ·subst e
         rw[e_ (by omega),hx0]
        ·rw[i_ e]
       have hst:=HP.out.step (v:=u5.set g (.row 3 1 (aM (r.reverse.map fun(k:Nat)=>(k:Int))))) (r2:=r.reverse) (y:=g) hri (fun z hz h1 h2=>j_ _ _ (h2 _ _ hx0)) (by rw[hsx,j_ _ _ (Ne.symm hgO)];exact hpo) (q_ _ _ _) (.inr ⟨_,hx0⟩)
       rw[hsx,<- HO2.out]at hst
       have HST:=o_ hst
       clear hst hmr hsx
       generalize aM (r.reverse.map fun(k:Nat)=>(k:Int))=RX at *
       (repeat'(first|refine Ctl ?_|((with_reducible refine k_ hK ?_);clear hK hE K E)|((with_reducible refine bZ (fun h=>?_) (fun h=>?_))<;>(try(exfalso;assumption)))|(((with_reducible first|refine ab fun K E hK hE=>?_|refine ae GC (wz) ?_|refine d6 ?_))<;>(try simp(disch:=omega) only[go_sem,seval,hx0,hxn, *]))))
       exact⟨_,Fg.refl _,m - 1,by omega,i+1,xs5,by omega,by omega,HST,ac,ac,ac,ac⟩
     ·have hin:i=ds.length:=by omega
      subst hin
      have hfin:(out.take ds.length).map List.reverse++out.drop ds.length=out.map List.reverse:=by
       rw[s_ (by omega),List.drop_of_length_le (by omega),List.append_nil]
      have hpf:=HP.out
      rw[hfin]at hpf
      have hg:=hpf.freeze
      have hrn:(nG (out.map List.reverse)).length=ds.length:=by simp[nG,hol]
      have hat2:(nG (out.map List.reverse)).map (fun y=>[y])=atC (out.map List.reverse):=by simp[nG,atC,Function.comp]
      have hself:s.set bO .free=s:=v_ _ _ _ hpf.nO
      have HG:=o_ hg
      clear hfin hpf hg HP
      (repeat'(first|(with_reducible refine aR 45 ?_)|refine Ctl ?_|((with_reducible refine k_ hK ?_);clear hK hE K E)|((with_reducible refine bZ (fun h=>?_) (fun h=>?_))<;>(try(exfalso;assumption)))|(((with_reducible refine ab fun K E hK hE=>?_))<;>(try simp(disch:=omega) only[go_sem,seval, *]))))
      unfold bC
      refine lD HG.out ?_
      refine Ck 9 bO ds.length (q_ _ _ _) (ac) hrn ?_
      rw[hat2,St.set_set,hself]
      (repeat'(first|refine Ctl ?_|((with_reducible refine k_ hK ?_);clear hK hE K E)|(((with_reducible refine ab fun K E hK hE=>?_))<;>(try simp(disch:=omega) only[go_sem,seval, *]))))
      all_goals(refine aq nK hQ ?_)
      rw[HA.out]
      exact⟨_,_,Wk.refl _,Fg.refl _,rfl,rfl⟩
 ·have hA:plV (eO ds od)=.tup [.lst [] .no,.int .i64 1]:=by
   unfold eO
   rw[if_neg hmay]
   rfl
  rw[hA]
  unfold wdR at w1
  unfold iW at hmay
  clear hA
  generalize cH ds=D at *
  cases h1:ms [] ds
  ·rw[h1]at w1
   simp only[Bool.false_eq_true,if_false]at w1
   refine am Tryz.func61 rfl Tryz.ntmps61 rfl fun Q hQ hQe=>?_
   (repeat'(first|refine Ctl ?_|((with_reducible refine k_ hK ?_);clear hK hE K E)|((with_reducible refine bZ (fun h=>?_) (fun h=>?_))<;>(try(exfalso;assumption)))|(((with_reducible first|refine ab fun K E hK hE=>?_|refine ae kA (w1) ?_))<;>(try simp(disch:=omega) only[go_sem,seval, *]))))
   all_goals(refine aq nK hQ ?_)
   all_goals exact⟨_,_,Wk.tupQ,Fg.refl _,rfl,rfl⟩
  ·rw[h1]at w1 hmay
   simp only[if_true]at w1
   rw[Bool.true_and]at hmay
   generalize (decide ((wdL ds).sum<=256) && decide (ds.length<=32))=B at *
   cases B
   ·generalize ak (wdL ds)=NL at *
    generalize (wdL ds).sum=W0 at *
    refine am Tryz.func61 rfl Tryz.ntmps61 rfl fun Q hQ hQe=>?_
    (repeat'(first|refine Ctl ?_|((with_reducible refine k_ hK ?_);clear hK hE K E)|((with_reducible refine bZ (fun h=>?_) (fun h=>?_))<;>(try(exfalso;assumption)))|(((with_reducible first|refine ab fun K E hK hE=>?_|refine ae kA (w1) ?_))<;>(try simp(disch:=omega) only[go_sem,seval, *]))))
    all_goals(refine aq nK hQ ?_)
    all_goals exact⟨_,_,Wk.tupQ,Fg.refl _,rfl,rfl⟩
   ·exact absurd rfl hmay
open Go.RowKit Go.Lib Go.Shelf
def Br:Go.Shelf.Ren:=⟨fun|41=>62|n=>n,fun|22=>53|23=>52|4=>4|n=>n,fun|n=>n⟩
theorem LU:Go.Proofs.SlLaysE0.n41 Tryz.prog Br:={
 mixed:=by kernel_rfl
 f41:=⟨Tryz.f62.name,by decide,Tryz.func62.trans (congrArg some (by kernel_rfl))⟩
 t4:=Tryz.underlying4
 a4:=Tryz.isAgg4
 z4:=Tryz.sizeOf4
 v4:=Tryz.zeroValue4
 t22:=Tryz.underlying53
 a22:=Tryz.isAgg53
 z22:=Tryz.sizeOf53
 v22:=Tryz.zeroValue53 }
theorem tE:(Tryz.prog.info? 52).map (fun i=>((i.zero.map fun z=>z.cells.size),i.size,i.bytes))=some (some 2,2,24):=by kernel_rfl
theorem yR (b off n c:Nat)(news:List Value)(w:World)(hl:news.length=n * 2)(hn:n<=1000000)(hc:∀j u,news[j]?=some u->w.cell? ⟨b,off+j,none⟩=some u)(h1:∀u∈news,u.oneCell'=true) :
  Calls Tryz.prog 62 #[.slice (some ⟨b,off,none⟩) n c] w fun e w'=>∃v',e=.returned v'/\w'.ownsRow w.heap.size 52 2 v' n news/\v'≠.slice none 0 0/\Below w.heap.size w w':=by
 have hi:=tE
 cases hi0:Tryz.prog.info? 52 with
 |none=>rw[hi0]at hi;cases hi
 |some i0=>
  rw[hi0]at hi
  simp only[Option.map_some,Option.some.injEq,Prod.mk.injEq]at hi
  obtain⟨a1,a2,a3⟩:=hi
  obtain⟨z,hz,hz2⟩:=Option.map_eq_some_iff.1 a1
  exact AnyE.slices_Clone LU i0 z 2 24 hi0 hz a2 a3 hz2 (by omega) Tryz.sizeOf52 b off n c news w hl (by unfold maxLen;omega) (by omega) hc h1
theorem Cw (s:St)(xs:Ta)(ow:Own)(hne:xs≠[])(hx:∀x,x∈xs->x.length=2)(hl:xs.length<=1000000):SRet Tryz.prog 62 [.lst xs ow] s (.lst xs .no) s:=by
 intro w0 G w vs hS hA
 obtain⟨v,rfl,hr⟩:=d7 hA
 generalize hq:VV.lst xs ow=q at hr
 cases hr with
 |emp a cap o ho=>
  injection hq with hq1 hq2
  exact absurd hq1 hne
 |lst b off len cap sz xs' o f h1 h2 h3 h4 h5 h6 h7=>
  injection hq with hq1 hq2
  subst hq1 hq2
  have hsz:sz=2:=by
   obtain⟨x,r,rfl⟩:=List.exists_cons_of_ne_nil hne
   rw[<- h3 x (by simp),hx x (by simp)]
  subst hsz
  obtain⟨news,hnews⟩:∃news:List Value,news=(List.range (len * 2)).map fun j=>f (j / 2) (j % 2):=⟨_,rfl⟩
  have hnl:news.length=len * 2:=by rw[hnews];simp
  have hna:∀j u,news[j]?=some u->j<len * 2/\u=f (j / 2) (j % 2):=fun j u h=>by
   have hj:j<len * 2:=by rw[<- hnl];exact(x_.1 h).1
   refine⟨hj,?_⟩
   rw[hnews,n_,List.getElem?_range hj]at h
   injection h with h
   exact h.symm
  have hfo:∀j,j<len * 2->(f (j / 2) (j % 2)).oneCell'=true:=fun j hj=>by
   have h8:=m_ (show j / 2<xs.length by omega)
   have hm:=List.getElem_mem (l:=xs) (n:=j / 2) (by omega)
   have h9:=m_ (show j % 2<xs[j / 2].length by rw[hx _ hm];omega)
   rw[(h6 _ _ _ _ h8 h9).one]
   exact h4 _ hm _ (List.getElem_mem _)
  refine(yR b off len cap news w hnl (by omega) (fun j u h=>?_) (fun u h=>?_)).mono ?_
  ·obtain⟨hj,rfl⟩:=hna j u h
   have:=hS.K _ _ _ (h5 (j / 2) (j % 2) (by omega) (by omega))
   rw[show j / 2 * 2+j % 2=j by omega]at this
   exact this
  ·obtain⟨j,hj⟩:=d_.1 h
   obtain⟨hj2,rfl⟩:=hna j u hj
   exact hfo j hj2
  ·rintro e w' ⟨v',rfl,hown,_,hb⟩
   rcases hown.2 with ⟨_,h0⟩|⟨g,c2,cur,rfl,hge,hh,hcap,hm,hcs,hcur⟩
   ·exact absurd (l_ (h1.trans h0)) hne
   ·obtain⟨G',k1,k2,k3⟩:=hS.know hb g hge (fun i=>if i<len * 2 then cur[i]? else none) fun i v hv=>by
     split at hv
     ·simp only[World.cell?,hh];exact hv
     ·cases hv
    refine⟨G',s,.ret (.lst xs .no),k1,k2,?_,rfl,rfl⟩
    refine .lst g 0 len c2 2 xs .no f h1 hcap h3 h4 (fun i j hi hj=>?_) (fun i j x y hx hy=>(h6 i j x y hx hy).mono k1) (.inl rfl)
    refine k3 _ _ ?_
    rw[Nat.zero_add,if_pos (by omega)]
    have h8:news[i * 2+j]?=some (f i j):=by
     rw[hnews,n_,List.getElem?_range (by omega)]
     simp only[Option.map_some]
     rw[show (i * 2+j) / 2=i by omega,show (i * 2+j) % 2=j by omega]
    rw[<- hcur,List.getElem?_take_of_lt (by omega),Array.getElem?_toList]at h8
    exact h8
 |_=>cases hq
def Pu:VV:=.raw (.pointer none)
def jo (n:Nat)(ds:List Dm)(od:TT):Except Int (TU):=if iW ds=true/\(wdL ds).sum<=n then eO ds od else .error 1
def Lw (c:Nat):Except Int (TU)->VV
 |.error e=>.tup [Pu,.int .i64 e]
 |.ok _=>.tup [.ptr c 0,.int .i64 0]
def MM (s u:St)(q c:Nat)(ds:List Dm):Except Int (TU)->Prop
 |.error _=>u=s
 |.ok o=>s c=.free/\u=s.set c (.obj 132 [.ptr q 0,.lst (cH ds) .no,.lst (atC o) .no])
theorem uK {ds:List Dm}{od:TT}{e:Int}(h:eO ds od=.error e):e=1\/e=70:=by
 unfold eO at h
 split at h
 ·generalize plF ds (wdL ds) (if od=[] then [] else ck 95 od) (List.replicate ds.length []) 0 []=r at h
  cases r with
  |none=>injection h with h;exact .inr h.symm
  |some p=>
   obtain⟨o,sn⟩:=p
   simp only[Bj]at h
   split at h
   ·injection h with h;exact .inr h.symm
   ·cases h
 ·injection h with h;exact .inl h.symm
end Go.Proofs.YtohnaepcgnbaiaaGreatDoor
namespace Go.Proofs.YtohnaepcgnbaiaaGreatDoor
open Go.RowKit
def dsT (x y:Nat):TN:=[([65],1+x),([66],1+x),([67],1+y)]
attribute [-go_sem] bJ cX bH bG
end Go.Proofs.YtohnaepcgnbaiaaGreatDoor
namespace Go.Proofs.YtohnaepcgnbaiaaGreatDoor
open Go.RowKit
theorem Nl {α:Type}{l:List α}{i:Nat}(h:i<l.length):∃x,l[i]?=some x:=⟨_,m_ h⟩
theorem Ly {α:Type}{a b:List α}(hl:a.length=b.length)(h:∀i:Nat,i<a.length->a[i]?=b[i]?):a=b:=by
 apply List.ext_getElem?
 intro i
 by_cases hi:i<a.length
 ·exact h i hi
 ·rw[t_ (by omega),t_ (by omega)]
def dL (l:TX):Prop:=l.length<=1000000000/\∀r,r∈l->r.length<=1000000000
theorem sm {rows:TX}{i:Nat}{r:TZ}(h:rows[i]?=some r):(cu rows)[i]?=some [.lst (aI r) .no]:=qP h
theorem pi (a b:TZ)(o1 o2:Own)(ha:a.length<=140737488355328)(hb:b.length<=140737488355328)(t:St):SRet Tryz.prog 37 [.lst (aI a) o1,.lst (aI b) o2] t (.bool (decide (a=b))) t:=by
 have la:(aI a).length=a.length:=dW
 have lb:(aI b).length=b.length:=dW
 by_cases hl:a.length=b.length
 ·have hli:((a.length:Int)=(b.length:Int))=True:=eq_true (by omega)
  have hlz:((b.length:Int)=(b.length:Int))=True:=eq_true rfl
  refine am Tryz.func37 rfl Tryz.ntmps37 rfl fun Q hQ hQe=>?_
  (repeat'(first|refine Ctl ?_|((with_reducible refine k_ hK ?_);clear hK hE K E)|((with_reducible refine bZ (fun h=>?_) (fun h=>?_))<;>(try(exfalso;assumption)))|(((with_reducible refine ab fun K E hK hE=>?_))<;>(try simp(disch:=omega) only[go_sem,seval,la,lb,hl, *]))))
  refine bV (fun m env s'=>∃i:Nat,i<=a.length/\m+i=a.length/\s'=t/\Hid (∀j:Nat,j<i->a[j]?=b[j]?)/\env 0=.lst (aI a) o1/\env 1=.lst (aI b) o2/\env 5=.int .i64 i) a.length ?_ ?_
  ·exact⟨t,Fg.refl _,0,by omega,by omega,rfl,o_ (fun j hj=>by omega),ac,ac,ac⟩
  ·rintro m env s' ⟨i,hi,hm,rfl,HE,e0,e1,e5⟩
   by_cases hlt:i<a.length
   ·obtain⟨c,hc⟩:=Nl hlt
    obtain⟨d,hd⟩:=Nl (l:=b) (i:=i) (by omega)
    have hsx:=ej hc
    have hsy:=ej hd
    have HC:=o_ hc
    have HD:=o_ hd
    clear hc hd
    by_cases hcd:c=d
    ·have HCD:=o_ hcd
     have hcc:(c=d)=True:=eq_true hcd
     (repeat'(first|refine Ctl ?_|(with_reducible first|(refine k_ hK ?_;clear hK hE K E)|(refine k_ hKh ?_;clear hKh Kh)|refine ax 6 [] [0,1,2,3,4,5,6,7,8] hQe fun K E hK hE=>?_)|((with_reducible refine bZ (fun h=>?_) (fun h=>?_))<;>(try(exfalso;first|assumption|omega)))|(((with_reducible first|refine ab fun K E hK hE=>?_|refine aG fun Kh hKh=>?_))<;>(try simp(disch:=omega) only[go_sem,seval,la,lb,hl,hsx,hsy, *]))))
     refine⟨s',Fg.refl _,m - 1,by omega,i+1,by omega,by omega,rfl,o_ (fun j hj=>?_),ac,ac,ac⟩
     by_cases hj2:j=i
     ·subst hj2;rw[HC.out,HD.out,HCD.out]
     ·exact HE.out j (by omega)
    ·have hcc:(c=d)=False:=eq_false hcd
     (repeat'(first|refine Ctl ?_|(with_reducible first|(refine k_ hK ?_;clear hK hE K E)|(refine k_ hKh ?_;clear hKh Kh)|refine ax 6 [] [0,1,2,3,4,5,6,7,8] hQe fun K E hK hE=>?_)|((with_reducible refine bZ (fun h=>?_) (fun h=>?_))<;>(try(exfalso;first|assumption|omega)))|(((with_reducible first|refine ab fun K E hK hE=>?_|refine aG fun Kh hKh=>?_))<;>(try simp(disch:=omega) only[go_sem,seval,la,lb,hl,hsx,hsy, *]))))
     all_goals(refine aq wU hQ ?_)
     all_goals(refine⟨_,_,Wk.of_eq ?_,?_,rfl,rfl⟩)
     ·rw[decide_eq_false (fun h=>hcd (by have:=HC.out;rw[h,HD.out]at this;injection this with this;exact this.symm))]
     ·(exact bK)
   ·(repeat'(first|refine Ctl ?_|((with_reducible refine k_ hK ?_);clear hK hE K E)|((with_reducible refine bZ (fun h=>?_) (fun h=>?_))<;>(try(exfalso;omega)))|(((with_reducible refine ab fun K E hK hE=>?_))<;>(try simp(disch:=omega) only[go_sem,seval,la,lb,hl, *]))))
    all_goals(refine aq wU hQ ?_)
    all_goals(refine⟨_,_,Wk.of_eq ?_,?_,rfl,rfl⟩)
    ·rw[decide_eq_true (Ly hl (fun j hj=>HE.out j (by omega)))]
    ·(exact bK)
 ·have hli:((a.length:Int)=(b.length:Int))=False:=eq_false (by omega)
  refine am Tryz.func37 rfl Tryz.ntmps37 rfl fun Q hQ hQe=>?_
  (repeat'(first|refine Ctl ?_|((with_reducible refine k_ hK ?_);clear hK hE K E)|((with_reducible refine bZ (fun h=>?_) (fun h=>?_))<;>(try(exfalso;assumption)))|(((with_reducible refine ab fun K E hK hE=>?_))<;>(try simp(disch:=omega) only[go_sem,seval,la,lb, *]))))
  all_goals(refine aq wU hQ ?_)
  all_goals(refine⟨_,_,Wk.of_eq ?_,?_,rfl,rfl⟩)
  ·rw[decide_eq_false (fun h=>hl (by rw[h]))]
  ·(exact bK)
theorem eT (a b:TX)(o1 o2:Own)(ha:dL a)(hb:dL b)(t:St):SRet Tryz.prog 12 [.lst (cu a) o1,.lst (cu b) o2] t (.bool (decide (a=b))) t:=by
 have hl1:(cu a).length=a.length:=jl
 have hl2:(cu b).length=b.length:=jl
 obtain⟨ha1,ha2⟩:=ha
 obtain⟨hb1,hb2⟩:=hb
 by_cases hlen:a.length=b.length
 ·generalize hR:decide (a=b)=R
  have HR:=o_ hR
  clear hR
  refine am Tryz.func12 rfl Tryz.ntmps12 rfl fun Q hQ hQe=>?_
  (repeat'(first|refine Ctl ?_|((with_reducible refine k_ hK ?_);clear hK hE K E)|((with_reducible refine bZ (fun h=>?_) (fun h=>?_))<;>(try(exfalso;assumption)))|(((with_reducible refine ab fun K E hK hE=>?_))<;>(try simp(disch:=omega) only[go_sem,seval,hl1,hl2,hlen, *]))))
  refine aY (fun m env s'=>∃(i:Nat),i<=b.length/\m+i=b.length/\Hid (a.take i=b.take i)/\s'=t/\env 0=.lst (cu a) o1/\env 1=.lst (cu b) o2/\env 5=.int .i64 i) b.length
   ⟨0,by omega,by omega,o_ rfl,rfl,ac,ac,ac⟩ ?_
  rintro m env s' ⟨i,hi,hm,HH,rfl,e0,e1,e5⟩
  by_cases h2:i<b.length
  ·obtain⟨x,hx⟩:∃x,a[i]?=some x:=⟨_,m_ (by omega)⟩
   obtain⟨y,hy⟩:∃y,b[i]?=some y:=⟨_,m_ h2⟩
   have sx:=sm hx
   have sy:=sm hy
   have w1:=fun s=>pi x y .no .no (by have:=ha2 x (y_ hx);omega) (by have:=hb2 y (y_ hy);omega) s
   have t1:a.take (i+1)=a.take i++[x]:=by rw[List.take_add_one,hx];rfl
   have t2:b.take (i+1)=b.take i++[y]:=by rw[List.take_add_one,hy];rfl
   have HT:x=y->a.take (i+1)=b.take (i+1):=fun e=>by rw[t1,t2,HH.out,e]
   have HN:¬ x=y->a≠b:=fun e=>by rintro rfl;exact e (by rw[hx]at hy;injection hy)
   clear t1 t2 hx hy
   by_cases e:x=y
   ·have HT2:=o_ (HT e)
    rw[show decide (x=y)=true by simp[e]]at w1
    clear HT HN e
    (repeat'(first|refine Ctl ?_|(with_reducible first|(refine k_ hK ?_;clear hK hE K E)|(refine k_ hKh ?_;clear hKh Kh)|(refine k_ hKb (aC ?_);clear hKb Kb)|refine ax 6 [([0,1,2,3,4,5,6,7],8,[[]])] [9] hQe fun K E hK hE=>?_)|((with_reducible refine bZ (fun h=>?_) (fun h=>?_))<;>(try(exfalso;assumption)))|(((with_reducible first|refine ab fun K E hK hE=>?_|refine ae xI (w1 _) ?_|refine ay fun Kh hKh=>?_|refine aG fun Kh hKh=>?_|refine aB fun Kb hKb=>?_))<;>(try simp(disch:=omega) only[go_sem,seval,hl1,hl2,sx,sy,hlen, *]))))
    all_goals exact⟨m - 1,by omega,i+1,by omega,by omega,HT2,rfl,ac,ac,ac⟩
   ·have hR:R=false:=by rw[<- HR.out];simp[HN e]
    subst hR
    rw[show decide (x=y)=false by simp[e]]at w1
    clear HT HN e
    (repeat'(first|refine Ctl ?_|(with_reducible first|(refine k_ hK ?_;clear hK hE K E)|(refine k_ hKh ?_;clear hKh Kh)|(refine k_ hKb (aC ?_);clear hKb Kb)|refine ax 6 [([0,1,2,3,4,5,6,7],8,[[]])] [9] hQe fun K E hK hE=>?_)|((with_reducible refine bZ (fun h=>?_) (fun h=>?_))<;>(try(exfalso;assumption)))|(((with_reducible first|refine ab fun K E hK hE=>?_|refine ae xI (w1 _) ?_|refine ay fun Kh hKh=>?_|refine aG fun Kh hKh=>?_|refine aB fun Kb hKb=>?_))<;>(try simp(disch:=omega) only[go_sem,seval,hl1,hl2,sx,sy,hlen, *]))))
    all_goals(refine aq wW hQ ?_)
    all_goals(refine⟨_,_,Wk.of_eq ?_,?_,rfl,rfl⟩)
    all_goals first|rfl|(exact bK)
  ·have hR:R=true:=by
    have h3:=HH.out
    rw[s_ (by omega),s_ (by omega)]at h3
    rw[<- HR.out];simp[h3]
   subst hR
   (repeat'(first|refine Ctl ?_|((with_reducible refine k_ hK ?_);clear hK hE K E)|((with_reducible refine bZ (fun h=>?_) (fun h=>?_))<;>(try(exfalso;assumption)))|(((with_reducible refine ab fun K E hK hE=>?_))<;>(try simp(disch:=omega) only[go_sem,seval,hl1,hl2,hlen, *]))))
   all_goals(refine aq wW hQ ?_)
   all_goals(refine⟨_,_,Wk.of_eq ?_,?_,rfl,rfl⟩)
   all_goals first|rfl|(exact bK)
 ·have hR:decide (a=b)=false:=by
   have:a≠b:=fun e=>hlen (by rw[e])
   simp[this]
  rw[hR]
  have hln:((a.length:Int)=(b.length:Int))=False:=eq_false (by omega)
  clear hR
  refine am Tryz.func12 rfl Tryz.ntmps12 rfl fun Q hQ hQe=>?_
  (repeat'(first|refine Ctl ?_|((with_reducible refine k_ hK ?_);clear hK hE K E)|((with_reducible refine bZ (fun h=>?_) (fun h=>?_))<;>(try(exfalso;assumption)))|(((with_reducible refine ab fun K E hK hE=>?_))<;>(try simp(disch:=omega) only[go_sem,seval,hl1,hl2,hln, *]))))
  all_goals(refine aq wW hQ ?_)
  all_goals(refine⟨_,_,Wk.of_eq ?_,?_,rfl,rfl⟩)
  all_goals first|rfl|(exact bK)
theorem AK:∀(L:List (TW×Nat)),(L.map (·.1)).flatten.Nodup->(∀p,p∈L->p.2<2 ^ p.1.length)->∃x:Tg,∀p,p∈L->bX p.1 x=p.2
 |[],_,_=>⟨fun _=>false,fun p h=>by simp at h⟩
 |q::L,hn,hl=>by
  rw[List.map_cons,List.flatten_cons,List.nodup_append]at hn
  obtain⟨h1,h2,h3⟩:=hn
  obtain⟨x,hx⟩:=AK L h2 fun p hp=>hl p (List.mem_cons_of_mem _ hp)
  refine⟨cV q.1 q.2 x,fun p hp=>?_⟩
  rcases AT.1 hp with rfl|hp
  ·rw[nV h1,Nat.mod_eq_of_lt (hl p (List.mem_cons_self ..))]
  ·rw[<- hx p hp]
   refine cO fun v hv=>iw fun hq=>?_
   exact h3 v hq v (List.mem_flatten.2 ⟨p.1,A_.2 ⟨p,hp,rfl⟩,hv⟩) rfl
theorem CH {n:Nat}{ds:TN}{at_:TU}(hD:DOk n ds at_){ks:TW}(hks:∀k,k∈ks->k<ds.length)(hnd:ks.Nodup){g:Tf}(hg:DepF (aj at_ ks) g){r:TZ} :
  r∈gq (treeT n g) at_ ks↔∃x,g x=true/\r=ks.map fun k=>((bX (at_.getD k []) x:Nat):Int):=by
 have hlt:=aJ hD hks
 have hI:InV ((ks.map fun k=>at_.getD k []).flatten) (treeT n g):=eH (S:=aj at_ ks) hlt hg
 have hN:((ks.map fun k=>at_.getD k []).flatten).Nodup:=cr hD hnd hks
 have hh:ep n g:=hg.hang hlt
 constructor
 ·intro h
  simp only[gq,A_]at h
  obtain⟨m,hm,rfl⟩:=h
  have h2:=(sj (n:=n) (t:=treeT n g) cQ hI hN (r:=cz (gQ at_ ks) m)).1 (by rw[mS];exact A_.2 ⟨m,hm,rfl⟩)
  obtain⟨x,hx,e⟩:=h2
  rw[bU hh]at hx
  refine⟨x,hx,?_⟩
  rw[eD,e,List.map_map,List.map_map]
  rfl
 ·rintro⟨x,hx,rfl⟩
  have h2:=(sj (n:=n) (t:=treeT n g) cQ hI hN (r:=(ks.map fun k=>at_.getD k []).map fun a=>bX a x)).2 ⟨x,by rw[bU hh];exact hx,rfl⟩
  obtain⟨m,hm,e⟩:=A_.1 h2
  refine A_.2 ⟨m,hm,?_⟩
  rw[eD,mS,e,List.map_map,List.map_map]
  rfl
theorem sV {n:Nat}{S:TW}{g:Tf}(hs:∀v,v∈S->v<n)(hg:DepF S g):∀v,dh v (treeT n g)=true->v∈S:=fun v h=>mE (eH hs hg) h
theorem SCalls.wk {P:Program}{f:FuncId}{xs ys:Tb}{s:St}{Q:SEnd->St->Prop}(h:SCalls P f ys s Q)(hl:xs.length=ys.length)(hw:∀(j:Nat) (x y:VV),xs[j]?=some x->ys[j]?=some y->Wk x y):SCalls P f xs s Q:=by
 intro w0 G w vs hS hR
 refine h w0 G w vs hS ⟨hR.1.trans hl,fun j v y hv hy=>?_⟩
 have hj:j<xs.length:=by rw[hl];exact(x_.1 hy).1
 exact hw j _ y (m_ hj) hy G v (hR.2 j v _ hv (m_ hj))
theorem Wk.rowsG {l l':Ta}{o:Own}(hl:l'.length=l.length)
  (hw:∀(i:Nat) (x':Tb),l'[i]?=some x'->∃x,l[i]?=some x/\x'.length=x.length/\∀(j:Nat) (y':VV),x'[j]?=some y'->∃y,x[j]?=some y/\Wk y y'/\(y.one=true->y'.one=true)):Wk (.lst l o) (.lst l' .no):=fun G v h=>by
 generalize hq:VV.lst l o=q at h
 cases h with
 |emp a cap o2 ho=>
  injection hq with hq1 hq2;subst hq1;subst hq2
  obtain rfl:l'=[]:=l_ hl
  exact .emp _ _ _ (.inl rfl)
 |lst b' off len cap sz' xs' o f hl2 hc' hz h1' hK hR' ho'=>
  injection hq with hq1 hq2;subst hq1;subst hq2
  refine .lst b' off len cap sz' l' _ f (hl.trans hl2) hc' (fun x hx=>?_) (fun x hx y hy=>?_) hK (fun i j x y hx hy=>?_) (.inl rfl)
  ·obtain⟨i,hi⟩:=List.getElem?_of_mem hx
   obtain⟨x0,h0,h2,_⟩:=hw i x hi
   rw[<- hz x0 (y_ h0),h2]
  ·obtain⟨i,hi⟩:=List.getElem?_of_mem hx
   obtain⟨j,hj⟩:=List.getElem?_of_mem hy
   obtain⟨x0,h0,_,h2⟩:=hw i x hi
   obtain⟨y0,h3,_,h5⟩:=h2 j y hj
   exact h5 (h1' x0 (y_ h0) y0 (y_ h3))
  ·obtain⟨x0,h0,_,h2⟩:=hw i x hx
   obtain⟨y0,h3,h4,_⟩:=h2 j y hy
   exact h4 G _ (hR' i j x0 y0 h0 h3)
 |_=>cases hq
def zH (rows:TX)(o:Own):Ta:=rows.map fun r=>[.lst (aI r) o]
theorem CP (rows:TX)(o o2:Own):Wk (.lst (zH rows o) o2) (.lst (cu rows) .no):=by
 refine Wk.rowsG (by simp[zH,cu]) fun i x' hx=>?_
 simp only[cu,n_]at hx
 obtain⟨r,hr,rfl⟩:=Option.map_eq_some_iff.1 hx
 refine⟨[.lst (aI r) o],by simp[zH,hr],rfl,fun j y' hy=>?_⟩
 cases j with
 |zero=>
  simp at hy
  subst hy
  exact⟨_,rfl,Wk.lst _ _,fun _=>rfl⟩
 |succ j=>simp at hy
theorem tT (a b:TX)(o1 o2 o3:Own)(ha:dL a)(hb:dL b)(t:St):SRet Tryz.prog 12 [.lst (cu a) o1,.lst (zH b o2) o3] t (.bool (decide (a=b))) t:=by
 refine SCalls.wk (eT a b o1 .no ha hb t) rfl fun j x y hx hy=>?_
 match j with
 |0=>simp at hx hy;subst hx;subst hy;exact Wk.refl _
 |1=>simp at hx hy;subst hx;subst hy;exact CP _ _ _
 |j+2=>simp at hx
end Go.Proofs.YtohnaepcgnbaiaaGreatDoor
