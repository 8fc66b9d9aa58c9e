/- Walks of functions that the claim reaches, and plain facts of them. Conditions: those in the statements. -/
import Derived.Test.YtgdbgfjhenobdaaGreatDoorJmCaj
import Derived.Test.YtgdbgfjhenobdaaGreatDoorJmOvj
import Derived.Test.YtgdbgfjhenobdaaGreatDoorJmDdj
set_option linter.unusedSimpArgs false
set_option linter.unusedVariables false
set_option maxRecDepth 100000
namespace Go.Proofs.YtgdbgfjhenobdaaGreatDoor
open Go.RowKit
attribute [local go_sem] disown_fl owned_fl own_fl
def rdE (x:List Cls):Int:=if checkB x=false then 1 else if ¬ (x.map (·.nm)).Nodup then 160 else 0
def atA16 (x:List Cls):List (List UInt8×Int):=pairsA (fun c:Cls=>c.nm) (fun i _=>(i:Int)) 0 x
def putC (x:List Cls):List (List UInt8×Int):=putsA (fun c:Cls=>c.nm) (fun i _=>(i:Int)) 0 x []
def stL (x:List Cls)(i:Nat):List (List VV):=intsL ((List.range i).map fun k=>(startN x k:Int))
theorem stL_len {x:List Cls}{i:Nat}:(stL x i).length=i:=by simp[stL,intsL]
theorem stL_succ {x:List Cls}{i:Nat}:stL x (i+1)=stL x i++[[.int .i64 (startN x i:Int)]]:=by
 unfold stL intsL;rw[List.range_succ,List.map_append,List.map_append];rfl
theorem stL_at {x:List Cls}{i k:Nat}(h:k<i):(stL x i)[k]?=some [.int .i64 (startN x k:Int)]:=by
 unfold stL intsL;rw[List.getElem?_map,List.getElem?_map,List.getElem?_range h];rfl
def SrcAt (t:St)(p bm:Nat)(x:List Cls):Prop:=t p=.obj 181 [.lst (x.map clsC) .no,.mp bm,.lst (stL x x.length) .no]∧t bm=.map (mpV encI (atA16 x))
theorem putC_at {x:List Cls}{i:Nat}{c:Cls}(h:x[i]?=some c):putC (x.take (i+1))=ptA c.nm (i:Int) (putC (x.take i)):=by
 unfold putC;rw[utake h,putsA_app,List.length_take,Nat.min_eq_left (Nat.le_of_lt (List.getElem?_eq_some_iff.1 h).1),Nat.zero_add]
theorem putC_len {x:List Cls}:(putC x).length=x.length↔(x.map (·.nm)).Nodup:=putsA_len x
theorem putC_eq {x:List Cls}(h:(x.map (·.nm)).Nodup):putC x=atA16 x:=by unfold putC atA16;rw[putsA_nodup 0 x [] (by simpa using h),List.nil_append]
set_option maxHeartbeats 8000000 in
theorem Cread_S (x:List Cls)(hx:SrcOk x)(t:St):SCalls Tryz.prog 101 [srcV x] t fun w u=>
  (rdE x≠0→w=.ret (.tup [.raw (.pointer none),.int .i64 (rdE x)])∧u=t)∧(rdE x=0→∃p bm,w=.ret (.tup [.ptr p 0,.int .i64 0])∧SrcAt u p bm x∧Fg u t):=by
 have w1:=fun s=>Print_S x hx s
 cases hB:checkB x with
 |false=>
  have he:rdE x=1:=by unfold rdE;rw[if_pos hB]
  have hpv:printV x=.tup [.str [],.int .i64 1]:=by simp[printV,printS,hB]
  rw[hpv]at w1
  rw[he]
  simp only[srcV]at w1 ⊢
  clear he hB hpv
  refine G_enter Tryz.func101 rfl Tryz.ntmps101 rfl fun Q hQ hQe=>?_
  (repeat'(first|refine Ctl ?_|((with_reducible refine Kof.use hK ?_);clear hK hE K E)|((with_reducible refine W_cond (fun h=>?_) (fun h=>?_))<;>(try(exfalso;assumption)))|((first|(with_reducible first|refine G_region fun K E hK hE=>?_|refine call_ret can136 (w1 _) ?_)|((with_reducible refine W_fresh (fun b hb=>?_))))<;>(try simp(disch:=omega) only[go_sem,seval, *]))))
  all_goals(refine W_ret res101 hQ ?_)
  refine⟨_,_,Wk.refl _,(z_fg:Fg _ t),fun _=>⟨rfl,rfl⟩,fun h=>absurd h (by decide)⟩
 |true=>
  obtain⟨ps,pn,hpv,hpn⟩:∃(ps:List UInt8) (pn:Nat),printV x=.tup [.str ps,.int .i64 pn]∧pn≠1:=by
   refine⟨_,_,rfl,?_⟩
   unfold printS
   rw[if_pos hB]
   cases lexSigns (prtB x)<;>simp
  rw[hpv]at w1
  have hpI:((pn:Int)=1)=False:=eq_false (by omega)
  have hrd:rdE x=if ¬ (x.map (·.nm)).Nodup then 160 else 0:=by unfold rdE;rw[if_neg (by rw[hB];simp)]
  have HRD:=Lib.hid hrd
  have HX:=Lib.hid hx
  have hxl:=hx.1
  have hx32:x.length≤32∧∀c,c∈x→c.mths.length≤32:=by
   unfold checkB at hB
   simp only[Bool.and_eq_true,decide_eq_true_eq,List.all_eq_true]at hB
   refine⟨hB.1.1,fun c hc=>?_⟩
   have:=hB.1.2 c hc
   unfold headC at this
   simp only[Bool.and_eq_true,decide_eq_true_eq]at this
   exact this.1.2
  obtain⟨hx32,hm32⟩:=hx32
  have HM:=Lib.hid hm32
  clear hB hpv hpn hrd hx hm32
  have hlen:(x.map clsC).length=x.length:=by simp
  simp only[srcV]at w1 ⊢
  refine G_enter Tryz.func101 rfl Tryz.ntmps101 rfl fun Q hQ hQe=>?_
  (repeat'(first|refine Ctl ?_|((with_reducible refine Kof.use hK ?_);clear hK hE K E)|((with_reducible refine W_cond (fun h=>?_) (fun h=>?_))<;>(try(exfalso;assumption)))|((first|(with_reducible first|refine G_region fun K E hK hE=>?_|refine call_ret can136 (w1 _) ?_)|((with_reducible refine W_fresh (fun b hb=>?_));(repeat(obtain⟨_,hb⟩:=hb))))<;>(try simp(disch:=omega) only[go_sem,seval,hlen, *]))))
  rename_i bx hbx bm n1 n2 hbm n3 n4 n5 n6
  obtain⟨bp,hbp⟩:∃z,z=b:=⟨_,rfl⟩
  subst hbp
  have hSx:(t.set bx (.obj 45 [.lst (x.map clsC) .no])) bx=.obj 45 [.lst (x.map clsC) .no]:=St.set_same _ _ _
  have hSm:(t.set bx (.obj 45 [.lst (x.map clsC) .no])) bm=.free:=by rw[St.set_other _ _ n1];exact hbm
  have hSp:(t.set bx (.obj 45 [.lst (x.map clsC) .no])) bp=.free:=by rw[St.set_other _ _ n5];exact hb
  have hF:Fg (t.set bx (.obj 45 [.lst (x.map clsC) .no])) t:=Fg.of_set _ hbx
  generalize t.set bx (.obj 45 [.lst (x.map clsC) .no])=S at *
  have HF:=Lib.hid hF
  have hSxf:S bx≠.free:=by rw[hSx];simp
  clear hF hb hbx hbm
  refine G_loopS (fun m env s'=>∃(i:Nat) (o:Own),i≤x.length∧m+i=x.length∧OwnOk S o i∧NotOwn o bm∧NotOwn o bp∧Hid (startN x i≤32 * i) ∧
   s'=((S.own o 3 1 i).set bm (.map (mpV encI (putC (x.take i))))).set bp (.obj 181 [.lst (x.map clsC) .no,.mp bm,.lst (stL x i) o]) ∧
   env 1=.ptr bx 0∧env 6=.ptr bp 0∧env 7=.int .i64 (startN x i:Int)∧env 23=.lst (x.map clsC) .no∧env 24=.int .i64 x.length∧env 25=.int .i64 i) x.length ?_ ?_
  ·exact⟨_,GS.refl _,0,.full,by omega,by omega,ownok_nil,trivial,trivial,Lib.hid (by simp[startN]),rfl,z_sl,z_sl,z_sl,z_sl,z_sl,z_sl⟩
  ·rintro m env s' ⟨i,o,hi,hm,ho,hom,hop,HST,rfl,e1,e6,e7,e23,e24,e25⟩
   have hox:=ho.not hSxf
   by_cases hlt:i<x.length
   ·obtain⟨c,hc⟩:=uget hlt
    have hsx:=clsC_at hc
    have hsl:=start_le hc
    have hcl:=HM.out c (List.mem_of_getElem? hc)
    have hst0:=HST.out
    have hln:=stL_len (x:=x) (i:=i)
    have hput:=putC_at hc
    have HPUT:=Lib.hid hput
    have HSL:=Lib.hid hsl
    clear hput hc hsl
    obtain⟨cn,cp,cm⟩:=c
    simp only at hcl
    have hml:(cm.map mthC).length=cm.length:=by simp
    (repeat'(first|refine Ctl ?_|(with_reducible first|(refine Kof.use hK ?_;clear hK hE K E)|(refine Kof.use hKh ?_;clear hKh Kh)|(refine Kof.use hKb (P_next ?_);clear hKb Kb)|refine G_plan 9 [([0,1,2,3,4,5,6],7,[[]])] [] hQe fun K E hK hE=>?_)|((with_reducible refine W_cond (fun h=>?_) (fun h=>?_))<;>(try(exfalso;assumption)))|((first|(with_reducible first|refine G_region fun K E hK hE=>?_|refine P_heads fun Kh hKh=>?_|refine P_fin fun Kh hKh=>?_|refine P_each fun Kb hKb=>?_)|((with_reducible refine W_fresh (fun b hb=>?_));(repeat(obtain⟨_,hb⟩:=hb));(try(rw[own_fr]at hb;obtain⟨_,hb⟩:=hb;obtain⟨_,_⟩:=nef hb hSxf)))|((with_reducible refine W_app (fun o2 ho=>?_));(try simp(disch:=assumption) only[disown_set,disown_own,ownok_o,ownok_m,List.length_map,List.length_cons,List.length_nil,Nat.zero_add,hlen,hsx,clsC,hln,hml]at ho);(repeat(obtain⟨_,ho⟩:=ho))))<;>(try simp(disch:=first|assumption|omega) only[go_sem,seval,hlen,hsx,clsC,hln,hml, *]))))
    have hs1:startN x (i+1)=startN x i+cm.length:=HSL.out
    refine⟨_,GS.of_fg (Fg.of_set _ (by rw[St.set_other _ _ (by assumption),St.set_other _ _ (by assumption),own_fr];exact⟨by assumption,hb⟩)),m - 1,by omega,i+1,o2,by omega,by omega,ho,by assumption,by assumption,Lib.hid (by omega),by rw[stL_succ,HPUT.out],z_sl,z_sl,?_,z_sl,z_sl,z_sl⟩
    rw[hs1]
    ((try simp(disch:=assumption) only[go_sem,seval, *])<;>rfl)
   ·have hie:i=x.length:=by omega
    subst hie
    rw[List.take_of_length_le (Nat.le_refl _)]
    have hpl:=putC_len (x:=x)
    have HPL:=Lib.hid hpl
    clear hpl
    have hg:=GS.wkobj (s:=((S.own o 3 1 x.length).set bm (.map (mpV encI (putC x)))).set bp (.obj 181 [.lst (x.map clsC) .no,.mp bm,.lst (stL x x.length) o])) (b:=bp) (ys:=[.lst (x.map clsC) .no,.mp bm,.lst (stL x x.length) .no]) (St.set_same _ _ _) rfl (fun j y hy=>by
     match j with
     |0=>simp at hy;subst hy;exact⟨_,rfl,Wk.refl _,id⟩
     |1=>simp at hy;subst hy;exact⟨_,rfl,Wk.refl _,id⟩
     |2=>simp at hy;subst hy;exact⟨_,rfl,Wk.lst _ _,id⟩
     |j+3=>simp at hy)
    rw[St.set_set]at hg
    refine Kp_gs hg ?_
    clear hg
    (repeat'(first|refine Ctl ?_|(with_reducible first|(refine Kof.use hK ?_;clear hK hE K E)|(refine Kof.use hKh ?_;clear hKh Kh)|refine G_plan 13 [] [0,1,2,3,4,5,6,7,8] hQe fun K E hK hE=>?_)|((with_reducible refine W_cond (fun h=>?_) (fun h=>?_))<;>(try(exfalso;assumption)))|(((with_reducible first|refine G_region fun K E hK hE=>?_|refine P_fin fun Kh hKh=>?_))<;>(try simp(disch:=first|assumption|omega) only[go_sem,seval,hlen, *]))))
    ·have hnd:¬ (x.map (·.nm)).Nodup:=fun hh=>h (HPL.out.2 hh)
     have hr:=HRD.out
     rw[if_pos hnd]at hr
     (refine W_ret res101 hQ ?_)
     rw[hr]
     exact⟨_,t,Wk.refl _,Fg.setA (Fg.setA ((Fg.own ho).trans HF.out) (HF.out.free hSm)) (HF.out.free hSp),fun _=>⟨rfl,rfl⟩,fun h=>absurd h (by decide)⟩
    ·have hnd:(x.map (·.nm)).Nodup:=HPL.out.1 (of_eq_true h)
     have hr:=HRD.out
     rw[if_neg (by simpa using hnd)]at hr
     (refine W_ret res101 hQ ?_)
     rw[hr]
     refine⟨_,_,Wk.refl _,Fg.refl _,fun h=>absurd rfl h,fun _=>⟨bp,bm,rfl,⟨St.set_same _ _ _,?_⟩,?_⟩⟩
     ·rw[St.set_other _ _ n4,St.set_same,putC_eq hnd]
     ·exact Fg.setA (Fg.setA ((Fg.own ho).trans HF.out) (HF.out.free hSm)) (HF.out.free hSp)
def ownV (c:Cls)(n:List UInt8):VV:=match ownI c n with
 |none=>.tup [.int .i64 0,.raw (.pointer none)]
 |some j=>match c.mths[j]? with|none=>.tup [.int .i64 0,.raw (.pointer none)]|some m=>.tup [.int .i64 j,.eptr (mthC m)]
def ixZM (n:List UInt8)(ms:List Mth)(i:Nat):Int:=match ixT n ((ms.drop i).map (·.nm))with|some k=>((k+i:Nat):Int)|none=>-1
theorem ixZM_end {n:List UInt8}{ms:List Mth}:ixZM n ms ms.length=-1:=by unfold ixZM;rw[List.drop_length];rfl
theorem ixZM_at {n:List UInt8}{ms:List Mth}{i:Nat}{c:Mth}(h:ms[i]?=some c):ixZM n ms i=if n=c.nm then(i:Int)else ixZM n ms (i+1):=by
 have hlt:i<ms.length:=(List.getElem?_eq_some_iff.1 h).1
 have hc:ms[i]=c:=by rw[List.getElem?_eq_getElem hlt]at h;injection h
 unfold ixZM
 rw[List.drop_eq_getElem_cons hlt,hc,List.map_cons]
 simp only[ixT]
 by_cases e:n=c.nm
 ·rw[if_pos e,if_pos e];simp
 ·rw[if_neg e,if_neg e]
  cases ixT n ((ms.drop (i+1)).map (·.nm))with
  |none=>rfl
  |some k=>simp only[Option.map_some];congr 1;omega
theorem mthC_at16 {l:List Mth}{i:Nat}{x:Mth}(h:l[i]?=some x):(l.map mthC)[i]?=some (mthC x):=by rw[List.getElem?_map,h];rfl
theorem Cown1_S (t:St)(b:Nat)(n:List UInt8)(m:Mth)(hb:t b=.obj 9 [.str n]):SRet Tryz.prog 142 [.agg (mthC m),.ptr b 0] t (.bool (decide (m.nm=n))) t:=by
 have hbf:t b≠.free:=by rw[hb];simp
 obtain⟨ms,mn,mp,mb⟩:=m
 simp only[mthC]
 refine G_enter Tryz.func142 rfl Tryz.ntmps142 rfl fun Q hQ hQe=>?_
 (repeat'(first|refine Ctl ?_|((with_reducible refine Kof.use hK ?_);clear hK hE K E)|((first|(with_reducible refine G_region fun K E hK hE=>?_)|((with_reducible refine W_fresh (fun b hb=>?_));(try(obtain⟨_,_⟩:=nef hb hbf))))<;>(try simp(disch:=omega) only[go_sem,seval,strsV,stsV, *]))))
 all_goals(refine W_ret res142 hQ ?_)
 all_goals(refine⟨_,_,Wk.of_eq ?_,?_,rfl,rfl⟩)
 all_goals first|rfl|(exact z_fg)
set_option maxHeartbeats 4000000 in
theorem CidxM_S (t:St)(b:Nat)(n:List UInt8)(ms:List Mth)(hb:t b=.obj 9 [.str n])(hl:ms.length≤140737488355328):SRet Tryz.prog 141 [.lst (ms.map mthC) .no,.fn 142 [.ptr b 0]] t (.int .i64 (ixZM n ms 0)) t:=by
 have hlen:(ms.map mthC).length=ms.length:=by simp
 generalize hR:ixZM n ms 0=R
 have HR:=Lib.hid hR
 clear hR
 refine G_enter Tryz.func141 rfl Tryz.ntmps141 rfl fun Q hQ hQe=>?_
 (repeat'(first|refine Ctl ?_|((with_reducible refine Kof.use hK ?_);clear hK hE K E)|(((with_reducible refine G_region fun K E hK hE=>?_))<;>(try simp(disch:=omega) only[go_sem,seval,hlen, *]))))
 refine G_loop (fun m env s'=>∃i:Nat,i≤ms.length∧m+i=ms.length∧s'=t∧Hid (ixZM n ms i=R)∧env 0=.lst (ms.map mthC) .no∧env 1=.fn 142 [.ptr b 0]∧env 7=.int .i64 ms.length∧env 8=.int .i64 i) ms.length ?_ ?_
 ·exact⟨_,Fg.refl _,0,by omega,by omega,rfl,HR,z_sl,z_sl,z_sl,z_sl⟩
 clear HR
 rintro m env s' ⟨i,hi,hm,rfl,HE,e0,e1,e7,e8⟩
 by_cases hlt:i<ms.length
 ·obtain⟨c,hc⟩:=uget hlt
  have hsx:=mthC_at16 hc
  have hE:=HE.out
  rw[ixZM_at hc]at hE
  have w1:=Cown1_S s' b n c hb
  obtain⟨cs,cn,cp,cb⟩:=c
  simp only[mthC,strsV,stsV]at hE w1
  clear hc HE
  by_cases hcn:cn=n
  ·subst hcn
   rw[if_pos rfl]at hE
   have HE:=Lib.hid hE
   clear hE
   (repeat'(first|refine Ctl ?_|((with_reducible refine Kof.use hK ?_);clear hK hE K E)|((with_reducible refine W_cond (fun h=>?_) (fun h=>?_))<;>(try(exfalso;assumption)))|(((with_reducible first|refine G_region fun K E hK hE=>?_|refine call_ret can142 (w1) ?_))<;>(try simp(disch:=omega) only[go_sem,seval,hlen,hsx,mthC,strsV,stsV, *]))))
   all_goals(refine W_ret res141 hQ ?_)
   all_goals(refine⟨_,_,Wk.of_eq ?_,?_,rfl,rfl⟩)
   ·rw[show _=R from HE]
   ·(exact z_fg)
  ·rw[if_neg (fun h=>hcn h.symm)]at hE
   have HE:=Lib.hid hE
   have hcf:(cn=n)=False:=eq_false hcn
   clear hE
   (repeat'(first|refine Ctl ?_|((with_reducible refine Kof.use hK ?_);clear hK hE K E)|((with_reducible refine W_cond (fun h=>?_) (fun h=>?_))<;>(try(exfalso;assumption)))|(((with_reducible first|refine G_region fun K E hK hE=>?_|refine call_ret can142 (w1) ?_))<;>(try simp(disch:=omega) only[go_sem,seval,hlen,hsx,mthC,strsV,stsV, *]))))
   exact⟨s',Fg.refl _,m - 1,by omega,i+1,by omega,by omega,rfl,HE,z_sl,z_sl,z_sl,z_sl⟩
 ·have hE:=HE.out
  rw[show i=ms.length by omega,ixZM_end]at hE
  have HE2:=Lib.hid hE
  clear hE HE
  (repeat'(first|refine Ctl ?_|((with_reducible refine Kof.use hK ?_);clear hK hE K E)|((with_reducible refine W_cond (fun h=>?_) (fun h=>?_))<;>(try(exfalso;assumption)))|(((with_reducible refine G_region fun K E hK hE=>?_))<;>(try simp(disch:=omega) only[go_sem,seval,hlen, *]))))
  all_goals(refine W_ret res141 hQ ?_)
  all_goals(refine⟨_,_,Wk.of_eq ?_,?_,rfl,rfl⟩)
  ·rw[show _=R from HE2]
  ·(exact z_fg)
end Go.Proofs.YtgdbgfjhenobdaaGreatDoor
namespace Go.Proofs.YtgdbgfjhenobdaaGreatDoor
open Go.RowKit
section
variable {P : Program} {N : Nat} {all : List Oper} {K : Env → St → Prop} {E : VV → Env → St → Prop} {d : Option Tmp} {rest : List Oper} {env : Env} {s : St} {T : TypeId} {cy : Bool} {cs : List VV} {w : Value}
theorem p_enil1:vbin P N all K E .eql T cy d rest env s (.eptr cs) (.raw w)=(cy=true∧vnl P N all K E d rest env s false (nilB (qi P T).k (.eptr cs) (.raw w))):=rfl
theorem p_enil2:vbin P N all K E .neq T cy d rest env s (.eptr cs) (.raw w)=(cy=true∧vnl P N all K E d rest env s true (nilB (qi P T).k (.eptr cs) (.raw w))):=rfl
theorem p_nilE:nilB .ptr (.eptr cs) (.raw (.pointer none))=some false:=rfl
end
theorem SrcAt.fg {u t:St}{p bm:Nat}{x:List Cls}(h:SrcAt t p bm x)(hf:Fg u t):SrcAt u p bm x:=by
 obtain⟨h1,h2⟩:=h
 have k1:u p=t p:=((hf p).resolve_left (by rw[h1];simp)).symm
 have k2:u bm=t bm:=((hf bm).resolve_left (by rw[h2];simp)).symm
 exact⟨k1.trans h1,k2.trans h2⟩
theorem atA16_lk {x:List Cls}(n:List UInt8):lkA n (atA16 x)=Option.map (fun i:Nat=>(i:Int)) (atC x n):=by
 unfold atA16 atC
 rw[lkA_pairs]
 cases h:ixT n (x.map (·.nm))with
 |none=>rfl
 |some j=>
  have:=ixT_lt h
  rw[List.getElem?_map]at this
  obtain⟨c,hc,_⟩:=Option.map_eq_some_iff.1 this
  simp[hc]
theorem ownI_ix {c:Cls}{n:List UInt8}:ixZM n c.mths 0=match ownI c n with|some k=>(k:Int)|none=>-1:=by
 unfold ixZM ownI;rw[List.drop_zero];rfl
theorem ownI_get {c:Cls}{n:List UInt8}{j:Nat}(h:ownI c n=some j):∃m,c.mths[j]?=some m∧m.nm=n:=by
 have:=ixT_lt (show ixT n (c.mths.map (·.nm))=some j from h)
 rw[List.getElem?_map]at this
 obtain⟨m,h1,h2⟩:=Option.map_eq_some_iff.1 this
 exact⟨m,h1,h2⟩
set_option maxHeartbeats 4000000 in
theorem Cown_S (t:St)(p bm k:Nat)(x:List Cls)(c:Cls)(n:List UInt8)(hS:SrcAt t p bm x)(hk:x[k]?=some c)(hl:c.mths.length≤140737488355328):SRet Tryz.prog 106 [.ptr p 0,.int .i64 k,.str n] t (ownV c n) t:=by
 obtain⟨h1,h2⟩:=hS
 have hpf:t p≠.free:=by rw[h1];simp
 have hlen:(x.map clsC).length=x.length:=by simp
 have hsx:=clsC_at hk
 have hkl:=(List.getElem?_eq_some_iff.1 hk).1
 have w1:=fun s b (hb:s b=.obj 9 [.str n])=>CidxM_S s b n c.mths hb hl
 rw[ownI_ix]at w1
 unfold ownV
 clear hk h2
 cases ho:ownI c n with
 |none=>
  rw[ho]at w1
  simp only at w1 ⊢
  clear ho
  obtain⟨cn,cp,cm⟩:=c
  simp only at w1
  refine G_enter Tryz.func106 rfl Tryz.ntmps106 rfl fun Q hQ hQe=>?_
  (repeat'(first|refine Ctl ?_|((with_reducible refine Kof.use hK ?_);clear hK hE K E)|((with_reducible refine W_cond (fun h=>?_) (fun h=>?_))<;>(try(exfalso;assumption)))|((first|(with_reducible first|refine G_region fun K E hK hE=>?_|refine call_ret can141 (w1 _ _ (by simp(disch:=assumption) only[go_sem,seval, *])) ?_)|((with_reducible refine W_fresh (fun b hb=>?_));(repeat(obtain⟨_,hb⟩:=hb));(try(obtain⟨_,_⟩:=nef hb hpf))))<;>(try simp(disch:=omega) only[go_sem,seval,hlen,hsx,clsC, *]))))
  all_goals(refine W_ret res106 hQ ?_)
  all_goals(refine⟨_,_,Wk.of_eq ?_,?_,rfl,rfl⟩)
  all_goals first|rfl|(exact z_fg)
 |some j=>
  obtain⟨m,hm,_⟩:=ownI_get ho
  rw[ho]at w1
  simp only[hm]at w1 ⊢
  have hmm:=mthC_at16 hm
  have hm4:(mthC m).length=4:=rfl
  have hml:(c.mths.map mthC).length=c.mths.length:=by simp
  have hjl:=(List.getElem?_eq_some_iff.1 hm).1
  clear ho hm
  obtain⟨cn,cp,cm⟩:=c
  simp only at w1 hmm hml hjl
  refine G_enter Tryz.func106 rfl Tryz.ntmps106 rfl fun Q hQ hQe=>?_
  (repeat'(first|refine Ctl ?_|(with_reducible first|(refine Kof.use hK ?_;clear hK hE K E)|(refine Kof.use hKh ?_;clear hKh Kh)|refine G_plan 5 [] [0,1,2,3,4,5,6] hQe fun K E hK hE=>?_)|((with_reducible refine W_cond (fun h=>?_) (fun h=>?_))<;>(try(exfalso;omega)))|((first|(with_reducible first|refine G_region fun K E hK hE=>?_|refine call_ret can141 (w1 _ _ (by simp(disch:=assumption) only[go_sem,seval, *])) ?_|refine P_fin fun Kh hKh=>?_)|((with_reducible refine W_fresh (fun b hb=>?_));(repeat(obtain⟨_,hb⟩:=hb));(try(obtain⟨_,_⟩:=nef hb hpf))))<;>(try simp(disch:=omega) only[go_sem,seval,hlen,hsx,clsC,hmm,hml,hm4, *]))))
  all_goals(refine W_ret res106 hQ ?_)
  all_goals(refine⟨_,_,Wk.of_eq ?_,?_,rfl,rfl⟩)
  all_goals first|rfl|(exact z_fg)
def upRun {A:Type}(x:List Cls)(f:A→Nat→A×Bool):Nat→A→List UInt8→A×Bool
 |0,a,_=>(a,false)
 |k+1,a,n=>if n=[] then(a,true)else match atC x n with
  |none=>(a,false)
  |some i=>if (f a i).2=true then upRun x f k (f a i).1 ((x[i]?.map (·.par)).getD [])else((f a i).1,true)
set_option maxHeartbeats 4000000 in
theorem Cup_S {A:Type}(x:List Cls)(p bm:Nat)(g:FuncId)(caps:List VV)(S:A→St)(f:A→Nat→A×Bool)(canG:Callable Tryz.prog g)(hS:∀a,SrcAt (S a) p bm x)
  (hcl:∀a (i:Nat),i<x.length→SRet Tryz.prog g (.int .i64 i::caps) (S a) (.bool (f a i).2) (S (f a i).1)) (hx:x.length≤100000) (a0:A) (n:List UInt8) :
  SRet Tryz.prog 102 [.ptr p 0,.str n,.fn g caps] (S a0) (.bool (upRun x f (x.length+1) a0 n).2) (S (upRun x f (x.length+1) a0 n).1):=by
 have hlen:(x.map clsC).length=x.length:=by simp
 have hSa:=fun a=>(hS a).1
 have hSb:=fun a=>(hS a).2
 have HCL:=Lib.hid hcl
 generalize hR:upRun x f (x.length+1) a0 n=R
 have HR:=Lib.hid hR
 clear hR hS hcl
 have h1:=hSa a0
 have h2:=hSb a0
 have hpf:S a0 p≠.free:=by rw[h1];simp
 refine G_enter Tryz.func102 rfl Tryz.ntmps102 rfl fun Q hQ hQe=>?_
 (repeat'(first|refine Ctl ?_|((with_reducible refine Kof.use hK ?_);clear hK hE K E)|(((with_reducible refine G_region fun K E hK hE=>?_))<;>(try simp(disch:=omega) only[go_sem,seval,hlen, *]))))
 refine G_loop (fun m env s'=>∃(i:Nat) (a:A) (nm:List UInt8),i≤x.length+1∧m+i=x.length+1∧s'=S a∧Hid (upRun x f (x.length+1 - i) a nm=R)∧env 0=.ptr p 0∧env 1=.str nm∧env 2=.fn g caps∧env 15=.int .i64 ((x.length+1:Nat):Int)∧env 16=.int .i64 i) (x.length+1) ?_ ?_
 ·exact⟨_,Fg.refl _,0,a0,n,by omega,by omega,rfl,HR,z_sl,z_sl,z_sl,z_sl,z_sl⟩
 clear HR h1 h2 hpf
 rintro m env s' ⟨i,a,nm,hi,hm,rfl,HU,e0,e1,e2,e15,e16⟩
 have h1:=hSa a
 have h2:=hSb a
 have hpf:S a p≠.free:=by rw[h1];simp
 by_cases hlt:i<x.length+1
 ·have hU:=HU.out
  rw[show x.length+1 - i=(x.length+1 - (i+1))+1 by omega]at hU
  simp only[upRun]at hU
  clear HU
  by_cases hnm:nm=[]
  ·rw[if_pos hnm]at hU
   subst hnm
   subst hU
   (repeat'(first|refine Ctl ?_|((with_reducible refine Kof.use hK ?_);clear hK hE K E)|((with_reducible refine W_cond (fun h=>?_) (fun h=>?_))<;>(try(exfalso;assumption)))|(((with_reducible refine G_region fun K E hK hE=>?_))<;>(try simp(disch:=omega) only[go_sem,seval,hlen, *]))))
   all_goals(refine W_ret res102 hQ ?_)
   all_goals exact⟨_,_,Wk.refl _,Fg.refl _,rfl,rfl⟩
  ·rw[if_neg hnm]at hU
   have hlk:=atA16_lk (x:=x) nm
   have hnf:(nm=[])=False:=eq_false hnm
   cases hat:atC x nm with
   |none=>
    rw[hat]at hU hlk
    simp only[Option.map_none]at hU hlk
    subst hU
    (repeat'(first|refine Ctl ?_|((with_reducible refine Kof.use hK ?_);clear hK hE K E)|((with_reducible refine W_cond (fun h=>?_) (fun h=>?_))<;>(try(exfalso;assumption)))|(((with_reducible refine G_region fun K E hK hE=>?_))<;>(try simp(disch:=omega) only[go_sem,seval,hlen,hlk,Option.getD_none,Option.isSome_none, *]))))
    all_goals(refine W_ret res102 hQ ?_)
    all_goals exact⟨_,_,Wk.refl _,Fg.refl _,rfl,rfl⟩
   |some k=>
    obtain⟨c,hc,_⟩:=atC_get hat
    rw[hat]at hU hlk
    simp only[Option.map_some,hc,Option.getD_some]at hU hlk
    have hsx:=clsC_at hc
    have hkl:=(List.getElem?_eq_some_iff.1 hc).1
    have w1:=HCL.out a k hkl
    clear hat hc
    cases hgo:(f a k).2 with
    |false=>
     rw[hgo]at hU w1
     simp only[Bool.false_eq_true,if_false]at hU
     subst hU
     (repeat'(first|refine Ctl ?_|((with_reducible refine Kof.use hK ?_);clear hK hE K E)|((with_reducible refine W_cond (fun h=>?_) (fun h=>?_))<;>(try(exfalso;assumption)))|(((with_reducible first|refine G_region fun K E hK hE=>?_|refine call_ret canG (w1) ?_))<;>(try simp(disch:=omega) only[go_sem,seval,hlen,hlk,Option.getD_some,Option.isSome_some, *]))))
     all_goals(refine W_ret res102 hQ ?_)
     all_goals exact⟨_,_,Wk.refl _,Fg.refl _,rfl,rfl⟩
    |true=>
     rw[hgo]at hU w1
     simp only[if_true]at hU
     have HU:=Lib.hid hU
     have h3:=hSa (f a k).1
     clear hU
     generalize (f a k).1=a' at *
     clear hgo
     obtain⟨cn,cp,cm⟩:=c
     (repeat'(first|refine Ctl ?_|((with_reducible refine Kof.use hK ?_);clear hK hE K E)|((with_reducible refine W_cond (fun h=>?_) (fun h=>?_))<;>(try(exfalso;assumption)))|(((with_reducible first|refine G_region fun K E hK hE=>?_|refine call_ret canG (w1) ?_))<;>(try simp(disch:=omega) only[go_sem,seval,hlen,hsx,clsC,hlk,Option.getD_some,Option.isSome_some, *]))))
     exact⟨_,Fg.refl _,m - 1,by omega,i+1,a',cp,by omega,by omega,rfl,HU,z_sl,z_sl,z_sl,z_sl,z_sl⟩
 ·have hU:=HU.out
  rw[show x.length+1 - i=0 by omega]at hU
  simp only[upRun]at hU
  subst hU
  clear HU
  (repeat'(first|refine Ctl ?_|((with_reducible refine Kof.use hK ?_);clear hK hE K E)|((with_reducible refine W_cond (fun h=>?_) (fun h=>?_))<;>(try(exfalso;assumption)))|(((with_reducible refine G_region fun K E hK hE=>?_))<;>(try simp(disch:=omega) only[go_sem,seval,hlen, *]))))
  all_goals(refine W_ret res102 hQ ?_)
  all_goals exact⟨_,_,Wk.refl _,Fg.refl _,rfl,rfl⟩
attribute [local go_sem] p_enil1 p_enil2 p_nilE
theorem Cr1_S (i:Int)(t:St):SRet Tryz.prog 103 [.int .i64 i] t (.bool true) t:=by
 refine G_enter Tryz.func103 rfl Tryz.ntmps103 rfl fun Q hQ hQe=>?_
 (repeat'(first|refine Ctl ?_|((with_reducible refine Kof.use hK ?_);clear hK hE K E)|(((with_reducible refine G_region fun K E hK hE=>?_))<;>(try simp(disch:=assumption) only[go_sem,seval, *]))))
 all_goals(refine W_ret res103 hQ ?_)
 all_goals(refine⟨_,_,Wk.of_eq ?_,?_,rfl,rfl⟩)
 all_goals first|rfl|(exact z_fg)
theorem upRun_all {x:List Cls}:∀(f:Nat) (n:List UInt8),(upRun x (fun(a:Unit) (_:Nat)=>(a,true)) f () n).2=(chainN x f n).2
 |0,_=>rfl
 |f+1,n=>by
  simp only[upRun,chainN]
  by_cases h0:n=[]
  ·rw[if_pos h0,if_pos h0]
  ·rw[if_neg h0,if_neg h0]
   cases ha:atC x n with
   |none=>rfl
   |some k=>simp only[if_true];exact upRun_all f _
def lkN (a:Option (Nat×Mth)):VV:=match a with|some r=>.int .i64 (r.1:Int)|none=>.int .i64 0
def lkP (a:Option (Nat×Mth)):VV:=match a with|some r=>.eptr (mthC r.2)|none=>.raw (.pointer none)
def lkS (B:St)(b8 b9:Nat)(a:Option (Nat×Mth)):St:=(B.set b8 (.obj 3 [lkN a])).set b9 (.obj 152 [lkP a])
def lkF (x:List Cls)(n:List UInt8)(st:Bool)(a:Option (Nat×Mth))(i:Nat):Option (Nat×Mth)×Bool:=match hitN x n st i with|some r=>(some r,false)|none=>(a,a.isNone)
theorem upRun_first {x:List Cls}{n:List UInt8}{st:Bool}:∀(f:Nat) (nm:List UInt8),(upRun x (lkF x n st) f none nm).1=firstN x n st (chainN x f nm).1
 |0,_=>rfl
 |f+1,nm=>by
  simp only[upRun,chainN]
  by_cases h0:nm=[]
  ·rw[if_pos h0,if_pos h0];rfl
  ·rw[if_neg h0,if_neg h0]
   cases ha:atC x nm with
   |none=>rfl
   |some k=>
    simp only[firstN]
    unfold lkF
    cases hh:hitN x n st k with
    |some r=>simp
    |none=>simp only[Option.isNone_none,if_true];exact upRun_first f _
theorem lkS_fg {B:St}{b8 b9:Nat}(h8:B b8=.free)(h9:B b9=.free)(a:Option (Nat×Mth)):Fg (lkS B b8 b9 a) B:=Fg.setA (Fg.of_set _ h8) h9
theorem lkS_get {B:St}{b8 b9 b:Nat}(h8:B b8=.free)(h9:B b9=.free)(hb:B b≠.free)(a:Option (Nat×Mth)):lkS B b8 b9 a b=B b:=by
 unfold lkS
 rw[St.set_other _ _ (nef h9 hb).1,St.set_other _ _ (nef h8 hb).1]
theorem lkS_8 {B:St}{b8 b9:Nat}(h89:¬ b8=b9)(a:Option (Nat×Mth)):lkS B b8 b9 a b8=.obj 3 [lkN a]:=by unfold lkS;rw[St.set_other _ _ h89,St.set_same]
theorem lkS_9 {B:St}{b8 b9:Nat}(a:Option (Nat×Mth)):lkS B b8 b9 a b9=.obj 152 [lkP a]:=St.set_same _ _ _
theorem lkS_put {B:St}{b8 b9:Nat}(h89:¬ b8=b9)(a a':Option (Nat×Mth)):((lkS B b8 b9 a).set b8 (.obj 3 [lkN a'])).set b9 (.obj 152 [lkP a'])=lkS B b8 b9 a':=by
 unfold lkS
 rw[set_comm' (x:=b9) (y:=b8) (fun e=>h89 e.symm),St.set_set,St.set_set]
set_option maxHeartbeats 4000000 in
theorem Clk1_S (B:St)(p bm b4 b6 b7 b8 b9:Nat)(x:List Cls)(n:List UInt8)(st:Bool)(hS:SrcAt B p bm x)(h4:B b4=.obj 139 [.ptr p 0])(h6:B b6=.obj 9 [.str n])(h7:B b7=.obj 4 [.bool st])
  (h8:B b8=.free) (h9:B b9=.free) (h89:¬ b8=b9) (hx:x.length≤100000) (hl:∀c,c∈x→c.mths.length≤100000) (hst:∀i,i<x.length→startN x i≤100000) (a:Option (Nat×Mth)) (i:Nat) (hi:i<x.length) :
  SRet Tryz.prog 108 [.int .i64 i,.ptr b4 0,.ptr b6 0,.ptr b7 0,.ptr b8 0,.ptr b9 0] (lkS B b8 b9 a) (.bool (lkF x n st a i).2) (lkS B b8 b9 (lkF x n st a i).1):=by
 obtain⟨c,hc⟩:=uget hi
 have hcl:=hl c (List.mem_of_getElem? hc)
 have hst1:=hst i hi
 have hsl:=stL_at (x:=x) hi
 have hsll:=stL_len (x:=x) (i:=x.length)
 have hpf:B p≠.free:=by rw[hS.1];simp
 have hSp:=(lkS_get h8 h9 hpf a).trans hS.1
 have hS4:=(lkS_get h8 h9 (b:=b4) (by rw[h4];simp) a).trans h4
 have hS6:=(lkS_get h8 h9 (b:=b6) (by rw[h6];simp) a).trans h6
 have hS7:=(lkS_get h8 h9 (b:=b7) (by rw[h7];simp) a).trans h7
 have hS8:=lkS_8 (B:=B) h89 a
 have hS9:=lkS_9 (B:=B) (b8:=b8) (b9:=b9) a
 have w1:=Cown_S (lkS B b8 b9 a) p bm i x c n (hS.fg (lkS_fg h8 h9 a)) hc (by omega)
 have hput:=lkS_put (B:=B) h89 a
 have hne:¬ b9=b8:=fun e=>h89 e.symm
 have n48:¬ b4=b8:=(nef h8 (by rw[h4];simp)).1
 have n49:¬ b4=b9:=(nef h9 (by rw[h4];simp)).1
 have n8p:¬ p=b8:=(nef h8 hpf).1
 have n9p:¬ p=b9:=(nef h9 hpf).1
 generalize hF:lkF x n st a i=F
 unfold lkF hitN at hF
 simp only[hc]at hF
 unfold ownV at w1
 generalize hSe:lkS B b8 b9 a=S at *
 have HSE:=Lib.hid hSe
 have HPUT:=Lib.hid hput
 clear hSe hput
 clear hS h4 h6 h7 h8 h9 hl hst hc hpf
 cases ho:ownI c n with
 |none=>
  rw[ho]at w1 hF
  simp only at w1 hF
  subst hF
  cases a<;>simp only[lkN,lkP]at hS8 hS9
  all_goals
   refine G_enter Tryz.func108 rfl Tryz.ntmps108 rfl fun Q hQ hQe=>?_
   (repeat'(first|refine Ctl ?_|(with_reducible first|(refine Kof.use hK ?_;clear hK hE K E)|(refine Kof.use hKh ?_;clear hKh Kh)|refine G_plan 2 [] [0,1,2,3,4,5,6,7,8,9] hQe fun K E hK hE=>?_)|((with_reducible refine W_cond (fun h=>?_) (fun h=>?_))<;>(try(exfalso;assumption)))|(((with_reducible first|refine G_region fun K E hK hE=>?_|refine call_ret can106 (w1) ?_|refine P_fin fun Kh hKh=>?_))<;>(try simp(disch:=omega) only[go_sem,seval, *]))))
  all_goals(refine W_ret res108 hQ ?_)
  all_goals(refine⟨_,_,Wk.of_eq ?_,?_,rfl,rfl⟩)
  ·rfl
  ·simp only;rw[HSE.out];exact Fg.refl _
  ·rfl
  ·simp only;rw[HSE.out];exact Fg.refl _
 |some j=>
  obtain⟨m,hm,hmn⟩:=ownI_get ho
  have hjl:=(List.getElem?_eq_some_iff.1 hm).1
  rw[ho]at w1 hF
  simp only[hm]at w1 hF
  have hp2:=HPUT.out (some (startN x i+j,m))
  obtain⟨ms,mn,mp,mb⟩:=m
  simp only[mthC,strsV,stsV,lkN,lkP]at w1 hp2
  simp only at hF
  have HP2:=Lib.hid hp2
  clear hm ho hmn hp2
  cases ms<;>cases st
  all_goals
   first
    |rw[if_pos rfl]at hF
    |rw[if_neg (by decide)]at hF
   subst hF
   cases a<;>simp only[lkN,lkP]at hS8 hS9
  all_goals
   refine G_enter Tryz.func108 rfl Tryz.ntmps108 rfl fun Q hQ hQe=>?_
   (repeat'(first|refine Ctl ?_|(with_reducible first|(refine Kof.use hK ?_;clear hK hE K E)|(refine Kof.use hKh ?_;clear hKh Kh)|refine G_plan 2 [] [0,1,2,3,4,5,6,7,8,9] hQe fun K E hK hE=>?_)|((with_reducible refine W_cond (fun h=>?_) (fun h=>?_))<;>(try(exfalso;assumption)))|(((with_reducible first|refine G_region fun K E hK hE=>?_|refine call_ret can106 (w1) ?_|refine P_fin fun Kh hKh=>?_))<;>(try simp(disch:=omega) only[go_sem,seval,hsl,hsll, *]))))
  all_goals(refine W_ret res108 hQ ?_)
  all_goals(refine⟨_,_,Wk.of_eq ?_,?_,rfl,rfl⟩)
  all_goals first
   |rfl
   |(simp only;rw[HSE.out];exact Fg.refl _)
   |(rw[HP2.out];exact Fg.refl _)
   |(exfalso;revert h;decide)
   |trace_state
end Go.Proofs.YtgdbgfjhenobdaaGreatDoor
namespace Go.Proofs.YtgdbgfjhenobdaaGreatDoor
open Go.RowKit
theorem one_nil:VV.one (.raw (.pointer none))=true:=by first|rfl|decide
attribute [local go_sem] p_enil1 p_enil2 p_nilE one_nil
theorem Clkup_S (p bm:Nat)(x:List Cls)(cls n:List UInt8)(st:Bool)(hx:x.length≤100000)(hl:∀c,c∈x→c.mths.length≤100000)(hst:∀i,i<x.length→startN x i≤100000)
  (B:St) (b4 b6 b7 b8 b9:Nat) (hS1:B p=.obj 181 [.lst (x.map clsC) .no,.mp bm,.lst (stL x x.length) .no]) (hS2:B bm=.map (mpV encI (atA16 x))) (h4:B b4=.obj 139 [.ptr p 0]) (h6:B b6=.obj 9 [.str n]) (h7:B b7=.obj 4 [.bool st])
  (h8:B b8=.free) (h9:B b9=.free) (h89:¬ b8=b9) :
  SRet Tryz.prog 102 [.ptr p 0,.str cls,.fn 108 [.ptr b4 0,.ptr b6 0,.ptr b7 0,.ptr b8 0,.ptr b9 0]]
   ((B.set b8 (.obj 3 [.int .i64 0])).set b9 (.obj 152 [.raw (.pointer none)]))
   (.bool (upRun x (lkF x n st) (x.length+1) none cls).2) ((B.set b8 (.obj 3 [lkN (lookN x cls n st)])).set b9 (.obj 152 [lkP (lookN x cls n st)])):=by
 have hS:SrcAt B p bm x:=⟨hS1,hS2⟩
 have h:=Cup_S x p bm 108 [.ptr b4 0,.ptr b6 0,.ptr b7 0,.ptr b8 0,.ptr b9 0] (lkS B b8 b9) (lkF x n st) can108 (fun a=>hS.fg (lkS_fg h8 h9 a))
  (fun a i hi=>Clk1_S B p bm b4 b6 b7 b8 b9 x n st hS h4 h6 h7 h8 h9 h89 hx hl hst a i hi) hx none cls
 rw[upRun_first]at h
 exact h
set_option maxHeartbeats 4000000 in
theorem Clook_S (t:St)(p bm:Nat)(x:List Cls)(cls n:List UInt8)(st:Bool)(hS:SrcAt t p bm x)(hx:x.length≤100000)(hl:∀c,c∈x→c.mths.length≤100000)(hst:∀i,i<x.length→startN x i≤100000) :
  SRet Tryz.prog 66 [.ptr p 0,.str cls,.str n,.bool st] t (.tup [lkN (lookN x cls n st),lkP (lookN x cls n st)]) t:=by
 have w1:=Clkup_S p bm x cls n st hx hl hst
 obtain⟨h1,h2⟩:=hS
 have hpf:t p≠.free:=by rw[h1];simp
 have hbf:t bm≠.free:=by rw[h2];simp
 generalize (upRun x (lkF x n st) (x.length+1) none cls).2=ub at w1
 clear hl hst
 cases hr:lookN x cls n st with
 |none=>
  rw[hr]at w1
  simp only[lkN,lkP]at w1 ⊢
  clear hr
  refine G_enter Tryz.func66 rfl Tryz.ntmps66 rfl fun Q hQ hQe=>?_
  (repeat'(first|refine Ctl ?_|(with_reducible first|(refine Kof.use hK ?_;clear hK hE K E)|(refine Kof.use hKh ?_;clear hKh Kh)|(refine Kof.use hKb (P_next ?_);clear hKb Kb)|refine G_plan 2 [([0,1],2,[[1]]),([],3,[[],[]])] [] hQe fun K E hK hE=>?_)|((first|(with_reducible first|refine G_region fun K E hK hE=>?_|refine call_ret can102 (w1 _ _ _ _ _ _ z_sl z_sl z_sl z_sl z_sl z_sl z_sl (by assumption)) ?_|refine P_heads fun Kh hKh=>?_|refine P_fin fun Kh hKh=>?_|refine P_each fun Kb hKb=>?_)|((with_reducible refine W_fresh (fun b hb=>?_));(repeat(obtain⟨_,hb⟩:=hb));(try(obtain⟨_,_⟩:=nef hb hpf;obtain⟨_,_⟩:=nef hb hbf))))<;>(try simp(disch:=first|assumption|omega) only[go_sem,seval, *]))))
  all_goals(refine W_ret res66 hQ ?_)
  all_goals(refine⟨_,_,Wk.of_eq ?_,?_,rfl,rfl⟩)
  all_goals first|rfl|(exact z_fg)
 |some r=>
  rw[hr]at w1
  simp only[lkN,lkP]at w1 ⊢
  clear hr
  refine G_enter Tryz.func66 rfl Tryz.ntmps66 rfl fun Q hQ hQe=>?_
  (repeat'(first|refine Ctl ?_|(with_reducible first|(refine Kof.use hK ?_;clear hK hE K E)|(refine Kof.use hKh ?_;clear hKh Kh)|(refine Kof.use hKb (P_next ?_);clear hKb Kb)|refine G_plan 2 [([0,1],2,[[1]]),([],3,[[],[]])] [] hQe fun K E hK hE=>?_)|((first|(with_reducible first|refine G_region fun K E hK hE=>?_|refine call_ret can102 (w1 _ _ _ _ _ _ z_sl z_sl z_sl z_sl z_sl z_sl z_sl (by assumption)) ?_|refine P_heads fun Kh hKh=>?_|refine P_fin fun Kh hKh=>?_|refine P_each fun Kb hKb=>?_)|((with_reducible refine W_fresh (fun b hb=>?_));(repeat(obtain⟨_,hb⟩:=hb));(try(obtain⟨_,_⟩:=nef hb hpf;obtain⟨_,_⟩:=nef hb hbf))))<;>(try simp(disch:=first|assumption|omega) only[go_sem,seval, *]))))
  all_goals(refine W_ret res66 hQ ?_)
  all_goals(refine⟨_,_,Wk.of_eq ?_,?_,rfl,rfl⟩)
  all_goals first|rfl|(exact z_fg)
theorem ixT_at0 {k:List UInt8}:∀{l:List (List UInt8)} {i:Nat},(∀y,y∈l.take i→¬ y=k)→l[i]?=some k→ixT k l=some i
 |[],i,_,h=>by simp at h
 |x::l,0,_,h=>by simp at h;subst h;simp[ixT]
 |x::l,i+1,ha,h=>by
  have h1:¬ k=x:=fun e=>ha x (by simp) e.symm
  simp only[ixT]
  rw[if_neg h1,ixT_at0 (l:=l) (i:=i) (fun z hz=>ha z (by simp[hz])) (by simpa using h)]
  rfl
def ixZ (k:List UInt8)(l:List (List UInt8)):Int:=match ixT k l with|some i=>(i:Int)|none=>-1
theorem ixZ_in (k:List UInt8)(l:List (List UInt8)):decide (0≤ixZ k l)=l.any fun a=>decide (a=k):=by
 unfold ixZ
 cases h:ixT k l with
 |none=>
  rw[ixT_none]at h
  have:(l.any fun a=>decide (a=k))=false:=by
   rw[List.any_eq_false];intro a ha;simp;intro e;subst e;exact h ha
  rw[this];rfl
 |some i=>
  have h2:=List.mem_of_getElem? (ixT_lt h)
  have:(l.any fun a=>decide (a=k))=true:=List.any_eq_true.2 ⟨k,h2,by simp⟩
  rw[this]
  simp
set_option maxHeartbeats 2000000 in
theorem ixS_S (l:List (List UInt8))(o:Own)(n:List UInt8)(hn:l.length≤9223372036854775000)(s:St):SRet Tryz.prog 107 [.lst (l.map strC) o,.str n] s (.int .i64 (ixZ n l)) s:=by
 have hsl:(l.map strC).length=l.length:=by simp
 refine G_enter Tryz.func107 rfl Tryz.ntmps107 rfl fun Q hQ hQe=>?_
 (repeat'(first|refine Ctl ?_|((with_reducible refine Kof.use hK ?_);clear hK hE K E)|(((with_reducible refine G_region fun K E hK hE=>?_))<;>(try simp(disch:=omega) only[go_sem,seval,hsl, *]))))
 refine L_loop (fun m env s'=>∃(i:Nat),i≤l.length∧m+i=l.length∧(∀x,x∈l.take i→¬ x=n)∧s'=s∧env 0=.lst (l.map strC) o∧env 1=.str n∧env 7=.int .i64 l.length∧env 8=.int .i64 i) l.length
  ⟨0,by omega,by omega,by simp,rfl,z_sl,z_sl,z_sl,z_sl⟩ ?_
 rintro m env s' ⟨i,hi,hm,hall,rfl,e0,e1,e7,e8⟩
 by_cases hlt:i<l.length
 ·obtain⟨x,hx⟩:∃x,l[i]?=some x:=⟨_,List.getElem?_eq_getElem hlt⟩
  have hsx:(l.map strC)[i]?=some [.str x]:=by simp[strC,hx]
  have htake:l.take (i+1)=l.take i++[x]:=by rw[List.take_add_one,hx];rfl
  by_cases hnx:x=n
  ·subst hnx
   have hres:ixZ x l=i:=by unfold ixZ;rw[ixT_at0 hall hx]
   clear hall htake hx
   (repeat'(first|refine Ctl ?_|((with_reducible refine Kof.use hK ?_);clear hK hE K E)|((with_reducible refine W_cond (fun h=>?_) (fun h=>?_))<;>(try(exfalso;assumption)))|(((with_reducible refine G_region fun K E hK hE=>?_))<;>(try simp(disch:=omega) only[go_sem,seval,hsl,hsx, *]))))
   all_goals(refine W_ret res107 hQ ?_)
   all_goals(refine⟨_,_,Wk.of_eq ?_,?_,rfl,rfl⟩)
   all_goals first|(exact z_fg)|(rw[hres];done)
  ·have hall2:∀y,y∈l.take (i+1)→¬ y=n:=fun y hy=>by
    rw[htake]at hy
    rcases List.mem_append.1 hy with hy|hy
    ·exact hall y hy
    ·rw[List.mem_singleton]at hy;subst hy;exact hnx
   have hnx2:¬ n=x:=fun e=>hnx e.symm
   clear hall htake hx
   (repeat'(first|refine Ctl ?_|((with_reducible refine Kof.use hK ?_);clear hK hE K E)|((with_reducible refine W_cond (fun h=>?_) (fun h=>?_))<;>(try(exfalso;assumption)))|(((with_reducible refine G_region fun K E hK hE=>?_))<;>(try simp(disch:=omega) only[go_sem,seval,hsl,hsx, *]))))
   all_goals exact⟨m - 1,by omega,i+1,by omega,by omega,hall2,rfl,z_sl,z_sl,z_sl,z_sl⟩
 ·have hres:ixZ n l=-1:=by
   have:l.take i=l:=List.take_of_length_le (by omega)
   rw[this]at hall
   unfold ixZ
   rw[ixT_none.2 fun hm=>hall n hm rfl]
  clear hall
  (repeat'(first|refine Ctl ?_|((with_reducible refine Kof.use hK ?_);clear hK hE K E)|((with_reducible refine W_cond (fun h=>?_) (fun h=>?_))<;>(try(exfalso;assumption)))|(((with_reducible refine G_region fun K E hK hE=>?_))<;>(try simp(disch:=omega) only[go_sem,seval,hsl, *]))))
  all_goals(refine W_ret res107 hQ ?_)
  all_goals(refine⟨_,_,Wk.of_eq ?_,?_,rfl,rfl⟩)
  all_goals first|(exact z_fg)|(rw[hres];done)
theorem contS_S (l:List (List UInt8))(o:Own)(n:List UInt8)(hn:l.length≤9223372036854775000)(s:St):SRet Tryz.prog 139 [.lst (l.map strC) o,.str n] s (.bool (l.any fun a=>decide (a=n))) s:=by
 have h1:=ixS_S l o n hn
 have h2:=ixZ_in n l
 refine G_enter Tryz.func139 rfl Tryz.ntmps139 rfl fun Q hQ hQe=>?_
 (repeat'(first|refine Ctl ?_|((with_reducible refine Kof.use hK ?_);clear hK hE K E)|(((with_reducible first|refine G_region fun K E hK hE=>?_|refine call_ret can107 (h1 _) ?_))<;>(try simp(disch:=omega) only[go_sem,seval, *]))))
 all_goals(refine W_ret res139 hQ ?_)
 all_goals(refine⟨_,_,Wk.of_eq ?_,?_,rfl,rfl⟩)
 all_goals(exact z_fg)
end Go.Proofs.YtgdbgfjhenobdaaGreatDoor
namespace Go.Proofs.YtgdbgfjhenobdaaGreatDoor
open Go.RowKit
attribute [local go_sem] p_enil1 p_enil2 p_nilE one_nil
def callB (n:List UInt8)(many:Nat)(c:Cls):Bool:=match ownM c n with|none=>false|some m=>!m.stat && decide (m.pars.length=many)
theorem called_at {x:List Cls}{n:List UInt8}{many i:Nat}{c:Cls}(hc:x[i]?=some c)(h:callB n many c=true):calledB x n many=true:=List.any_eq_true.2 ⟨c,List.mem_of_getElem? hc,h⟩
theorem called_no {x:List Cls}{n:List UInt8}{many:Nat}(h:∀c,c∈x→callB n many c=false):calledB x n many=false:=by
 unfold calledB
 rw[List.any_eq_false]
 intro c hc
 have h2:=h c hc
 intro h3
 exact absurd (h2.symm.trans h3) (by decide)
theorem ownV_M {c:Cls}{n:List UInt8}:ownV c n=match ownM c n with|none=>.tup [.int .i64 0,.raw (.pointer none)]|some m=>.tup [.int .i64 ((ownI c n).getD 0:Nat),.eptr (mthC m)]:=by
 unfold ownV ownM
 cases ownI c n with
 |none=>rfl
 |some j=>simp only[Option.bind_some,Option.getD_some]<;>(try(cases c.mths[j]?<;>rfl))
set_option maxHeartbeats 4000000 in
theorem Ccalled_S (t:St)(p bm:Nat)(x:List Cls)(n:List UInt8)(many:Nat)(hS:SrcAt t p bm x)(hx:x.length≤100000)(hl:∀c,c∈x→c.mths.length≤100000) :
  SRet Tryz.prog 140 [.ptr p 0,.str n,.int .i64 many] t (.bool (calledB x n many)) t:=by
 have w0:=fun k c hk hcl=>Cown_S t p bm k x c n hS hk hcl
 obtain⟨h1,h2⟩:=hS
 have hpf:t p≠.free:=by rw[h1];simp
 have hlen:(x.map clsC).length=x.length:=by simp
 generalize hR:calledB x n many=R
 have HR:=Lib.hid hR
 clear hR h2
 refine G_enter Tryz.func140 rfl Tryz.ntmps140 rfl fun Q hQ hQe=>?_
 (repeat'(first|refine Ctl ?_|((with_reducible refine Kof.use hK ?_);clear hK hE K E)|(((with_reducible refine G_region fun K E hK hE=>?_))<;>(try simp(disch:=omega) only[go_sem,seval,hlen, *]))))
 refine L_loop (fun m env s'=>∃(i:Nat),i≤x.length∧m+i=x.length∧(∀c,c∈x.take i→callB n many c=false)∧s'=t∧env 0=.ptr p 0∧env 1=.str n∧env 2=.int .i64 many∧env 15=.int .i64 x.length∧env 16=.int .i64 i) x.length
  ⟨0,by omega,by omega,by simp,rfl,z_sl,z_sl,z_sl,z_sl,z_sl⟩ ?_
 rintro m env s' ⟨i,hi,hm,hall,rfl,e0,e1,e2,e15,e16⟩
 by_cases hlt:i<x.length
 ·obtain⟨c,hc⟩:=uget hlt
  have w1:=w0 i c hc (by have:=hl c (List.mem_of_getElem? hc);omega)
  have htake:x.take (i+1)=x.take i++[c]:=utake hc
  rw[ownV_M]at w1
  have hn2:callB n many c=false→∀y,y∈x.take (i+1)→callB n many y=false:=fun hcf y hy=>by
   rw[htake]at hy
   rcases List.mem_append.1 hy with hy|hy
   ·exact hall y hy
   ·rw[List.mem_singleton]at hy;subst hy;exact hcf
  have hy2:callB n many c=true→R=true:=fun hct=>by rw[← HR.out];exact called_at hc hct
  have hcb:callB n many c=match ownM c n with|none=>false|some m=>!m.stat && decide (m.pars.length=many):=rfl
  generalize callB n many c=cb at hn2 hy2 hcb
  clear hall htake hc w0 hl
  cases ho:ownM c n with
  |none=>
   rw[ho]at w1 hcb
   simp only at w1 hcb
   have HN:=hn2 hcb
   clear hn2 hy2 ho hcb
   (repeat'(first|refine Ctl ?_|((with_reducible refine Kof.use hK ?_);clear hK hE K E)|((with_reducible refine W_cond (fun h=>?_) (fun h=>?_))<;>(try(exfalso;assumption)))|(((with_reducible first|refine G_region fun K E hK hE=>?_|refine call_ret can106 (w1) ?_))<;>(try simp(disch:=omega) only[go_sem,seval,hlen, *]))))
   all_goals exact⟨m - 1,by omega,i+1,by omega,by omega,HN,rfl,z_sl,z_sl,z_sl,z_sl,z_sl⟩
  |some mt=>
   rw[ho]at w1 hcb
   simp only at w1 hcb
   have hpl:(mt.pars.map strC).length=mt.pars.length:=by simp
   have HN:=Lib.hid hn2
   have HY:=Lib.hid hy2
   have HC:=Lib.hid hcb
   clear hn2 hy2 ho hcb
   obtain⟨ms,mn,mp,mb⟩:=mt
   simp only[mthC,strsV,stsV]at w1 HC hpl
   cases ms
   ·(repeat'(first|refine Ctl ?_|((with_reducible refine Kof.use hK ?_);clear hK hE K E)|((with_reducible refine W_cond (fun h=>?_) (fun h=>?_))<;>(try(exfalso;assumption)))|(((with_reducible first|refine G_region fun K E hK hE=>?_|refine call_ret can106 (w1) ?_))<;>(try simp(disch:=omega) only[go_sem,seval,hlen,hpl, *]))))
    ·obtain rfl:=HY.out (by rw[HC.out];simp[of_eq_true h])
     all_goals(refine W_ret res140 hQ ?_)
     all_goals(refine⟨_,_,Wk.of_eq ?_,?_,rfl,rfl⟩)
     all_goals(exact z_fg)
    ·have HN:=HN.out (by rw[HC.out];simp[h])
     exact⟨m - 1,by omega,i+1,by omega,by omega,HN,rfl,z_sl,z_sl,z_sl,z_sl,z_sl⟩
   ·(repeat'(first|refine Ctl ?_|((with_reducible refine Kof.use hK ?_);clear hK hE K E)|((with_reducible refine W_cond (fun h=>?_) (fun h=>?_))<;>(try(exfalso;assumption)))|(((with_reducible first|refine G_region fun K E hK hE=>?_|refine call_ret can106 (w1) ?_))<;>(try simp(disch:=omega) only[go_sem,seval,hlen,hpl, *]))))
    all_goals
     have HN:=HN.out (by rw[HC.out];simp)
     exact⟨m - 1,by omega,i+1,by omega,by omega,HN,rfl,z_sl,z_sl,z_sl,z_sl,z_sl⟩
 ·have hR:R=false:=by
   rw[← HR.out]
   refine called_no fun c hc=>hall c ?_
   rw[List.take_of_length_le (by omega)];exact hc
  subst hR
  clear hall w0 hl HR
  (repeat'(first|refine Ctl ?_|((with_reducible refine Kof.use hK ?_);clear hK hE K E)|((with_reducible refine W_cond (fun h=>?_) (fun h=>?_))<;>(try(exfalso;assumption)))|(((with_reducible refine G_region fun K E hK hE=>?_))<;>(try simp(disch:=omega) only[go_sem,seval,hlen, *]))))
  all_goals(refine W_ret res140 hQ ?_)
  all_goals(refine⟨_,_,Wk.of_eq ?_,?_,rfl,rfl⟩)
  all_goals(exact z_fg)
end Go.Proofs.YtgdbgfjhenobdaaGreatDoor
namespace Go.Proofs.YtgdbgfjhenobdaaGreatDoor
open Go.RowKit
attribute [local go_sem] p_enil1 p_enil2 p_nilE one_nil
def fitF (x:List Cls)(m:Mth)(a:Bool)(k:Nat):Bool×Bool:=(a && fitB x m k,true)
theorem upRun_fit {x:List Cls}{m:Mth}:∀(f:Nat) (a:Bool) (n:List UInt8),(upRun x (fitF x m) f a n).1=(a && (chainN x f n).1.all (fitB x m))
 |0,a,_=>by simp[upRun,chainN]
 |f+1,a,n=>by
  simp only[upRun,chainN]
  by_cases h0:n=[]
  ·rw[if_pos h0,if_pos h0];simp
  ·rw[if_neg h0,if_neg h0]
   cases ha:atC x n with
   |none=>simp
   |some k=>simp only[fitF,if_true,List.all_cons];rw[upRun_fit f];simp[Bool.and_assoc]
set_option maxHeartbeats 4000000 in
theorem Chd1_S (B:St)(p bm b3 b8 b13:Nat)(x:List Cls)(m:Mth)(hS:SrcAt B p bm x)(h3:B b3=.obj 139 [.ptr p 0])(h8:B b8=.obj 93 (mthC m))(h13:B b13=.free)
  (hx:x.length≤100000) (hl:∀c,c∈x→c.mths.length≤100000) (a:Bool) (k:Nat) (hk:k<x.length) :
  SRet Tryz.prog 137 [.int .i64 k,.ptr b3 0,.ptr b8 0,.ptr b13 0] (B.set b13 (.obj 4 [.bool a])) (.bool (fitF x m a k).2) (B.set b13 (.obj 4 [.bool (fitF x m a k).1])):=by
 obtain⟨c,hc⟩:=uget hk
 have w1:=Cown_S (B.set b13 (.obj 4 [.bool a])) p bm k x c m.nm (hS.fg (Fg.of_set _ h13)) hc (by have:=hl c (List.mem_of_getElem? hc);omega)
 have n3:¬ b3=b13:=(nef h13 (by rw[h3];simp)).1
 have n8:¬ b8=b13:=(nef h13 (by rw[h8];simp)).1
 have hml:(m.pars.map strC).length=m.pars.length:=by simp
 rw[ownV_M]at w1
 unfold fitF fitB
 simp only[hc]
 clear hS hl hc
 cases ho:ownM c m.nm with
 |none=>
  rw[ho]at w1
  simp only[Bool.and_true]at w1 ⊢
  clear ho
  obtain⟨ms,mn,mp,mb⟩:=m
  simp only[mthC,strsV,stsV]at h8 w1
  refine G_enter Tryz.func137 rfl Tryz.ntmps137 rfl fun Q hQ hQe=>?_
  (repeat'(first|refine Ctl ?_|((with_reducible refine Kof.use hK ?_);clear hK hE K E)|((with_reducible refine W_cond (fun h=>?_) (fun h=>?_))<;>(try(exfalso;assumption)))|(((with_reducible first|refine G_region fun K E hK hE=>?_|refine call_ret can106 (w1) ?_))<;>(try simp(disch:=omega) only[go_sem,seval, *]))))
  all_goals(refine W_ret res137 hQ ?_)
  all_goals(refine⟨_,_,Wk.of_eq ?_,?_,rfl,rfl⟩)
  all_goals first|rfl|(exact z_fg)
 |some y=>
  rw[ho]at w1
  simp only at w1 ⊢
  clear ho
  have hyl:(y.pars.map strC).length=y.pars.length:=by simp
  obtain⟨ms,mn,mp,mb⟩:=m
  obtain⟨ys,yn,yp,yb⟩:=y
  simp only[mthC,strsV,stsV]at h8 w1 hml hyl ⊢
  cases a<;>cases ms<;>cases ys
  all_goals
   refine G_enter Tryz.func137 rfl Tryz.ntmps137 rfl fun Q hQ hQe=>?_
   (repeat'(first|refine Ctl ?_|(with_reducible first|(refine Kof.use hK ?_;clear hK hE K E)|(refine Kof.use hKh ?_;clear hKh Kh)|(refine Kof.use hKb (P_next ?_);clear hKb Kb)|refine G_plan 3 [([0,1,2,3,4,5,6,7,8,9,10,11,12,13,14,15,16,17,18,19,20],21,[[]])] [] hQe fun K E hK hE=>?_)|((with_reducible refine W_cond (fun h=>?_) (fun h=>?_))<;>(try(exfalso;assumption)))|((first|(with_reducible first|refine G_region fun K E hK hE=>?_|refine call_ret can106 (w1) ?_|refine P_heads fun Kh hKh=>?_|refine P_fin fun Kh hKh=>?_|refine P_each fun Kb hKb=>?_)|((with_reducible refine W_gd (fun h=>?_) (fun h=>?_))<;>(try(exfalso;assumption))))<;>(try simp(disch:=omega) only[go_sem,seval,hml,hyl,beq_self_eq_true,if_true, *]))))
  all_goals(refine W_ret res137 hQ ?_)
  all_goals(refine⟨_,_,Wk.of_eq ?_,?_,rfl,rfl⟩)
  all_goals first|rfl|(exact z_fg)
end Go.Proofs.YtgdbgfjhenobdaaGreatDoor
namespace Go.Proofs.YtgdbgfjhenobdaaGreatDoor
open Go.RowKit
attribute [local go_sem] p_enil1 p_enil2 p_nilE one_nil
theorem Chdup_S (p bm:Nat)(x:List Cls)(m:Mth)(n:List UInt8)(hx:x.length≤100000)(hl:∀c,c∈x→c.mths.length≤100000)(B:St)(b3 b8 b13:Nat)
  (hS1:B p=.obj 181 [.lst (x.map clsC) .no,.mp bm,.lst (stL x x.length) .no]) (hS2:B bm=.map (mpV encI (atA16 x))) (h3:B b3=.obj 139 [.ptr p 0]) (h8:B b8=.obj 93 (mthC m)) (h13:B b13=.free) :
  SRet Tryz.prog 102 [.ptr p 0,.str n,.fn 137 [.ptr b3 0,.ptr b8 0,.ptr b13 0]] (B.set b13 (.obj 4 [.bool true]))
   (.bool (upRun x (fitF x m) (x.length+1) true n).2) (B.set b13 (.obj 4 [.bool ((upN x n).1.all (fitB x m))])):=by
 have hS:SrcAt B p bm x:=⟨hS1,hS2⟩
 have h:=Cup_S x p bm 137 [.ptr b3 0,.ptr b8 0,.ptr b13 0] (fun a=>B.set b13 (.obj 4 [.bool a])) (fitF x m) can137 (fun a=>hS.fg (Fg.of_set _ h13))
  (fun a i hi=>Chd1_S B p bm b3 b8 b13 x m hS h3 h8 h13 hx hl a i hi) hx true n
 simp only[upRun_fit,Bool.true_and]at h
 exact h
theorem parsB_no {ps:List (List UInt8)}{i:Nat}{q:List UInt8}(h:ps[i]?=some q)(hb:q=selfT∨¬ ixT q ps=some i):parsB ps=false:=by
 unfold parsB
 rw[List.all_eq_false]
 refine⟨i,List.mem_range.2 (List.getElem?_eq_some_iff.1 h).1,?_⟩
 rw[h]
 rcases hb with hb|hb<;>simp[hb]
theorem parsB_yes {ps:List (List UInt8)}(h:∀i q,ps[i]?=some q→¬ q=selfT∧ixT q ps=some i):parsB ps=true:=by
 unfold parsB
 rw[List.all_eq_true]
 intro i _
 cases hp:ps[i]? with
 |none=>rfl
 |some q=>have:=h i q hp;simp[this.1,this.2]
set_option maxHeartbeats 8000000 in
theorem Chead_S (t:St)(p bm k j:Nat)(x:List Cls)(c:Cls)(m:Mth)(hS:SrcAt t p bm x)(hk:x[k]?=some c)(hj:c.mths[j]?=some m)(hx:x.length≤100000)(hl:∀c,c∈x→c.mths.length≤100000)(hmp:m.pars.length≤100000) :
  SRet Tryz.prog 104 [.ptr p 0,.int .i64 k,.int .i64 j] t (.bool (hdOk x c j m)) t:=by
 have w0:=fun s h1 h2=>Cown_S s p bm k x c m.nm ⟨h1,h2⟩ hk (by have:=hl c (List.mem_of_getElem? hk);omega)
 have w2:=Chdup_S p bm x m c.par hx hl
 obtain⟨j1,hj1⟩:∃j1,ownI c m.nm=some j1:=by
  cases hh:ownI c m.nm with
  |some a=>exact⟨a,rfl⟩
  |none=>exact absurd (List.mem_map.2 ⟨m,List.mem_of_getElem? hj,rfl⟩) (ixT_none.1 hh)
 obtain⟨m1,hm1,_⟩:=ownI_get hj1
 obtain⟨h1,h2⟩:=hS
 have hpf:t p≠.free:=by rw[h1];simp
 have hbf:t bm≠.free:=by rw[h2];simp
 have hlen:(x.map clsC).length=x.length:=by simp
 have hsx:=clsC_at hk
 have hmm:=mthC_at16 hj
 have hm4:(mthC m).length=4:=rfl
 have hml:(c.mths.map mthC).length=c.mths.length:=by simp
 have hpl:(m.pars.map strC).length=m.pars.length:=by simp
 have hjl:=(List.getElem?_eq_some_iff.1 hj).1
 have hkl:=(List.getElem?_eq_some_iff.1 hk).1
 have hcl:=hl c (List.mem_of_getElem? hk)
 unfold ownV at w0
 simp only[hj1,hm1]at w0
 generalize (upRun x (fitF x m) (x.length+1) true c.par).2=ub at w2
 have hF1:¬ j1=j→hdOk x c j m=false:=fun h=>by unfold hdOk;rw[hj1];simp[h]
 have hF2:j1=j→hdOk x c j m=(parsB m.pars && (upN x c.par).1.all (fitB x m)):=fun h=>by unfold hdOk;rw[hj1];simp[h]
 generalize (upN x c.par).1.all (fitB x m)=fa at w2 hF2
 generalize hdOk x c j m=R at hF1 hF2 ⊢
 have HF1:=Lib.hid hF1
 have HF2:=Lib.hid hF2
 generalize mthC m1=mc1 at w0
 clear hF1 hF2 hj1 hm1 hk hj hl
 obtain⟨cn,cp,cm⟩:=c
 obtain⟨ms,mn,mp,mb⟩:=m
 simp only[mthC,strsV,stsV]at w0 w2 hmm hm4 hml hpl hjl hmp HF2 hcl
 refine G_enter Tryz.func104 rfl Tryz.ntmps104 rfl fun Q hQ hQe=>?_
 (repeat'(first|refine Ctl ?_|((with_reducible refine Kof.use hK ?_);clear hK hE K E)|((with_reducible refine W_cond (fun h=>?_) (fun h=>?_)))|((first|(with_reducible first|refine G_region fun K E hK hE=>?_|refine call_ret can106 (w0 _ z_sl z_sl) ?_)|((with_reducible refine W_fresh (fun b hb=>?_));(repeat(obtain⟨_,hb⟩:=hb));(try(obtain⟨_,_⟩:=nef hb hpf;obtain⟨_,_⟩:=nef hb hbf))))<;>(try simp(disch:=omega) only[go_sem,seval,hlen,hsx,clsC,hmm,hml,hm4,hpl, *]))))
 ·obtain rfl:=HF1.out h
  all_goals(refine W_ret res104 hQ ?_)
  all_goals(refine⟨_,_,Wk.of_eq ?_,?_,rfl,rfl⟩)
  all_goals first|rfl|(exact z_fg)
 have hR0:=HF2.out (of_eq_true h)
 clear HF1 HF2 w0 hmm hm4 hml hsx hlen h
 refine L_loop (fun m env s'=>∃(i b3 b7 b8:Nat),env 3=.ptr b3 0∧env 7=.ptr b7 0∧env 8=.ptr b8 0∧i≤mp.length∧m+i=mp.length∧(∀a q,a<i→mp[a]?=some q→¬ q=selfT∧ixT q mp=some a)
   ∧ s' p=.obj 181 [.lst (x.map clsC) .no,.mp bm,.lst (stL x x.length) .no]∧s' bm=.map (mpV encI (atA16 x))∧s' b3=.obj 139 [.ptr p 0]
   ∧ s' b7=.obj 85 [.str cn,.str cp,.lst (cm.map mthC) .no]∧s' b8=.obj 93 [.bool ms,.str mn,.lst (mp.map strC) .no,.lst (stsC mb) .no]∧Fg s' t
   ∧ env 39=.lst (mp.map strC) .no∧env 40=.int .i64 mp.length∧env 41=.int .i64 i) mp.length
  ⟨0,_,_,_,rfl,rfl,rfl,by omega,by omega,fun a q h=>absurd h (Nat.not_lt_zero _),z_sl,z_sl,z_sl,z_sl,z_sl,z_fg,z_sl,z_sl,z_sl⟩ ?_
 rintro m env s' ⟨i,b3,b7,b8,e3,e7,e8,hi,hm,hall,k1,k2,k3,k7,k8,hFg,e39,e40,e41⟩
 have hpf:s' p≠.free:=by rw[k1];simp
 have hbf:s' bm≠.free:=by rw[k2];simp
 have h3f:s' b3≠.free:=by rw[k3];simp
 have h7f:s' b7≠.free:=by rw[k7];simp
 have h8f:s' b8≠.free:=by rw[k8];simp
 clear h1 h2
 by_cases hlt:i<mp.length
 ·obtain⟨q,hq⟩:=uget hlt
  have hqx:(mp.map strC)[i]?=some [.str q]:=by simp[strC,hq]
  obtain⟨r,hr⟩:∃r,ixT q mp=some r:=by
   cases hh:ixT q mp with
   |some a=>exact⟨a,rfl⟩
   |none=>exact absurd (List.mem_of_getElem? hq) (ixT_none.1 hh)
  have w3:=ixS_S mp .no q (by omega) s'
  have hz:ixZ q mp=r:=by unfold ixZ;rw[hr]
  rw[hz]at w3
  clear w2 hz
  by_cases hqs:q=selfT
  ·have hR:=parsB_no hq (.inl hqs)
   rw[hR,Bool.false_and]at hR0
   subst hR0
   clear hall hR hq hr
   subst hqs
   unfold selfT at *
   (repeat'(first|refine Ctl ?_|((with_reducible refine Kof.use hK ?_);clear hK hE K E)|((with_reducible refine W_cond (fun h=>?_) (fun h=>?_))<;>(try(exfalso;assumption)))|(((with_reducible refine G_region fun K E hK hE=>?_))<;>(try simp(disch:=omega) only[go_sem,seval,hqx,hpl, *]))))
   all_goals(refine W_ret res104 hQ ?_)
   all_goals exact⟨_,_,Wk.refl _,hFg,rfl,rfl⟩
  ·have hqf:(q=selfT)=False:=eq_false hqs
   by_cases hri:r=i
   ·subst hri
    have hall2:∀a q,a<r+1→mp[a]?=some q→¬ q=selfT∧ixT q mp=some a:=fun a q' ha hg=>by
     by_cases e:a=r
     ·subst e;rw[hq]at hg;injection hg with hg;subst hg;exact⟨hqs,hr⟩
     ·exact hall a q' (by omega) hg
    have HR0:=Lib.hid hR0
    clear hall hq hr hqs hR0
    unfold selfT at hqf
    (repeat'(first|refine Ctl ?_|((with_reducible refine Kof.use hK ?_);clear hK hE K E)|((with_reducible refine W_cond (fun h=>?_) (fun h=>?_))<;>(try(exfalso;assumption)))|(((with_reducible first|refine G_region fun K E hK hE=>?_|refine call_ret can107 (w3) ?_))<;>(try simp(disch:=omega) only[go_sem,seval,hqx,hpl, *]))))
    all_goals exact⟨m - 1,by omega,r+1,b3,b7,b8,z_sl,z_sl,z_sl,by omega,by omega,hall2,k1,k2,k3,k7,k8,hFg,z_sl,z_sl,z_sl⟩
   ·have hR:=parsB_no hq (.inr (by rw[hr];simp;exact hri))
    have hrif:((r:Int)=(i:Int))=False:=eq_false (by omega)
    rw[hR,Bool.false_and]at hR0
    subst hR0
    clear hall hR hq hr hqs
    unfold selfT at hqf
    (repeat'(first|refine Ctl ?_|((with_reducible refine Kof.use hK ?_);clear hK hE K E)|((with_reducible refine W_cond (fun h=>?_) (fun h=>?_))<;>(try(exfalso;assumption)))|(((with_reducible first|refine G_region fun K E hK hE=>?_|refine call_ret can107 (w3) ?_))<;>(try simp(disch:=omega) only[go_sem,seval,hqx,hpl, *]))))
    all_goals(refine W_ret res104 hQ ?_)
    all_goals exact⟨_,_,Wk.refl _,hFg,rfl,rfl⟩
 ·have hR:parsB mp=true:=parsB_yes fun a q hg=>hall a q (by have:=(List.getElem?_eq_some_iff.1 hg).1;omega) hg
  rw[hR,Bool.true_and]at hR0
  subst hR0
  clear hall hR
  (repeat'(first|refine Ctl ?_|((with_reducible refine Kof.use hK ?_);clear hK hE K E)|((with_reducible refine W_cond (fun h=>?_) (fun h=>?_))<;>(try(exfalso;assumption)))|((first|(with_reducible first|refine G_region fun K E hK hE=>?_|refine call_ret can102 (w2 _ _ _ _ z_sl z_sl z_sl z_sl z_sl) ?_)|((with_reducible refine W_fresh (fun b hb=>?_));(try(obtain⟨_,_⟩:=nef hb hpf;obtain⟨_,_⟩:=nef hb hbf;obtain⟨_,_⟩:=nef hb h3f;obtain⟨_,_⟩:=nef hb h7f;obtain⟨_,_⟩:=nef hb h8f))))<;>(try simp(disch:=omega) only[go_sem,seval,hpl, *]))))
  all_goals(refine W_ret res104 hQ ?_)
  all_goals exact⟨_,_,Wk.refl _,Fg.setA hFg (hFg.free hb),rfl,rfl⟩
end Go.Proofs.YtgdbgfjhenobdaaGreatDoor
namespace Go.Proofs.YtgdbgfjhenobdaaGreatDoor
open Go.RowKit
structure EachOk {A:Type} (g:FuncId) (caps:List VV) (Base:St→Prop) (S:A→St→St) (f:A→Stm→A) (good:Stm→Prop) (I:Nat→A→Prop):Prop where
 ext:∀t a b c,Base t→S a t b=.free→Base (t.set b c)
 com:∀t a b c,Base t→S a t b=.free→S a (t.set b c)=(S a t).set b c
 fr:∀t a a' b,Base t→S a t b=.free→S a' t b=.free
 dec:∀a x k,good x→I (k+1) a→I k (f a x)
 low:∀a k,I (k+1) a→I k a
 run:∀t a x k,Base t→good x→I (k+1) a→SRet Tryz.prog g (.agg (stC x)::caps) (S a t) (.tup []) (S (f a x) t)
mutual
def szS:Stm→Nat
 |.mk _ _ _ _ _ _ o t=>1+szL o+szL t
def szL:List Stm→Nat
 |[]=>0
 |x::l=>szS x+szL l
end
def subs:Stm→List Stm×List Stm
 |.mk _ _ _ _ _ _ o t=>(o,t)
theorem szL_at {x:Stm}:∀{l:List Stm},x∈l→szS x≤szL l
 |[],h=>by cases h
 |y::l,h=>by
  simp only[szL]
  rcases List.mem_cons.1 h with e|e
  ·subst e;omega
  ·have:=szL_at e;omega
structure LOk (good:Stm→Prop) (l:List Stm):Prop where
 len:l.length≤100000
 all:∀x,x∈preL l→good x∧(subs x).1.length≤100000∧(subs x).2.length≤100000
theorem preL_drop {l:List Stm}{i:Nat}{x:Stm}(h:l[i]?=some x):preL (l.drop i)=preS x++preL (l.drop (i+1)):=by
 have hlt:=(List.getElem?_eq_some_iff.1 h).1
 have hx:l[i]=x:=by rw[List.getElem?_eq_getElem hlt]at h;injection h
 rw[List.drop_eq_getElem_cons hlt,hx]
 rfl
theorem preS_mem {x:Stm}:∀{l:List Stm},x∈l→∀y,y∈preS x→y∈preL l
 |[],h,_,_=>by cases h
 |z::l,h,y,hy=>by
  simp only[preL,List.mem_append]
  rcases List.mem_cons.1 h with e|e
  ·subst e;exact .inl hy
  ·exact .inr (preS_mem e y hy)
section
variable {A : Type} {g : FuncId} {caps : List VV} {Base : St → Prop} {S : A → St → St} {f : A → Stm → A} {good : Stm → Prop} {I : Nat → A → Prop}
theorem EachOk.lows (h:EachOk g caps Base S f good I){a:A}{k:Nat}:∀(j:Nat),I (k+j) a→I k a
 |0,hi=>hi
 |j+1,hi=>h.lows j (h.low a (k+j) hi)
theorem EachOk.decs (h:EachOk g caps Base S f good I){k:Nat}:∀(l:List Stm) (a:A),(∀x,x∈l→good x)→I (k+l.length) a→I k (l.foldl f a)
 |[],a,_,hi=>hi
 |x::l,a,hg,hi=>h.decs l (f a x) (fun y hy=>hg y (by simp[hy])) (h.dec a x (k+l.length) (hg x (by simp)) hi)
end
set_option maxHeartbeats 4000000 in
theorem Ceach_S {A:Type}(g:FuncId)(caps:List VV)(Base:St→Prop)(S:A→St→St)(f:A→Stm→A)(good:Stm→Prop)(I:Nat→A→Prop)(canG:Callable Tryz.prog g)(hE:EachOk g caps Base S f good I) :
  ∀(n:Nat) (l:List Stm),szL l<n→LOk good l→∀(t:St) (a:A),Base t→I (preL l).length a→SRet Tryz.prog 62 [.lst (stsC l) .no,.fn g caps] (S a t) (.tup []) (S ((preL l).foldl f a) t):=by
 intro n
 induction n with
 |zero=>intro l hl;omega
 |succ n ih=>
  intro l hl hok t a hB hI
  have hlen:(stsC l).length=l.length:=stsC_len l
  have hll:=hok.len
  generalize hR:S ((preL l).foldl f a) t=R
  have HR:=Lib.hid hR
  clear hR
  generalize hs0:S a t=s0
  have HS0:=Lib.hid hs0
  clear hs0
  refine G_enter Tryz.func62 rfl Tryz.ntmps62 rfl fun Q hQ hQe=>?_
  (repeat'(first|refine Ctl ?_|((with_reducible refine Kof.use hK ?_);clear hK hE K E)|(((with_reducible refine G_region fun K E hK hE=>?_))<;>(try simp(disch:=omega) only[go_sem,seval,hlen, *]))))
  refine G_loop (fun m env s'=>∃(i:Nat) (a:A),i≤l.length∧m+i=l.length∧I (preL (l.drop i)).length a∧Hid (S a t=s')∧Hid (S ((preL (l.drop i)).foldl f a) t=R)∧env 1=.fn g caps∧env 6=.lst (stsC l) .no∧env 7=.int .i64 l.length∧env 8=.int .i64 i) l.length ?_ ?_
  ·exact⟨_,Fg.refl _,0,a,by omega,by omega,hI,HS0,HR,z_sl,z_sl,z_sl,z_sl⟩
  clear HR HS0
  clear hI
  rintro m env s' ⟨i,a,hi,hm,hI,HS,HR,e1,e6,e7,e8⟩
  by_cases hlt:i<l.length
  ·obtain⟨x,hx⟩:=uget hlt
   have hsx:=stsC_at hx
   have hxm:=List.mem_of_getElem? hx
   have hsz:=szL_at hxm
   have hr:=HR.out
   rw[preL_drop hx,List.foldl_append]at hr
   rw[preL_drop hx,List.length_append]at hI
   have hok2:=fun y hy=>hok.all y (preS_mem hxm y hy)
   have hs:=HS.out
   obtain⟨k,d,sr,cn,nm,ar,o,t2⟩:=x
   simp only[preS,List.foldl_cons,List.foldl_append]at hr
   simp only[szS]at hsz
   simp only[preS,List.length_cons,List.length_append]at hI
   have hx0:=hok2 _ (by simp only[preS];exact List.mem_cons_self)
   have hlo:LOk good o:=⟨hx0.2.1,fun y hy=>hok2 y (by simp only[preS,List.mem_cons,List.mem_append];exact .inr (.inl hy))⟩
   have hlt2:LOk good t2:=⟨hx0.2.2,fun y hy=>hok2 y (by simp only[preS,List.mem_cons,List.mem_append];exact .inr (.inr hy))⟩
   have w1:∀b,s' b=.free→SRet Tryz.prog g (.agg (stC (.mk k d sr cn nm ar o t2))::caps) (s'.set b (.obj 149 (stC (.mk k d sr cn nm ar o t2)))) (.tup []) ((S (f a (.mk k d sr cn nm ar o t2)) t).set b (.obj 149 (stC (.mk k d sr cn nm ar o t2)))):=fun b hb=>by
    rw[← hs]at hb ⊢
    rw[← hE.com t _ b _ hB hb,← hE.com t (f a _) b _ hB (hE.fr t _ _ b hB hb)]
    exact hE.run _ a _ _ (hE.ext t a b _ hB hb) hx0.1 (show I ((preL o).length+(preL t2).length+(preL (l.drop (i+1))).length+1) a by rw[show (preL o).length+(preL t2).length+(preL (l.drop (i+1))).length+1=(preL o).length+(preL t2).length+1+(preL (l.drop (i+1))).length by omega];exact hI)
   have hI1:I ((preL o).length+(preL t2).length+(preL (l.drop (i+1))).length) (f a (.mk k d sr cn nm ar o t2)):=hE.dec a _ _ hx0.1 (by rw[show (preL o).length+(preL t2).length+(preL (l.drop (i+1))).length+1=(preL o).length+(preL t2).length+1+(preL (l.drop (i+1))).length by omega];exact hI)
   generalize hA1:f a (.mk k d sr cn nm ar o t2)=a1 at w1 hr hI1
   have wn:∀(q:List Stm) (c:A),szL q<n→LOk good q→I (preL q).length c→∀b z,s' b=.free→SRet Tryz.prog 62 [.lst (stsC q) .no,.fn g caps] ((S c t).set b z) (.tup []) ((S ((preL q).foldl f c) t).set b z):=fun q c hq hqo hqi b z hb=>by
    rw[← hs]at hb
    rw[← hE.com t _ b _ hB (hE.fr t _ _ b hB hb),← hE.com t _ b _ hB (hE.fr t _ _ b hB hb)]
    exact ih q hq hqo _ _ (hE.ext t a b _ hB hb) hqi
   have w2:=wn o a1 (by omega) hlo (hE.lows ((preL t2).length+(preL (l.drop (i+1))).length) (by rw[← Nat.add_assoc];exact hI1))
   have hI2:I ((preL t2).length+(preL (l.drop (i+1))).length) ((preL o).foldl f a1):=hE.decs (preL o) a1 (fun y hy=>(hlo.all y hy).1) (by rw[show (preL t2).length+(preL (l.drop (i+1))).length+(preL o).length=(preL o).length+(preL t2).length+(preL (l.drop (i+1))).length by omega];exact hI1)
   generalize hA2:(preL o).foldl f a1=a2 at w2 hr hI2
   have w3:=wn t2 a2 (by omega) hlt2 (hE.lows (preL (l.drop (i+1))).length hI2)
   have hI3:I (preL (l.drop (i+1))).length ((preL t2).foldl f a2):=hE.decs (preL t2) a2 (fun y hy=>(hlt2.all y hy).1) (by rw[Nat.add_comm];exact hI2)
   generalize hA3:(preL t2).foldl f a2=a3 at w3 hr hI3
   have f3:∀b,s' b=.free→S a3 t b=.free:=fun b hb=>by rw[← hs]at hb;exact hE.fr t _ _ b hB hb
   generalize hS1:S a1 t=s1 at w1 w2
   generalize hS2:S a2 t=s2 at w2 w3
   generalize hS3:S a3 t=s3 at w3 f3
   have HS3:=Lib.hid hS3
   have HR3:=Lib.hid hr
   simp only[stC,strsV]at w1 hsx
   clear hI hI1 hI2 HR HS hok hok2 hr hs hx0 hlo hlt2 wn hA1 hA2 hA3 hS1 hS2 hS3 hx hxm hsz
   (repeat'(first|refine Ctl ?_|((with_reducible refine Kof.use hK ?_);clear hK hE K E)|((with_reducible refine W_cond (fun h=>?_) (fun h=>?_))<;>(try(exfalso;assumption)))|((first|(with_reducible first|refine G_region fun K E hK hE=>?_|refine call_ret canG (w1 _ (by assumption)) ?_|refine call_ret can62 (w2 _ _ (by assumption)) ?_|refine call_ret can62 (w3 _ _ (by assumption)) ?_)|((with_reducible refine W_fresh (fun b hb=>?_))))<;>(try simp(disch:=omega) only[go_sem,seval,hlen,hsx, *]))))
   exact⟨s3,Fg.of_set _ (f3 _ hb),m - 1,by omega,i+1,a3,by omega,by omega,hI3,HS3,HR3,z_sl,z_sl,z_sl,z_sl⟩
  ·have hr:=HR.out
   rw[List.drop_of_length_le (by omega)]at hr
   obtain rfl:s'=R:=HS.out.symm.trans hr
   clear hr HR HS
   (repeat'(first|refine Ctl ?_|((with_reducible refine Kof.use hK ?_);clear hK hE K E)|((with_reducible refine W_cond (fun h=>?_) (fun h=>?_))<;>(try(exfalso;assumption)))|(((with_reducible refine G_region fun K E hK hE=>?_))<;>(try simp(disch:=omega) only[go_sem,seval,hlen, *]))))
   all_goals(refine W_norm res62 hQ ?_)
   all_goals(refine⟨_,_,Wk.of_eq ?_,?_,rfl,rfl⟩)
   all_goals first|rfl|(exact z_fg)
attribute [local go_sem] p_enil1 p_enil2 p_nilE one_nil
theorem W_appF {s:St}{k:VV→St→Prop}{e:TypeId}{q:QI}{xs ys:List (List VV)}{p':Nat→Prop}(h1:k (.lst (xs++ys) .full) s)(h2:∀b,p' b→k (.lst (xs++ys) (.at_ b)) (s.set b (.vec e q.sz (xs.length+ys.length))))
  (hb:(xs.length+ys.length) * q.bt≤140737488355328:=by((try simp only[go_sem, *]);omega))
  (hm:xs.length+ys.length≤9223372036854775807:=by((try simp only[go_sem, *]);omega))
  (hx:∀y,y∈xs→y.length=q.sz:=by(intro y hy;simp only[List.mem_cons,List.not_mem_nil,or_false]at hy;rcases hy with rfl|rfl<;>simp))
  (hy:∀y,y∈ys→y.length=q.sz:=by first|assumption|(intro y hy;obtain⟨z,_,rfl⟩:=List.mem_map.1 hy;simp[strC]))
  (hz:q.zok=true:=by rfl)
  (hp:∀b,(s b=.free)=p' b:=by(intro b;(try simp(disch:=first|assumption|omega) only[go_sem,seval, *]);(try simp only[set_free_o,set_free_v,set_free_m,ite_free_o,ite_free_v,ite_free_m,set_free_p,ite_free_p]);rfl)) :
  vappend k e q xs ys .full s:=by
 refine⟨hb,hm,hy,hz,hx,fun h=>?_,fun _ b hf=>h2 b (hp b ▸ hf)⟩
 subst h
 rw[List.append_nil]at h1
 exact h1
def swR (x:List Cls):Stm→Bool
 |.mk k _ _ c n ar _ _=>if k=1 then(atC x n).isSome else if k=6 then(match lookN x c n true with|none=>false|some y=>decide (y.2.pars.length=ar.length))else if k=5 then calledB x n ar.length else true
def badR (st:Bool):Stm→Bool
 |.mk k d s _ _ ar _ _=>(decide (d=selfT) && decide (k≠4)) || (st && (d::s::ar).any fun a=>decide (a=selfT))
theorem stmR_eq (x:List Cls)(st:Bool)(s:Stm):stmR x st s=(!badR st s && swR x s):=by
 obtain⟨k,d,s,c,n,ar,o,t⟩:=s
 simp only[stmR,badR,swR,List.any_cons,Bool.or_assoc]
 rfl
set_option maxHeartbeats 8000000 in
theorem Cbd1_S (t:St)(p bm b2 b3 b5:Nat)(x:List Cls)(m:Mth)(hS:SrcAt t p bm x)(h2:t b2=.obj 139 [.ptr p 0])(h3:t b3=.obj 93 (mthC m))(h5:t b5=.free)
    (hx:x.length≤100000) (hl:∀c,c∈x→c.mths.length≤100000) (hst:∀i,i<x.length→startN x i≤100000) (a:Bool) (k:Int) (d sr cn nm:List UInt8) (ar:List (List UInt8)) (o t2:List Stm) (har:ar.length≤100000) :
    SRet Tryz.prog 138 [.agg (stC (.mk k d sr cn nm ar o t2)),.ptr b3 0,.ptr b5 0,.ptr b2 0] (t.set b5 (.obj 4 [.bool a])) (.tup []) (t.set b5 (.obj 4 [.bool (a && stmR x m.stat (.mk k d sr cn nm ar o t2))])):=by
  have hSf:∀s,Fg s t→SrcAt s p bm x:=fun s hs=>hS.fg hs
  have hal:(ar.map strC).length=ar.length:=by simp
  rw[stmR_eq]
  have w1:∀o s,SRet Tryz.prog 139 [.lst ([.str d]::[.str sr]::ar.map strC) o,.str selfT] s (.bool ((d::sr::ar).any fun a=>decide (a=selfT))) s:=fun o s=>contS_S (d::sr::ar) o selfT (by simp;omega) s
  simp only[badR,swR]
  generalize ((d::sr::ar).any fun a=>decide (a=selfT))=cb at w1 ⊢
  have w2:=fun s g1 g2=>Clook_S s p bm x cn nm true ⟨g1,g2⟩ hx hl hst
  have w3:=fun s g1 g2=>Ccalled_S s p bm x nm ar.length ⟨g1,g2⟩ hx hl
  have hlk:=atA16_lk (x:=x) nm
  obtain⟨k1,k2⟩:=hS
  have n2:¬ b2=b5:=(nef h5 (by rw[h2];simp)).1
  have n3:¬ b3=b5:=(nef h5 (by rw[h3];simp)).1
  have np:¬ p=b5:=(nef h5 (by rw[k1];simp)).1
  have nb:¬ bm=b5:=(nef h5 (by rw[k2];simp)).1
  have f2:t b2≠.free:=by rw[h2];simp
  have f3:t b3≠.free:=by rw[h3];simp
  have fp:t p≠.free:=by rw[k1];simp
  have fb:t bm≠.free:=by rw[k2];simp
  obtain⟨ms,mn,mp,mb⟩:=m
  simp only[mthC,strsV,stsV]at h3 ⊢
  simp only[stC,strsV]
  generalize lookN x cn nm true=L at w2 ⊢
  generalize calledB x nm ar.length=cc at w3 ⊢
  generalize atC x nm=ao at hlk ⊢
  generalize hR:(a && _)=R
  have hkk:k=1∨k=6∨k=5∨k=4∨(¬ k=1∧¬ k=6∧¬ k=5∧¬ k=4):=by omega
  clear hSf hl hst
  rcases hkk with rfl|rfl|rfl|rfl|⟨q1,q2,q3,q4⟩
  · have hyl:=hal
    cases ao<;>by_cases hd:d=selfT
    all_goals first
      |(subst hd;unfold selfT at *)
      | (have hdf : (d = selfT) = False := eq_false hd
         clear hd
         unfold selfT at *
         rcases(show ms=false∨(ms=true∧cb=false)∨(ms=true∧cb=true) by cases ms<;>cases cb<;>simp)with rfl|⟨rfl,rfl⟩|⟨rfl,rfl⟩<;>cases a)
    all_goals try simp only[Option.map_none,Option.map_some]at hlk
    all_goals try simp only[lkN,lkP,mthC,strsV,stsV]at w2
    all_goals(try simp[*]at hR)<;>(try subst hR)
    all_goals
      refine G_enter Tryz.func138 rfl Tryz.ntmps138 rfl fun Q hQ hQe=>?_
      (repeat'(first|refine Ctl ?_|(with_reducible first|(refine Kof.use hK ?_;clear hK hE K E)|(refine Kof.use hKh ?_;clear hKh Kh)|refine G_plan 5 [] [0,1,2,3,4,5,6,7,8,9,10,11] hQe fun K E hK hE=>?_)|((with_reducible refine W_cond (fun h=>?_) (fun h=>?_))<;>(try(exfalso;assumption)))|((first|(with_reducible first|refine G_region fun K E hK hE=>?_|refine call_ret can139 (w1 _ _) ?_|refine P_fin fun Kh hKh=>?_)|((with_reducible refine W_fresh (fun b hb=>?_));(repeat(obtain⟨_,hb⟩:=hb));(try(obtain⟨_,_⟩:=nef hb f2;obtain⟨_,_⟩:=nef hb f3;obtain⟨_,_⟩:=nef hb fp;obtain⟨_,_⟩:=nef hb fb))))<;>(try simp(disch:=first|assumption|omega) only[go_sem,seval,hlk,hal,hyl,Option.getD_some,Option.getD_none,Option.isSome_some,Option.isSome_none,beq_self_eq_true,if_true, *]))|((with_reducible refine W_appF ?_ (fun b hb=>?_))<;>(try((repeat(obtain⟨_,hb⟩:=hb));obtain⟨_,_⟩:=nef hb f2;obtain⟨_,_⟩:=nef hb f3;obtain⟨_,_⟩:=nef hb fp;obtain⟨_,_⟩:=nef hb fb))<;>(try simp(disch:=assumption) only[go_sem,seval,hal, *]))))
    all_goals(refine W_norm res138 hQ ?_)
    all_goals(refine⟨_,_,Wk.of_eq ?_,?_,rfl,rfl⟩)
    all_goals first|rfl|(exact z_fg)
  · have hyl:=hal
    rcases L with _|⟨yn,⟨ys,ynm,yp,yb⟩⟩<;>by_cases hd:d=selfT
    all_goals first
      |(subst hd;unfold selfT at *)
      | (have hdf : (d = selfT) = False := eq_false hd
         clear hd
         unfold selfT at *
         rcases(show ms=false∨(ms=true∧cb=false)∨(ms=true∧cb=true) by cases ms<;>cases cb<;>simp)with rfl|⟨rfl,rfl⟩|⟨rfl,rfl⟩<;>cases a)
    all_goals try simp only[Option.map_none,Option.map_some]at hlk
    all_goals try simp only[lkN,lkP,mthC,strsV,stsV]at w2
    all_goals(try simp[*]at hR)<;>(try subst hR)
    all_goals
      refine G_enter Tryz.func138 rfl Tryz.ntmps138 rfl fun Q hQ hQe=>?_
      (repeat'(first|refine Ctl ?_|(with_reducible first|(refine Kof.use hK ?_;clear hK hE K E)|(refine Kof.use hKh ?_;clear hKh Kh)|(refine Kof.use hKb (P_next ?_);clear hKb Kb)|refine G_plan 9 [([0,1,2,3,4,5,6,7,8,9,10,11,12,13,14,15],16,[[]])] [] hQe fun K E hK hE=>?_)|((with_reducible refine W_cond (fun h=>?_) (fun h=>?_))<;>(try(exfalso;assumption)))|((first|(with_reducible first|refine G_region fun K E hK hE=>?_|refine call_ret can139 (w1 _ _) ?_|refine call_ret can66 (w2 _ z_sl z_sl) ?_|refine P_heads fun Kh hKh=>?_|refine P_fin fun Kh hKh=>?_|refine P_each fun Kb hKb=>?_)|((with_reducible refine W_fresh (fun b hb=>?_));(repeat(obtain⟨_,hb⟩:=hb));(try(obtain⟨_,_⟩:=nef hb f2;obtain⟨_,_⟩:=nef hb f3;obtain⟨_,_⟩:=nef hb fp;obtain⟨_,_⟩:=nef hb fb))))<;>(try simp(disch:=first|assumption|omega) only[go_sem,seval,hlk,hal,hyl,Option.getD_some,Option.getD_none,Option.isSome_some,Option.isSome_none,beq_self_eq_true,if_true, *]))|((with_reducible refine W_appF ?_ (fun b hb=>?_))<;>(try((repeat(obtain⟨_,hb⟩:=hb));obtain⟨_,_⟩:=nef hb f2;obtain⟨_,_⟩:=nef hb f3;obtain⟨_,_⟩:=nef hb fp;obtain⟨_,_⟩:=nef hb fb))<;>(try simp(disch:=assumption) only[go_sem,seval,hal, *]))))
    all_goals(refine W_norm res138 hQ ?_)
    all_goals(refine⟨_,_,Wk.of_eq ?_,?_,rfl,rfl⟩)
    all_goals first|rfl|(exact z_fg)
  · have hyl:=hal
    skip<;>by_cases hd:d=selfT
    all_goals first
      |(subst hd;unfold selfT at *)
      | (have hdf : (d = selfT) = False := eq_false hd
         clear hd
         unfold selfT at *
         rcases(show ms=false∨(ms=true∧cb=false)∨(ms=true∧cb=true) by cases ms<;>cases cb<;>simp)with rfl|⟨rfl,rfl⟩|⟨rfl,rfl⟩<;>cases a)
    all_goals try simp only[Option.map_none,Option.map_some]at hlk
    all_goals try simp only[lkN,lkP,mthC,strsV,stsV]at w2
    all_goals(try simp[*]at hR)<;>(try subst hR)
    all_goals
      refine G_enter Tryz.func138 rfl Tryz.ntmps138 rfl fun Q hQ hQe=>?_
      (repeat'(first|refine Ctl ?_|((with_reducible refine Kof.use hK ?_);clear hK hE K E)|((with_reducible refine W_cond (fun h=>?_) (fun h=>?_))<;>(try(exfalso;assumption)))|((first|(with_reducible first|refine G_region fun K E hK hE=>?_|refine call_ret can139 (w1 _ _) ?_|refine call_ret can140 (w3 _ z_sl z_sl) ?_)|((with_reducible refine W_fresh (fun b hb=>?_));(repeat(obtain⟨_,hb⟩:=hb));(try(obtain⟨_,_⟩:=nef hb f2;obtain⟨_,_⟩:=nef hb f3;obtain⟨_,_⟩:=nef hb fp;obtain⟨_,_⟩:=nef hb fb))))<;>(try simp(disch:=first|assumption|omega) only[go_sem,seval,hlk,hal,hyl,Option.getD_some,Option.getD_none,Option.isSome_some,Option.isSome_none,beq_self_eq_true,if_true, *]))|((with_reducible refine W_appF ?_ (fun b hb=>?_))<;>(try((repeat(obtain⟨_,hb⟩:=hb));obtain⟨_,_⟩:=nef hb f2;obtain⟨_,_⟩:=nef hb f3;obtain⟨_,_⟩:=nef hb fp;obtain⟨_,_⟩:=nef hb fb))<;>(try simp(disch:=assumption) only[go_sem,seval,hal, *]))))
    all_goals(refine W_norm res138 hQ ?_)
    all_goals(refine⟨_,_,Wk.of_eq ?_,?_,rfl,rfl⟩)
    all_goals first|rfl|(exact z_fg)
  · have hyl:=hal
    skip<;>by_cases hd:d=selfT
    all_goals first
      |(subst hd;unfold selfT at *;rcases(show ms=false∨(ms=true∧cb=false)∨(ms=true∧cb=true) by cases ms<;>cases cb<;>simp)with rfl|⟨rfl,rfl⟩|⟨rfl,rfl⟩<;>cases a)
      | (have hdf : (d = selfT) = False := eq_false hd
         clear hd
         unfold selfT at *
         rcases(show ms=false∨(ms=true∧cb=false)∨(ms=true∧cb=true) by cases ms<;>cases cb<;>simp)with rfl|⟨rfl,rfl⟩|⟨rfl,rfl⟩<;>cases a)
    all_goals try simp only[Option.map_none,Option.map_some]at hlk
    all_goals try simp only[lkN,lkP,mthC,strsV,stsV]at w2
    all_goals(try simp[*]at hR)<;>(try subst hR)
    all_goals
      refine G_enter Tryz.func138 rfl Tryz.ntmps138 rfl fun Q hQ hQe=>?_
      (repeat'(first|refine Ctl ?_|((with_reducible refine Kof.use hK ?_);clear hK hE K E)|((with_reducible refine W_cond (fun h=>?_) (fun h=>?_))<;>(try(exfalso;assumption)))|((first|(with_reducible first|refine G_region fun K E hK hE=>?_|refine call_ret can139 (w1 _ _) ?_)|((with_reducible refine W_fresh (fun b hb=>?_));(repeat(obtain⟨_,hb⟩:=hb));(try(obtain⟨_,_⟩:=nef hb f2;obtain⟨_,_⟩:=nef hb f3;obtain⟨_,_⟩:=nef hb fp;obtain⟨_,_⟩:=nef hb fb))))<;>(try simp(disch:=first|assumption|omega) only[go_sem,seval,hlk,hal,hyl,Option.getD_some,Option.getD_none,Option.isSome_some,Option.isSome_none,beq_self_eq_true,if_true, *]))|((with_reducible refine W_appF ?_ (fun b hb=>?_))<;>(try((repeat(obtain⟨_,hb⟩:=hb));obtain⟨_,_⟩:=nef hb f2;obtain⟨_,_⟩:=nef hb f3;obtain⟨_,_⟩:=nef hb fp;obtain⟨_,_⟩:=nef hb fb))<;>(try simp(disch:=assumption) only[go_sem,seval,hal, *]))))
    all_goals(refine W_norm res138 hQ ?_)
    all_goals(refine⟨_,_,Wk.of_eq ?_,?_,rfl,rfl⟩)
    all_goals first|rfl|(exact z_fg)
  · have hyl:=hal
    skip<;>by_cases hd:d=selfT
    all_goals first
      |(subst hd;unfold selfT at *)
      | (have hdf : (d = selfT) = False := eq_false hd
         clear hd
         unfold selfT at *
         rcases(show ms=false∨(ms=true∧cb=false)∨(ms=true∧cb=true) by cases ms<;>cases cb<;>simp)with rfl|⟨rfl,rfl⟩|⟨rfl,rfl⟩<;>cases a)
    all_goals try simp only[Option.map_none,Option.map_some]at hlk
    all_goals try simp only[lkN,lkP,mthC,strsV,stsV]at w2
    all_goals(try simp[*]at hR)<;>(try subst hR)
    all_goals
      refine G_enter Tryz.func138 rfl Tryz.ntmps138 rfl fun Q hQ hQe=>?_
      (repeat'(first|refine Ctl ?_|((with_reducible refine Kof.use hK ?_);clear hK hE K E)|((with_reducible refine W_cond (fun h=>?_) (fun h=>?_))<;>(try(exfalso;assumption)))|((first|(with_reducible first|refine G_region fun K E hK hE=>?_|refine call_ret can139 (w1 _ _) ?_)|((with_reducible refine W_fresh (fun b hb=>?_));(repeat(obtain⟨_,hb⟩:=hb));(try(obtain⟨_,_⟩:=nef hb f2;obtain⟨_,_⟩:=nef hb f3;obtain⟨_,_⟩:=nef hb fp;obtain⟨_,_⟩:=nef hb fb))))<;>(try simp(disch:=first|assumption|omega) only[go_sem,seval,hlk,hal,hyl,Option.getD_some,Option.getD_none,Option.isSome_some,Option.isSome_none,beq_self_eq_true,if_true, *]))|((with_reducible refine W_appF ?_ (fun b hb=>?_))<;>(try((repeat(obtain⟨_,hb⟩:=hb));obtain⟨_,_⟩:=nef hb f2;obtain⟨_,_⟩:=nef hb f3;obtain⟨_,_⟩:=nef hb fp;obtain⟨_,_⟩:=nef hb fb))<;>(try simp(disch:=assumption) only[go_sem,seval,hal, *]))))
    all_goals(refine W_norm res138 hQ ?_)
    all_goals(refine⟨_,_,Wk.of_eq ?_,?_,rfl,rfl⟩)
    all_goals first|rfl|(exact z_fg)
end Go.Proofs.YtgdbgfjhenobdaaGreatDoor
namespace Go.Proofs.YtgdbgfjhenobdaaGreatDoor
open Go.RowKit
attribute [local go_sem] p_enil1 p_enil2 p_nilE one_nil
def argOk:Stm→Prop
 |.mk _ _ _ _ _ ar _ _=>ar.length≤100000
def bdF (x:List Cls)(st:Bool)(a:Bool)(s:Stm):Bool:=a && stmR x st s
theorem bdF_all {x:List Cls}{st:Bool}:∀(l:List Stm) (a:Bool),l.foldl (bdF x st) a=(a && l.all (stmR x st))
 |[],a=>by simp
 |s::l,a=>by simp only[List.foldl_cons,List.all_cons];rw[bdF_all l];simp[bdF,Bool.and_assoc]
structure BdAt (t:St) (p bm b2 b3 b5:Nat) (x:List Cls) (m:Mth):Prop where
 src:SrcAt t p bm x
 h2:t b2=.obj 139 [.ptr p 0]
 h3:t b3=.obj 93 (mthC m)
 h5:t b5=.free
theorem Cbdeach (p bm b2 b3 b5:Nat)(x:List Cls)(m:Mth)(hx:x.length≤100000)(hl:∀c,c∈x→c.mths.length≤100000)(hst:∀i,i<x.length→startN x i≤100000) :
  EachOk 138 [.ptr b3 0,.ptr b5 0,.ptr b2 0] (fun t=>BdAt t p bm b2 b3 b5 x m) (fun(a:Bool) t=>t.set b5 (.obj 4 [.bool a])) (bdF x m.stat) argOk (fun _ _=>True):=by
 have key:∀(t:St) (a:Bool) (b:Nat),(t.set b5 (.obj 4 [.bool a])) b=.free→¬ b=b5∧t b=.free:=fun t a b hb=>by
  by_cases e:b=b5
  ·subst e;rw[St.set_same]at hb;cases hb
  ·rw[St.set_other _ _ e]at hb;exact⟨e,hb⟩
 refine⟨fun t a b c hB hb=>?_,fun t a b c hB hb=>?_,fun t a a' b hB hb=>?_,fun _ _ _ _ _=>trivial,fun _ _ _=>trivial,fun t a s k hB hg _=>?_⟩
 ·obtain⟨e,hb⟩:=key t a b hb
  have hf:∀b',t b'≠.free→(t.set b c) b'=t b':=fun b' h=>St.set_other _ _ (nef hb h).1
  exact⟨hB.src.fg (Fg.of_set _ hb),(hf _ (by rw[hB.h2];simp)).trans hB.h2,(hf _ (by rw[hB.h3];simp)).trans hB.h3,(St.set_other _ _ (fun h=>e h.symm)).trans hB.h5⟩
 ·obtain⟨e,hb⟩:=key t a b hb
  exact set_comm' e
 ·obtain⟨e,hb⟩:=key t a b hb
  rw[St.set_other _ _ e];exact hb
 ·obtain⟨k',d,sr,cn,nm,ar,o,t2⟩:=s
  exact Cbd1_S t p bm b2 b3 b5 x m hB.src hB.h2 hB.h3 hB.h5 hx hl hst a k' d sr cn nm ar o t2 hg
theorem Cbdall_S (p bm:Nat)(x:List Cls)(m:Mth)(hx:x.length≤100000)(hl:∀c,c∈x→c.mths.length≤100000)(hst:∀i,i<x.length→startN x i≤100000)(hb:LOk argOk m.body)
  (B:St) (b2 b3 b5:Nat) (hS1:B p=.obj 181 [.lst (x.map clsC) .no,.mp bm,.lst (stL x x.length) .no]) (hS2:B bm=.map (mpV encI (atA16 x)))
  (h2:B b2=.obj 139 [.ptr p 0]) (h3:B b3=.obj 93 (mthC m)) (h5:B b5=.free) :
  SRet Tryz.prog 62 [.lst (stsC m.body) .no,.fn 138 [.ptr b3 0,.ptr b5 0,.ptr b2 0]] (B.set b5 (.obj 4 [.bool true])) (.tup []) (B.set b5 (.obj 4 [.bool (bodyR x m)])):=by
 have h:=Ceach_S 138 [.ptr b3 0,.ptr b5 0,.ptr b2 0] _ _ _ _ _ can138 (Cbdeach p bm b2 b3 b5 x m hx hl hst) (szL m.body+1) m.body (Nat.lt_succ_self _) hb B true ⟨⟨hS1,hS2⟩,h2,h3,h5⟩ trivial
 simp only[bdF_all,Bool.true_and]at h
 exact h
set_option maxHeartbeats 4000000 in
theorem Cbody_S (t:St)(p bm:Nat)(x:List Cls)(m:Mth)(hS:SrcAt t p bm x)(hx:x.length≤100000)(hl:∀c,c∈x→c.mths.length≤100000)(hst:∀i,i<x.length→startN x i≤100000)(hb:LOk argOk m.body) :
  SRet Tryz.prog 105 [.ptr p 0,.agg (mthC m)] t (.bool (bodyR x m)) t:=by
 have w1:=Cbdall_S p bm x m hx hl hst hb
 obtain⟨h1,h2⟩:=hS
 have hpf:t p≠.free:=by rw[h1];simp
 have hbf:t bm≠.free:=by rw[h2];simp
 generalize bodyR x m=R at w1 ⊢
 clear hl hst hb
 obtain⟨ms,mn,mp,mb⟩:=m
 simp only[mthC,strsV,stsV]at w1 ⊢
 refine G_enter Tryz.func105 rfl Tryz.ntmps105 rfl fun Q hQ hQe=>?_
 (repeat'(first|refine Ctl ?_|((with_reducible refine Kof.use hK ?_);clear hK hE K E)|((first|(with_reducible first|refine G_region fun K E hK hE=>?_|refine call_ret can62 (w1 _ _ _ _ z_sl z_sl z_sl z_sl z_sl) ?_)|((with_reducible refine W_fresh (fun b hb=>?_));(repeat(obtain⟨_,hb⟩:=hb));(try(obtain⟨_,_⟩:=nef hb hpf;obtain⟨_,_⟩:=nef hb hbf))))<;>(try simp(disch:=omega) only[go_sem,seval, *]))))
 all_goals(refine W_ret res105 hQ ?_)
 all_goals(refine⟨_,_,Wk.of_eq ?_,?_,rfl,rfl⟩)
 all_goals first|rfl|(exact z_fg)
end Go.Proofs.YtgdbgfjhenobdaaGreatDoor
namespace Go.Proofs.YtgdbgfjhenobdaaGreatDoor
open Go.RowKit
def SOk (y:Stm):Prop:=argOk y∧(subs y).1.length≤100000∧(subs y).2.length≤100000
mutual
theorem okS_all:∀(x:Stm) (dp:Nat),okS x dp=true→totS x≤1024→∀y,y∈preS x→SOk y
 |.mk k d s c m ar o t,dp,hk,ht,y,hy=>by
  simp only[okS,Bool.and_eq_true]at hk
  obtain⟨hm,hk⟩:=hk
  have ha:=(may_args hm).1
  simp only[totS]at ht
  have l1:=totL_len o
  have l2:=totL_len t
  simp only[preS,List.mem_cons,List.mem_append]at hy
  by_cases h8:k=8
  ·subst h8
   simp only[if_true,Bool.and_eq_true]at hk ht
   rcases hy with rfl|hy|hy
   ·exact⟨show ar.length≤100000 by omega,show o.length≤100000 by omega,show t.length≤100000 by omega⟩
   ·exact okL_all o _ hk.1.2 (by omega) y hy
   ·exact okL_all t _ hk.2 (by omega) y hy
  ·by_cases h9:k=9
   ·subst h9
    simp only[show ¬ (9:Int)=8 by decide,if_false,if_true,Bool.and_eq_true]at hk ht
    have htn:t=[]:=by
     unfold mayB at hm
     simp only[show ¬ (9:Int)=8 by decide,if_false,if_true,Bool.and_eq_true,List.isEmpty_iff]at hm
     exact hm.2
    subst htn
    rcases hy with rfl|hy|hy
    ·exact⟨show ar.length≤100000 by omega,show o.length≤100000 by omega,show ([]:List Stm).length≤100000 by simp⟩
    ·exact okL_all o _ hk.2 (by omega) y hy
    ·cases hy
   ·have hon:o=[]∧t=[]:=by
     unfold mayB at hm
     simp only[h8,h9,if_false,Bool.and_eq_true,List.isEmpty_iff]at hm
     exact⟨hm.1.1.1,hm.1.1.2⟩
    obtain⟨rfl,rfl⟩:=hon
    rcases hy with rfl|hy|hy
    ·exact⟨show ar.length≤100000 by omega,show ([]:List Stm).length≤100000 by simp,show ([]:List Stm).length≤100000 by simp⟩
    ·cases hy
    ·cases hy
theorem okL_all:∀(l:List Stm) (dp:Nat),okA l dp=true→totL l≤1024→∀y,y∈preL l→SOk y
 |[],_,_,_,y,hy=>by cases hy
 |x::l,dp,hk,ht,y,hy=>by
  simp only[okA,Bool.and_eq_true]at hk
  simp only[totL]at ht
  simp only[preL,List.mem_append]at hy
  rcases hy with hy|hy
  ·exact okS_all x dp hk.1 (by omega) y hy
  ·exact okL_all l dp hk.2 (by omega) y hy
end
structure Bnd (x:List Cls):Prop where
 cls:x.length≤32
 mths:∀c,c∈x→c.mths.length≤32
 pars:∀c,c∈x→∀m,m∈c.mths→m.pars.length≤8
 body:∀c,c∈x→∀m,m∈c.mths→LOk argOk m.body
theorem Bnd.of {x:List Cls}(h:checkB x=true):Bnd x:=by
 unfold checkB at h
 simp only[Bool.and_eq_true,decide_eq_true_eq,List.all_eq_true]at h
 obtain⟨⟨h1,h2⟩,h3,h4⟩:=h
 refine⟨h1,fun c hc=>?_,fun c hc m hm=>?_,fun c hc m hm=>?_⟩
 ·have:=h2 c hc
  unfold headC at this
  simp only[Bool.and_eq_true,decide_eq_true_eq]at this
  exact this.1.2
 ·have:=h2 c hc
  unfold headC at this
  simp only[Bool.and_eq_true,decide_eq_true_eq,List.all_eq_true]at this
  have h5:=this.2 m hm
  unfold headM namesB at h5
  simp only[Bool.and_eq_true,decide_eq_true_eq]at h5
  exact h5.2.1
 ·have hmm:=allM_mem hc hm
  have ht:=totM_mem hmm
  have hl:=totL_len m.body
  exact⟨by omega,okL_all m.body 1 (h3 m hmm) (by omega)⟩
theorem startN_le {x:List Cls}(h:Bnd x)(i:Nat)(hi:i<x.length):startN x i≤100000:=by
 unfold startN
 have:∀l:List Cls,(∀c,c∈l→c.mths.length≤32)→(l.map (·.mths.length)).sum≤32 * l.length:=by
  intro l
  induction l with
  |nil=>intro _;simp
  |cons c l ih=>
   intro hl
   have h1:=hl c (by simp)
   have h2:=ih fun c hc=>hl c (by simp[hc])
   simp only[List.map_cons,List.sum_cons,List.length_cons]
   omega
 have h2:=this (x.take i) fun c hc=>h.mths c (List.mem_of_mem_take hc)
 have h3:(x.take i).length≤x.length:=by simp;omega
 have:=h.cls
 omega
end Go.Proofs.YtgdbgfjhenobdaaGreatDoor
