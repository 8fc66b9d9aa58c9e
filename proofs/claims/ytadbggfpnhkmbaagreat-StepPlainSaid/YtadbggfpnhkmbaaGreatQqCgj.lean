/- Walks of functions that the claim reaches, and plain facts of them. Conditions: those in the statements. -/
import Derived.Test.YtadbggfpnhkmbaaGreatQqCaj
import Derived.Test.YtadbggfpnhkmbaaGreatQqOvj
import Derived.Test.YtadbggfpnhkmbaaGreatQqPwj
set_option linter.unusedSimpArgs false
set_option linter.unusedVariables false
set_option maxRecDepth 100000
namespace Go.Proofs.YtadbggfpnhkmbaaGreat
open Go.RowKit
attribute [local go_sem] disown_fl owned_fl own_fl
def rdE (x:List Cls):Int:=if checkB x=false then 1 else if ¬ (x.map (·.nm)).Nodup then 160 else 0
def atA16 (x:List Cls):List (List UInt8×Int):=pairsA (fun c:Cls=>c.nm) (fun i _=>(i:Int)) 0 x
def putC (x:List Cls):List (List UInt8×Int):=putsA (fun c:Cls=>c.nm) (fun i _=>(i:Int)) 0 x []
def stL (x:List Cls)(i:Nat):List (List VV):=intsL ((List.range i).map fun k=>(startN x k:Int))
theorem stL_len {x:List Cls}{i:Nat}:(stL x i).length=i:=by simp[stL,intsL]
theorem stL_succ {x:List Cls}{i:Nat}:stL x (i+1)=stL x i++[[.int .i64 (startN x i:Int)]]:=by
 unfold stL intsL;rw[List.range_succ,List.map_append,List.map_append];rfl
theorem stL_at {x:List Cls}{i k:Nat}(h:k<i):(stL x i)[k]?=some [.int .i64 (startN x k:Int)]:=by
 unfold stL intsL;rw[List.getElem?_map,List.getElem?_map,List.getElem?_range h];rfl
def SrcAt (t:St)(p bm:Nat)(x:List Cls):Prop:=t p=.obj 104 [.lst (x.map clsC) .no,.mp bm,.lst (stL x x.length) .no]∧t bm=.map (mpV encI (atA16 x))
theorem putC_at {x:List Cls}{i:Nat}{c:Cls}(h:x[i]?=some c):putC (x.take (i+1))=ptA c.nm (i:Int) (putC (x.take i)):=by
 unfold putC;rw[utake h,putsA_app,List.length_take,Nat.min_eq_left (Nat.le_of_lt (List.getElem?_eq_some_iff.1 h).1),Nat.zero_add]
theorem putC_len {x:List Cls}:(putC x).length=x.length↔(x.map (·.nm)).Nodup:=putsA_len x
theorem putC_eq {x:List Cls}(h:(x.map (·.nm)).Nodup):putC x=atA16 x:=by unfold putC atA16;rw[putsA_nodup 0 x [] (by simpa using h),List.nil_append]
set_option maxHeartbeats 8000000 in
theorem Cread_S (x:List Cls)(hx:SrcOk x)(t:St):SCalls Tryz.prog 27 [srcV x] t fun w u=>
  (rdE x≠0→w=.ret (.tup [.raw (.pointer none),.int .i64 (rdE x)])∧u=t)∧(rdE x=0→∃p bm,w=.ret (.tup [.ptr p 0,.int .i64 0])∧SrcAt u p bm x∧Fg u t):=by
 have w1:=fun s=>Print_S x hx s
 cases hB:checkB x with
 |false=>
  have he:rdE x=1:=by unfold rdE;rw[if_pos hB]
  have hpv:printV x=.tup [.str [],.int .i64 1]:=by simp[printV,printS,hB]
  rw[hpv]at w1
  rw[he]
  simp only[srcV]at w1 ⊢
  clear he hB hpv
  refine G_enter Tryz.func27 rfl Tryz.ntmps27 rfl fun Q hQ hQe=>?_
  (repeat'(first|refine Ctl ?_|((with_reducible refine Kof.use hK ?_);clear hK hE K E)|((with_reducible refine Eof.use hE ?_);(try clear hK hE K E))|((with_reducible refine Kof.use hKh ?_);clear hKh Kh)|((with_reducible refine Kof.use hKb (P_next ?_));clear hKb Kb)|(with_reducible first|refine G_plan 9 [([0,1,2,3,4,5,6],7,[[]])] [] hQe fun K E hK hE=>?_|refine G_plan 13 [] [0,1,2,3,4,5,6,7,8] hQe fun K E hK hE=>?_)|((with_reducible refine W_cond (fun h=>?_) (fun h=>?_))<;>(try(exfalso;first|assumption|omega)))|((first|(with_reducible first|refine G_region fun K E hK hE=>?_|refine call_ret can47 (w1 _) ?_|refine call_ret can47 (Print_S _ (by assumption) _) ?_|refine W_if ?_|refine W_ifS ?_|refine P_heads fun Kh hKh=>?_|refine P_fin fun Kh hKh=>?_|refine P_each fun Kb hKb=>?_|refine W_and ?_)|((with_reducible refine W_fresh (fun b hb=>?_));(repeat(obtain⟨_,hb⟩:=hb)))|((with_reducible refine W_app (fun o2 ho=>?_));(repeat(obtain⟨_,ho⟩:=ho))))<;>(try simp(disch:=first|assumption|omega) only[go_sem,seval, *]))))
  all_goals(first|refine W_ret res27 hQ ?_|refine W_norm res27 hQ ?_|refine G_pan hQ ?_)
  refine⟨_,_,Wk.refl _,(z_fg:Fg _ t),fun _=>⟨rfl,rfl⟩,fun h=>absurd h (by decide)⟩
 |true=>
  obtain⟨ps,pn,hpv,hpn⟩:∃(ps:List UInt8) (pn:Nat),printV x=.tup [.str ps,.int .i64 pn]∧pn≠1:=by
   refine⟨_,_,rfl,?_⟩
   unfold printS
   rw[if_pos hB]
   cases lexSigns (prtB x)<;>simp
  rw[hpv]at w1
  have hpI:((pn:Int)=1)=False:=eq_false (by omega)
  have hrd:rdE x=if ¬ (x.map (·.nm)).Nodup then 160 else 0:=by unfold rdE;rw[if_neg (by rw[hB];simp)]
  have HRD:=Lib.hid hrd
  have HX:=Lib.hid hx
  have hxl:=hx.1
  have hx32:x.length≤32∧∀c,c∈x→c.mths.length≤32:=by
   unfold checkB at hB
   simp only[Bool.and_eq_true,decide_eq_true_eq,List.all_eq_true]at hB
   refine⟨hB.1.1,fun c hc=>?_⟩
   have:=hB.1.2 c hc
   unfold headC at this
   simp only[Bool.and_eq_true,decide_eq_true_eq]at this
   exact this.1.2
  obtain⟨hx32,hm32⟩:=hx32
  have HM:=Lib.hid hm32
  clear hB hpv hpn hrd hx hm32
  have hlen:(x.map clsC).length=x.length:=by simp
  simp only[srcV]at w1 ⊢
  refine G_enter Tryz.func27 rfl Tryz.ntmps27 rfl fun Q hQ hQe=>?_
  (repeat'(first|refine Ctl ?_|((with_reducible refine Kof.use hK ?_);clear hK hE K E)|((with_reducible refine Eof.use hE ?_);(try clear hK hE K E))|((with_reducible refine Kof.use hKh ?_);clear hKh Kh)|((with_reducible refine Kof.use hKb (P_next ?_));clear hKb Kb)|(with_reducible first|refine G_plan 9 [([0,1,2,3,4,5,6],7,[[]])] [] hQe fun K E hK hE=>?_|refine G_plan 13 [] [0,1,2,3,4,5,6,7,8] hQe fun K E hK hE=>?_)|((with_reducible refine W_cond (fun h=>?_) (fun h=>?_))<;>(try(exfalso;first|assumption|omega)))|((first|(with_reducible first|refine G_region fun K E hK hE=>?_|refine call_ret can47 (w1 _) ?_|refine call_ret can47 (Print_S _ (by assumption) _) ?_|refine W_if ?_|refine W_ifS ?_|refine P_heads fun Kh hKh=>?_|refine P_fin fun Kh hKh=>?_|refine P_each fun Kb hKb=>?_|refine W_and ?_)|((with_reducible refine W_fresh (fun b hb=>?_));(repeat(obtain⟨_,hb⟩:=hb)))|((with_reducible refine W_app (fun o2 ho=>?_));(try simp(disch:=assumption) only[disown_set,disown_own,ownok_o,ownok_m,List.length_map,List.length_cons,List.length_nil,Nat.zero_add,hlen]at ho);(repeat(obtain⟨_,ho⟩:=ho))))<;>(try simp(disch:=first|assumption|omega) only[go_sem,seval,hlen, *]))))
  rename_i bx hbx bm n1 n2 hbm n3 n4 n5 n6
  obtain⟨bp,hbp⟩:∃z,z=b:=⟨_,rfl⟩
  subst hbp
  have hSx:(t.set bx (.obj 31 [.lst (x.map clsC) .no])) bx=.obj 31 [.lst (x.map clsC) .no]:=St.set_same _ _ _
  have hSm:(t.set bx (.obj 31 [.lst (x.map clsC) .no])) bm=.free:=by rw[St.set_other _ _ n1];exact hbm
  have hSp:(t.set bx (.obj 31 [.lst (x.map clsC) .no])) bp=.free:=by rw[St.set_other _ _ n5];exact hb
  have hF:Fg (t.set bx (.obj 31 [.lst (x.map clsC) .no])) t:=Fg.of_set _ hbx
  generalize t.set bx (.obj 31 [.lst (x.map clsC) .no])=S at *
  have HF:=Lib.hid hF
  have hSxf:S bx≠.free:=by rw[hSx];simp
  clear hF hb hbx hbm
  refine G_loopS (fun m env s'=>∃(i:Nat) (o:Own),i≤x.length∧m+i=x.length∧OwnOk S o i∧NotOwn o bm∧NotOwn o bp∧Hid (startN x i≤32 * i) ∧
   s'=((S.own o 3 1 i).set bm (.map (mpV encI (putC (x.take i))))).set bp (.obj 104 [.lst (x.map clsC) .no,.mp bm,.lst (stL x i) o]) ∧
   env 1=.ptr bx 0∧env 6=.ptr bp 0∧env 7=.int .i64 (startN x i:Int)∧env 23=.lst (x.map clsC) .no∧env 24=.int .i64 x.length∧env 25=.int .i64 i) x.length ?_ ?_
  ·exact⟨_,GS.refl _,0,.full,by omega,by omega,ownok_nil,trivial,trivial,Lib.hid (by simp[startN]),rfl,z_sl,z_sl,z_sl,z_sl,z_sl,z_sl⟩
  ·rintro m env s' ⟨i,o,hi,hm,ho,hom,hop,HST,rfl,e1,e6,e7,e23,e24,e25⟩
   have hox:=ho.not hSxf
   by_cases hlt:i<x.length
   ·obtain⟨c,hc⟩:=uget hlt
    have hsx:=clsC_at hc
    have hsl:=start_le hc
    have hcl:=HM.out c (List.mem_of_getElem? hc)
    have hst0:=HST.out
    have hln:=stL_len (x:=x) (i:=i)
    have hput:=putC_at hc
    have HPUT:=Lib.hid hput
    have HSL:=Lib.hid hsl
    clear hput hc hsl
    obtain⟨cn,cp,cm⟩:=c
    simp only at hcl
    have hml:(cm.map mthC).length=cm.length:=by simp
    (repeat'(first|refine Ctl ?_|((with_reducible refine Kof.use hK ?_);clear hK hE K E)|((with_reducible refine Eof.use hE ?_);(try clear hK hE K E))|((with_reducible refine Kof.use hKh ?_);clear hKh Kh)|((with_reducible refine Kof.use hKb (P_next ?_));clear hKb Kb)|(with_reducible first|refine G_plan 9 [([0,1,2,3,4,5,6],7,[[]])] [] hQe fun K E hK hE=>?_|refine G_plan 13 [] [0,1,2,3,4,5,6,7,8] hQe fun K E hK hE=>?_)|((with_reducible refine W_cond (fun h=>?_) (fun h=>?_))<;>(try(exfalso;first|assumption|omega)))|((first|(with_reducible first|refine G_region fun K E hK hE=>?_|refine call_ret can47 (Print_S _ (by assumption) _) ?_|refine W_if ?_|refine W_ifS ?_|refine P_heads fun Kh hKh=>?_|refine P_fin fun Kh hKh=>?_|refine P_each fun Kb hKb=>?_|refine W_and ?_)|((with_reducible refine W_fresh (fun b hb=>?_));(repeat(obtain⟨_,hb⟩:=hb));(try(rw[own_fr]at hb;obtain⟨_,hb⟩:=hb;obtain⟨_,_⟩:=nef hb hSxf)))|((with_reducible refine W_app (fun o2 ho=>?_));(try simp(disch:=assumption) only[disown_set,disown_own,ownok_o,ownok_m,List.length_map,List.length_cons,List.length_nil,Nat.zero_add,hlen,hsx,clsC,hln,hml]at ho);(repeat(obtain⟨_,ho⟩:=ho))))<;>(try simp(disch:=first|assumption|omega) only[go_sem,seval,hlen,hsx,clsC,hln,hml, *]))))
    have hs1:startN x (i+1)=startN x i+cm.length:=HSL.out
    refine⟨_,GS.of_fg (Fg.of_set _ (by rw[St.set_other _ _ (by assumption),St.set_other _ _ (by assumption),own_fr];exact⟨by assumption,hb⟩)),m - 1,by omega,i+1,o2,by omega,by omega,ho,by assumption,by assumption,Lib.hid (by omega),by rw[stL_succ,HPUT.out],z_sl,z_sl,?_,z_sl,z_sl,z_sl⟩
    rw[hs1]
    ((try simp(disch:=first|assumption|omega) only[go_sem,seval, *])<;>first|rfl|omega)
   ·have hie:i=x.length:=by omega
    subst hie
    rw[List.take_of_length_le (Nat.le_refl _)]
    have hpl:=putC_len (x:=x)
    have HPL:=Lib.hid hpl
    clear hpl
    have hg:=GS.wkobj (s:=((S.own o 3 1 x.length).set bm (.map (mpV encI (putC x)))).set bp (.obj 104 [.lst (x.map clsC) .no,.mp bm,.lst (stL x x.length) o])) (b:=bp) (ys:=[.lst (x.map clsC) .no,.mp bm,.lst (stL x x.length) .no]) (St.set_same _ _ _) rfl (fun j y hy=>by
     match j with
     |0=>simp at hy;subst hy;exact⟨_,rfl,Wk.refl _,id⟩
     |1=>simp at hy;subst hy;exact⟨_,rfl,Wk.refl _,id⟩
     |2=>simp at hy;subst hy;exact⟨_,rfl,Wk.lst _ _,id⟩
     |j+3=>simp at hy)
    rw[St.set_set]at hg
    refine Kp_gs hg ?_
    clear hg
    (repeat'(first|refine Ctl ?_|((with_reducible refine Kof.use hK ?_);clear hK hE K E)|((with_reducible refine Eof.use hE ?_);(try clear hK hE K E))|((with_reducible refine Kof.use hKh ?_);clear hKh Kh)|((with_reducible refine Kof.use hKb (P_next ?_));clear hKb Kb)|(with_reducible first|refine G_plan 9 [([0,1,2,3,4,5,6],7,[[]])] [] hQe fun K E hK hE=>?_|refine G_plan 13 [] [0,1,2,3,4,5,6,7,8] hQe fun K E hK hE=>?_)|((with_reducible refine W_cond (fun h=>?_) (fun h=>?_))<;>(try(exfalso;first|assumption|omega)))|((first|(with_reducible first|refine G_region fun K E hK hE=>?_|refine call_ret can47 (Print_S _ (by assumption) _) ?_|refine W_if ?_|refine W_ifS ?_|refine P_heads fun Kh hKh=>?_|refine P_fin fun Kh hKh=>?_|refine P_each fun Kb hKb=>?_|refine W_and ?_)|((with_reducible refine W_fresh (fun b hb=>?_));(repeat(obtain⟨_,hb⟩:=hb)))|((with_reducible refine W_app (fun o2 ho=>?_));(try simp(disch:=assumption) only[disown_set,disown_own,ownok_o,ownok_m,List.length_map,List.length_cons,List.length_nil,Nat.zero_add,hlen]at ho);(repeat(obtain⟨_,ho⟩:=ho))))<;>(try simp(disch:=first|assumption|omega) only[go_sem,seval,hlen, *]))))
    ·have hnd:¬ (x.map (·.nm)).Nodup:=fun hh=>h (HPL.out.2 hh)
     have hr:=HRD.out
     rw[if_pos hnd]at hr
     (first|refine W_ret res27 hQ ?_|refine W_norm res27 hQ ?_|refine G_pan hQ ?_)
     rw[hr]
     exact⟨_,t,Wk.refl _,Fg.setA (Fg.setA ((Fg.own ho).trans HF.out) (HF.out.free hSm)) (HF.out.free hSp),fun _=>⟨rfl,rfl⟩,fun h=>absurd h (by decide)⟩
    ·have hnd:(x.map (·.nm)).Nodup:=HPL.out.1 (of_eq_true h)
     have hr:=HRD.out
     rw[if_neg (by simpa using hnd)]at hr
     (first|refine W_ret res27 hQ ?_|refine W_norm res27 hQ ?_|refine G_pan hQ ?_)
     rw[hr]
     refine⟨_,_,Wk.refl _,Fg.refl _,fun h=>absurd rfl h,fun _=>⟨bp,bm,rfl,⟨St.set_same _ _ _,?_⟩,?_⟩⟩
     ·rw[St.set_other _ _ n4,St.set_same,putC_eq hnd]
     ·exact Fg.setA (Fg.setA ((Fg.own ho).trans HF.out) (HF.out.free hSm)) (HF.out.free hSp)
def ownV (c:Cls)(n:List UInt8):VV:=match ownI c n with
 |none=>.tup [.int .i64 0,.raw (.pointer none)]
 |some j=>match c.mths[j]? with|none=>.tup [.int .i64 0,.raw (.pointer none)]|some m=>.tup [.int .i64 j,.eptr (mthC m)]
def ixZM (n:List UInt8)(ms:List Mth)(i:Nat):Int:=match ixT n ((ms.drop i).map (·.nm))with|some k=>((k+i:Nat):Int)|none=>-1
theorem ixZM_end {n:List UInt8}{ms:List Mth}:ixZM n ms ms.length=-1:=by unfold ixZM;rw[List.drop_length];rfl
theorem ixZM_at {n:List UInt8}{ms:List Mth}{i:Nat}{c:Mth}(h:ms[i]?=some c):ixZM n ms i=if n=c.nm then(i:Int)else ixZM n ms (i+1):=by
 have hlt:i<ms.length:=(List.getElem?_eq_some_iff.1 h).1
 have hc:ms[i]=c:=by rw[List.getElem?_eq_getElem hlt]at h;injection h
 unfold ixZM
 rw[List.drop_eq_getElem_cons hlt,hc,List.map_cons]
 simp only[ixT]
 by_cases e:n=c.nm
 ·rw[if_pos e,if_pos e];simp
 ·rw[if_neg e,if_neg e]
  cases ixT n ((ms.drop (i+1)).map (·.nm))with
  |none=>rfl
  |some k=>simp only[Option.map_some];congr 1;omega
theorem mthC_at16 {l:List Mth}{i:Nat}{x:Mth}(h:l[i]?=some x):(l.map mthC)[i]?=some (mthC x):=by rw[List.getElem?_map,h];rfl
theorem Cown1_S (t:St)(b:Nat)(n:List UInt8)(m:Mth)(hb:t b=.obj 9 [.str n]):SRet Tryz.prog 55 [.agg (mthC m),.ptr b 0] t (.bool (decide (m.nm=n))) t:=by
 have hbf:t b≠.free:=by rw[hb];simp
 obtain⟨ms,mn,mp,mb⟩:=m
 simp only[mthC]
 refine G_enter Tryz.func55 rfl Tryz.ntmps55 rfl fun Q hQ hQe=>?_
 (repeat'(first|refine Ctl ?_|((with_reducible refine Kof.use hK ?_);clear hK hE K E)|((with_reducible refine Eof.use hE ?_);(try clear hK hE K E))|((with_reducible refine W_cond (fun h=>?_) (fun h=>?_))<;>(try(exfalso;first|assumption|omega)))|((first|(with_reducible first|refine G_region fun K E hK hE=>?_|refine W_if ?_|refine W_ifS ?_|refine W_and ?_)|((with_reducible refine W_fresh (fun b hb=>?_));(repeat(obtain⟨_,hb⟩:=hb));(try(obtain⟨_,_⟩:=nef hb hbf))))<;>(try simp(disch:=first|assumption|omega) only[go_sem,seval,strsV,stsV, *]))))
 all_goals(first|refine W_ret res55 hQ ?_|refine W_norm res55 hQ ?_|refine G_pan hQ ?_)
 all_goals(refine⟨_,_,Wk.of_eq ?_,?_,rfl,rfl⟩)
 all_goals first|rfl|(exact z_fg)
set_option maxHeartbeats 4000000 in
theorem CidxM_S (t:St)(b:Nat)(n:List UInt8)(ms:List Mth)(hb:t b=.obj 9 [.str n])(hl:ms.length≤140737488355328):SRet Tryz.prog 54 [.lst (ms.map mthC) .no,.fn 55 [.ptr b 0]] t (.int .i64 (ixZM n ms 0)) t:=by
 have hlen:(ms.map mthC).length=ms.length:=by simp
 generalize hR:ixZM n ms 0=R
 have HR:=Lib.hid hR
 clear hR
 refine G_enter Tryz.func54 rfl Tryz.ntmps54 rfl fun Q hQ hQe=>?_
 (repeat'(first|refine Ctl ?_|((with_reducible refine Kof.use hK ?_);clear hK hE K E)|((with_reducible refine Eof.use hE ?_);(try clear hK hE K E))|((with_reducible refine W_cond (fun h=>?_) (fun h=>?_))<;>(try(exfalso;first|assumption|omega)))|((first|(with_reducible first|refine G_region fun K E hK hE=>?_|refine W_if ?_|refine W_ifS ?_|refine W_and ?_))<;>(try simp(disch:=first|assumption|omega) only[go_sem,seval,hlen, *]))))
 refine G_loop (fun m env s'=>∃i:Nat,i≤ms.length∧m+i=ms.length∧s'=t∧Hid (ixZM n ms i=R)∧env 0=.lst (ms.map mthC) .no∧env 1=.fn 55 [.ptr b 0]∧env 7=.int .i64 ms.length∧env 8=.int .i64 i) ms.length ?_ ?_
 ·exact⟨_,Fg.refl _,0,by omega,by omega,rfl,HR,z_sl,z_sl,z_sl,z_sl⟩
 clear HR
 rintro m env s' ⟨i,hi,hm,rfl,HE,e0,e1,e7,e8⟩
 by_cases hlt:i<ms.length
 ·obtain⟨c,hc⟩:=uget hlt
  have hsx:=mthC_at16 hc
  have hE:=HE.out
  rw[ixZM_at hc]at hE
  have w1:=Cown1_S s' b n c hb
  obtain⟨cs,cn,cp,cb⟩:=c
  simp only[mthC,strsV,stsV]at hE w1
  clear hc HE
  by_cases hcn:cn=n
  ·subst hcn
   rw[if_pos rfl]at hE
   have HE:=Lib.hid hE
   clear hE
   (repeat'(first|refine Ctl ?_|((with_reducible refine Kof.use hK ?_);clear hK hE K E)|((with_reducible refine Eof.use hE ?_);(try clear hK hE K E))|((with_reducible refine W_cond (fun h=>?_) (fun h=>?_))<;>(try(exfalso;first|assumption|omega)))|((first|(with_reducible first|refine G_region fun K E hK hE=>?_|refine call_ret can55 (w1) ?_|refine W_if ?_|refine W_ifS ?_|refine W_and ?_))<;>(try simp(disch:=first|assumption|omega) only[go_sem,seval,hlen,hsx,mthC,strsV,stsV, *]))))
   all_goals(first|refine W_ret res54 hQ ?_|refine W_norm res54 hQ ?_|refine G_pan hQ ?_)
   all_goals(refine⟨_,_,Wk.of_eq ?_,?_,rfl,rfl⟩)
   ·rw[show _=R from HE]
   ·(exact z_fg)
  ·rw[if_neg (fun h=>hcn h.symm)]at hE
   have HE:=Lib.hid hE
   have hcf:(cn=n)=False:=eq_false hcn
   clear hE
   (repeat'(first|refine Ctl ?_|((with_reducible refine Kof.use hK ?_);clear hK hE K E)|((with_reducible refine Eof.use hE ?_);(try clear hK hE K E))|((with_reducible refine W_cond (fun h=>?_) (fun h=>?_))<;>(try(exfalso;first|assumption|omega)))|((first|(with_reducible first|refine G_region fun K E hK hE=>?_|refine call_ret can55 (w1) ?_|refine W_if ?_|refine W_ifS ?_|refine W_and ?_))<;>(try simp(disch:=first|assumption|omega) only[go_sem,seval,hlen,hsx,mthC,strsV,stsV, *]))))
   exact⟨s',Fg.refl _,m - 1,by omega,i+1,by omega,by omega,rfl,HE,z_sl,z_sl,z_sl,z_sl⟩
 ·have hE:=HE.out
  rw[show i=ms.length by omega,ixZM_end]at hE
  have HE2:=Lib.hid hE
  clear hE HE
  (repeat'(first|refine Ctl ?_|((with_reducible refine Kof.use hK ?_);clear hK hE K E)|((with_reducible refine Eof.use hE ?_);(try clear hK hE K E))|((with_reducible refine W_cond (fun h=>?_) (fun h=>?_))<;>(try(exfalso;first|assumption|omega)))|((first|(with_reducible first|refine G_region fun K E hK hE=>?_|refine W_if ?_|refine W_ifS ?_|refine W_and ?_))<;>(try simp(disch:=first|assumption|omega) only[go_sem,seval,hlen, *]))))
  all_goals(first|refine W_ret res54 hQ ?_|refine W_norm res54 hQ ?_|refine G_pan hQ ?_)
  all_goals(refine⟨_,_,Wk.of_eq ?_,?_,rfl,rfl⟩)
  ·rw[show _=R from HE2]
  ·(exact z_fg)
end Go.Proofs.YtadbggfpnhkmbaaGreat
namespace Go.Proofs.YtadbggfpnhkmbaaGreat
open Go.RowKit
section
variable {P : Program} {N : Nat} {all : List Oper} {K : Env → St → Prop} {E : VV → Env → St → Prop} {d : Option Tmp} {rest : List Oper} {env : Env} {s : St} {T : TypeId} {cy : Bool} {cs : List VV} {w : Value}
theorem p_enil1:vbin P N all K E .eql T cy d rest env s (.eptr cs) (.raw w)=(cy=true∧vnl P N all K E d rest env s false (nilB (qi P T).k (.eptr cs) (.raw w))):=rfl
theorem p_enil2:vbin P N all K E .neq T cy d rest env s (.eptr cs) (.raw w)=(cy=true∧vnl P N all K E d rest env s true (nilB (qi P T).k (.eptr cs) (.raw w))):=rfl
theorem p_nilE:nilB .ptr (.eptr cs) (.raw (.pointer none))=some false:=rfl
end
theorem SrcAt.fg {u t:St}{p bm:Nat}{x:List Cls}(h:SrcAt t p bm x)(hf:Fg u t):SrcAt u p bm x:=by
 obtain⟨h1,h2⟩:=h
 have k1:u p=t p:=((hf p).resolve_left (by rw[h1];simp)).symm
 have k2:u bm=t bm:=((hf bm).resolve_left (by rw[h2];simp)).symm
 exact⟨k1.trans h1,k2.trans h2⟩
theorem atA16_lk {x:List Cls}(n:List UInt8):lkA n (atA16 x)=Option.map (fun i:Nat=>(i:Int)) (atC x n):=by
 unfold atA16 atC
 rw[lkA_pairs]
 cases h:ixT n (x.map (·.nm))with
 |none=>rfl
 |some j=>
  have:=ixT_lt h
  rw[List.getElem?_map]at this
  obtain⟨c,hc,_⟩:=Option.map_eq_some_iff.1 this
  simp[hc]
theorem ownI_ix {c:Cls}{n:List UInt8}:ixZM n c.mths 0=match ownI c n with|some k=>(k:Int)|none=>-1:=by
 unfold ixZM ownI;rw[List.drop_zero];rfl
theorem ownI_get {c:Cls}{n:List UInt8}{j:Nat}(h:ownI c n=some j):∃m,c.mths[j]?=some m∧m.nm=n:=by
 have:=ixT_lt (show ixT n (c.mths.map (·.nm))=some j from h)
 rw[List.getElem?_map]at this
 obtain⟨m,h1,h2⟩:=Option.map_eq_some_iff.1 this
 exact⟨m,h1,h2⟩
set_option maxHeartbeats 4000000 in
theorem Cown_S (t:St)(p bm k:Nat)(x:List Cls)(c:Cls)(n:List UInt8)(hS:SrcAt t p bm x)(hk:x[k]?=some c)(hl:c.mths.length≤140737488355328):SRet Tryz.prog 32 [.ptr p 0,.int .i64 k,.str n] t (ownV c n) t:=by
 obtain⟨h1,h2⟩:=hS
 have hpf:t p≠.free:=by rw[h1];simp
 have hlen:(x.map clsC).length=x.length:=by simp
 have hsx:=clsC_at hk
 have hkl:=(List.getElem?_eq_some_iff.1 hk).1
 have w1:=fun s b (hb:s b=.obj 9 [.str n])=>CidxM_S s b n c.mths hb hl
 rw[ownI_ix]at w1
 unfold ownV
 clear hk h2
 cases ho:ownI c n with
 |none=>
  rw[ho]at w1
  simp only at w1 ⊢
  clear ho
  obtain⟨cn,cp,cm⟩:=c
  simp only at w1
  refine G_enter Tryz.func32 rfl Tryz.ntmps32 rfl fun Q hQ hQe=>?_
  (repeat'(first|refine Ctl ?_|((with_reducible refine Kof.use hK ?_);clear hK hE K E)|((with_reducible refine Eof.use hE ?_);(try clear hK hE K E))|((with_reducible refine Kof.use hKh ?_);clear hKh Kh)|((with_reducible refine Kof.use hKb (P_next ?_));clear hKb Kb)|(with_reducible refine G_plan 5 [] [0,1,2,3,4,5,6] hQe fun K E hK hE=>?_)|((with_reducible refine W_cond (fun h=>?_) (fun h=>?_))<;>(try(exfalso;first|assumption|omega)))|((first|(with_reducible first|refine G_region fun K E hK hE=>?_|refine call_ret can54 (w1 _ _ (by simp(disch:=first|assumption|omega) only[go_sem,seval, *])) ?_|refine W_if ?_|refine W_ifS ?_|refine P_heads fun Kh hKh=>?_|refine P_fin fun Kh hKh=>?_|refine P_each fun Kb hKb=>?_|refine W_and ?_)|((with_reducible refine W_fresh (fun b hb=>?_));(repeat(obtain⟨_,hb⟩:=hb));(try(obtain⟨_,_⟩:=nef hb hpf))))<;>(try simp(disch:=first|assumption|omega) only[go_sem,seval,hlen,hsx,clsC, *]))))
  all_goals(first|refine W_ret res32 hQ ?_|refine W_norm res32 hQ ?_|refine G_pan hQ ?_)
  all_goals(refine⟨_,_,Wk.of_eq ?_,?_,rfl,rfl⟩)
  all_goals first|rfl|(exact z_fg)
 |some j=>
  obtain⟨m,hm,_⟩:=ownI_get ho
  rw[ho]at w1
  simp only[hm]at w1 ⊢
  have hmm:=mthC_at16 hm
  have hm4:(mthC m).length=4:=rfl
  have hml:(c.mths.map mthC).length=c.mths.length:=by simp
  have hjl:=(List.getElem?_eq_some_iff.1 hm).1
  clear ho hm
  obtain⟨cn,cp,cm⟩:=c
  simp only at w1 hmm hml hjl
  refine G_enter Tryz.func32 rfl Tryz.ntmps32 rfl fun Q hQ hQe=>?_
  (repeat'(first|refine Ctl ?_|((with_reducible refine Kof.use hK ?_);clear hK hE K E)|((with_reducible refine Eof.use hE ?_);(try clear hK hE K E))|((with_reducible refine Kof.use hKh ?_);clear hKh Kh)|((with_reducible refine Kof.use hKb (P_next ?_));clear hKb Kb)|(with_reducible refine G_plan 5 [] [0,1,2,3,4,5,6] hQe fun K E hK hE=>?_)|((with_reducible refine W_cond (fun h=>?_) (fun h=>?_))<;>(try(exfalso;first|assumption|omega)))|((first|(with_reducible first|refine G_region fun K E hK hE=>?_|refine call_ret can54 (w1 _ _ (by simp(disch:=first|assumption|omega) only[go_sem,seval, *])) ?_|refine W_if ?_|refine W_ifS ?_|refine P_heads fun Kh hKh=>?_|refine P_fin fun Kh hKh=>?_|refine P_each fun Kb hKb=>?_|refine W_and ?_)|((with_reducible refine W_fresh (fun b hb=>?_));(repeat(obtain⟨_,hb⟩:=hb));(try(obtain⟨_,_⟩:=nef hb hpf))))<;>(try simp(disch:=first|assumption|omega) only[go_sem,seval,hlen,hsx,clsC,hmm,hml,hm4, *]))))
  all_goals(first|refine W_ret res32 hQ ?_|refine W_norm res32 hQ ?_|refine G_pan hQ ?_)
  all_goals(refine⟨_,_,Wk.of_eq ?_,?_,rfl,rfl⟩)
  all_goals first|rfl|(exact z_fg)
def upRun {A:Type}(x:List Cls)(f:A→Nat→A×Bool):Nat→A→List UInt8→A×Bool
 |0,a,_=>(a,false)
 |k+1,a,n=>if n=[] then(a,true)else match atC x n with
  |none=>(a,false)
  |some i=>if (f a i).2=true then upRun x f k (f a i).1 ((x[i]?.map (·.par)).getD [])else((f a i).1,true)
set_option maxHeartbeats 4000000 in
theorem Cup_S {A:Type}(x:List Cls)(p bm:Nat)(g:FuncId)(caps:List VV)(S:A→St)(f:A→Nat→A×Bool)(canG:Callable Tryz.prog g)(hS:∀a,SrcAt (S a) p bm x)
  (hcl:∀a (i:Nat),i<x.length→SRet Tryz.prog g (.int .i64 i::caps) (S a) (.bool (f a i).2) (S (f a i).1)) (hx:x.length≤100000) (a0:A) (n:List UInt8) :
  SRet Tryz.prog 28 [.ptr p 0,.str n,.fn g caps] (S a0) (.bool (upRun x f (x.length+1) a0 n).2) (S (upRun x f (x.length+1) a0 n).1):=by
 have hlen:(x.map clsC).length=x.length:=by simp
 have hSa:=fun a=>(hS a).1
 have hSb:=fun a=>(hS a).2
 have HCL:=Lib.hid hcl
 generalize hR:upRun x f (x.length+1) a0 n=R
 have HR:=Lib.hid hR
 clear hR hS hcl
 have h1:=hSa a0
 have h2:=hSb a0
 have hpf:S a0 p≠.free:=by rw[h1];simp
 refine G_enter Tryz.func28 rfl Tryz.ntmps28 rfl fun Q hQ hQe=>?_
 (repeat'(first|refine Ctl ?_|((with_reducible refine Kof.use hK ?_);clear hK hE K E)|((with_reducible refine Eof.use hE ?_);(try clear hK hE K E))|((with_reducible refine W_cond (fun h=>?_) (fun h=>?_))<;>(try(exfalso;first|assumption|omega)))|((first|(with_reducible first|refine G_region fun K E hK hE=>?_|refine W_if ?_|refine W_ifS ?_|refine W_and ?_))<;>(try simp(disch:=first|assumption|omega) only[go_sem,seval,hlen, *]))))
 refine G_loop (fun m env s'=>∃(i:Nat) (a:A) (nm:List UInt8),i≤x.length+1∧m+i=x.length+1∧s'=S a∧Hid (upRun x f (x.length+1 - i) a nm=R)∧env 0=.ptr p 0∧env 1=.str nm∧env 2=.fn g caps∧env 15=.int .i64 ((x.length+1:Nat):Int)∧env 16=.int .i64 i) (x.length+1) ?_ ?_
 ·exact⟨_,Fg.refl _,0,a0,n,by omega,by omega,rfl,HR,z_sl,z_sl,z_sl,z_sl,z_sl⟩
 clear HR h1 h2 hpf
 rintro m env s' ⟨i,a,nm,hi,hm,rfl,HU,e0,e1,e2,e15,e16⟩
 have h1:=hSa a
 have h2:=hSb a
 have hpf:S a p≠.free:=by rw[h1];simp
 by_cases hlt:i<x.length+1
 ·have hU:=HU.out
  rw[show x.length+1 - i=(x.length+1 - (i+1))+1 by omega]at hU
  simp only[upRun]at hU
  clear HU
  by_cases hnm:nm=[]
  ·rw[if_pos hnm]at hU
   subst hnm
   subst hU
   (repeat'(first|refine Ctl ?_|((with_reducible refine Kof.use hK ?_);clear hK hE K E)|((with_reducible refine Eof.use hE ?_);(try clear hK hE K E))|((with_reducible refine W_cond (fun h=>?_) (fun h=>?_))<;>(try(exfalso;first|assumption|omega)))|((first|(with_reducible first|refine G_region fun K E hK hE=>?_|refine W_if ?_|refine W_ifS ?_|refine W_and ?_))<;>(try simp(disch:=first|assumption|omega) only[go_sem,seval,hlen, *]))))
   all_goals(first|refine W_ret res28 hQ ?_|refine W_norm res28 hQ ?_|refine G_pan hQ ?_)
   all_goals exact⟨_,_,Wk.refl _,Fg.refl _,rfl,rfl⟩
  ·rw[if_neg hnm]at hU
   have hlk:=atA16_lk (x:=x) nm
   have hnf:(nm=[])=False:=eq_false hnm
   cases hat:atC x nm with
   |none=>
    rw[hat]at hU hlk
    simp only[Option.map_none]at hU hlk
    subst hU
    (repeat'(first|refine Ctl ?_|((with_reducible refine Kof.use hK ?_);clear hK hE K E)|((with_reducible refine Eof.use hE ?_);(try clear hK hE K E))|((with_reducible refine W_cond (fun h=>?_) (fun h=>?_))<;>(try(exfalso;first|assumption|omega)))|((first|(with_reducible first|refine G_region fun K E hK hE=>?_|refine W_if ?_|refine W_ifS ?_|refine W_and ?_))<;>(try simp(disch:=first|assumption|omega) only[go_sem,seval,hlen,hlk,Option.getD_none,Option.isSome_none, *]))))
    all_goals(first|refine W_ret res28 hQ ?_|refine W_norm res28 hQ ?_|refine G_pan hQ ?_)
    all_goals exact⟨_,_,Wk.refl _,Fg.refl _,rfl,rfl⟩
   |some k=>
    obtain⟨c,hc,_⟩:=atC_get hat
    rw[hat]at hU hlk
    simp only[Option.map_some,hc,Option.getD_some]at hU hlk
    have hsx:=clsC_at hc
    have hkl:=(List.getElem?_eq_some_iff.1 hc).1
    have w1:=HCL.out a k hkl
    clear hat hc
    cases hgo:(f a k).2 with
    |false=>
     rw[hgo]at hU w1
     simp only[Bool.false_eq_true,if_false]at hU
     subst hU
     (repeat'(first|refine Ctl ?_|((with_reducible refine Kof.use hK ?_);clear hK hE K E)|((with_reducible refine Eof.use hE ?_);(try clear hK hE K E))|((with_reducible refine W_cond (fun h=>?_) (fun h=>?_))<;>(try(exfalso;first|assumption|omega)))|((first|(with_reducible first|refine G_region fun K E hK hE=>?_|refine call_ret canG (w1) ?_|refine W_if ?_|refine W_ifS ?_|refine W_and ?_))<;>(try simp(disch:=first|assumption|omega) only[go_sem,seval,hlen,hlk,Option.getD_some,Option.isSome_some, *]))))
     all_goals(first|refine W_ret res28 hQ ?_|refine W_norm res28 hQ ?_|refine G_pan hQ ?_)
     all_goals exact⟨_,_,Wk.refl _,Fg.refl _,rfl,rfl⟩
    |true=>
     rw[hgo]at hU w1
     simp only[if_true]at hU
     have HU:=Lib.hid hU
     have h3:=hSa (f a k).1
     clear hU
     generalize (f a k).1=a' at *
     clear hgo
     obtain⟨cn,cp,cm⟩:=c
     (repeat'(first|refine Ctl ?_|((with_reducible refine Kof.use hK ?_);clear hK hE K E)|((with_reducible refine Eof.use hE ?_);(try clear hK hE K E))|((with_reducible refine W_cond (fun h=>?_) (fun h=>?_))<;>(try(exfalso;first|assumption|omega)))|((first|(with_reducible first|refine G_region fun K E hK hE=>?_|refine call_ret canG (w1) ?_|refine W_if ?_|refine W_ifS ?_|refine W_and ?_))<;>(try simp(disch:=first|assumption|omega) only[go_sem,seval,hlen,hsx,clsC,hlk,Option.getD_some,Option.isSome_some, *]))))
     exact⟨_,Fg.refl _,m - 1,by omega,i+1,a',cp,by omega,by omega,rfl,HU,z_sl,z_sl,z_sl,z_sl,z_sl⟩
 ·have hU:=HU.out
  rw[show x.length+1 - i=0 by omega]at hU
  simp only[upRun]at hU
  subst hU
  clear HU
  (repeat'(first|refine Ctl ?_|((with_reducible refine Kof.use hK ?_);clear hK hE K E)|((with_reducible refine Eof.use hE ?_);(try clear hK hE K E))|((with_reducible refine W_cond (fun h=>?_) (fun h=>?_))<;>(try(exfalso;first|assumption|omega)))|((first|(with_reducible first|refine G_region fun K E hK hE=>?_|refine W_if ?_|refine W_ifS ?_|refine W_and ?_))<;>(try simp(disch:=first|assumption|omega) only[go_sem,seval,hlen, *]))))
  all_goals(first|refine W_ret res28 hQ ?_|refine W_norm res28 hQ ?_|refine G_pan hQ ?_)
  all_goals exact⟨_,_,Wk.refl _,Fg.refl _,rfl,rfl⟩
attribute [local go_sem] p_enil1 p_enil2 p_nilE
theorem Cr1_S (i:Int)(t:St):SRet Tryz.prog 29 [.int .i64 i] t (.bool true) t:=by
 refine G_enter Tryz.func29 rfl Tryz.ntmps29 rfl fun Q hQ hQe=>?_
 (repeat'(first|refine Ctl ?_|((with_reducible refine Kof.use hK ?_);clear hK hE K E)|((with_reducible refine Eof.use hE ?_);(try clear hK hE K E))|((with_reducible refine W_cond (fun h=>?_) (fun h=>?_))<;>(try(exfalso;first|assumption|omega)))|((first|(with_reducible first|refine G_region fun K E hK hE=>?_|refine W_if ?_|refine W_ifS ?_|refine W_and ?_))<;>(try simp(disch:=first|assumption|omega) only[go_sem,seval, *]))))
 all_goals(first|refine W_ret res29 hQ ?_|refine W_norm res29 hQ ?_|refine G_pan hQ ?_)
 all_goals(refine⟨_,_,Wk.of_eq ?_,?_,rfl,rfl⟩)
 all_goals first|rfl|(exact z_fg)
theorem upRun_all {x:List Cls}:∀(f:Nat) (n:List UInt8),(upRun x (fun(a:Unit) (_:Nat)=>(a,true)) f () n).2=(chainN x f n).2
 |0,_=>rfl
 |f+1,n=>by
  simp only[upRun,chainN]
  by_cases h0:n=[]
  ·rw[if_pos h0,if_pos h0]
  ·rw[if_neg h0,if_neg h0]
   cases ha:atC x n with
   |none=>rfl
   |some k=>simp only[if_true];exact upRun_all f _
def lkN (a:Option (Nat×Mth)):VV:=match a with|some r=>.int .i64 (r.1:Int)|none=>.int .i64 0
def lkP (a:Option (Nat×Mth)):VV:=match a with|some r=>.eptr (mthC r.2)|none=>.raw (.pointer none)
def lkS (B:St)(b8 b9:Nat)(a:Option (Nat×Mth)):St:=(B.set b8 (.obj 3 [lkN a])).set b9 (.obj 105 [lkP a])
def lkF (x:List Cls)(n:List UInt8)(st:Bool)(a:Option (Nat×Mth))(i:Nat):Option (Nat×Mth)×Bool:=match hitN x n st i with|some r=>(some r,false)|none=>(a,a.isNone)
theorem upRun_first {x:List Cls}{n:List UInt8}{st:Bool}:∀(f:Nat) (nm:List UInt8),(upRun x (lkF x n st) f none nm).1=firstN x n st (chainN x f nm).1
 |0,_=>rfl
 |f+1,nm=>by
  simp only[upRun,chainN]
  by_cases h0:nm=[]
  ·rw[if_pos h0,if_pos h0];rfl
  ·rw[if_neg h0,if_neg h0]
   cases ha:atC x nm with
   |none=>rfl
   |some k=>
    simp only[firstN]
    unfold lkF
    cases hh:hitN x n st k with
    |some r=>simp
    |none=>simp only[Option.isNone_none,if_true];exact upRun_first f _
theorem lkS_fg {B:St}{b8 b9:Nat}(h8:B b8=.free)(h9:B b9=.free)(a:Option (Nat×Mth)):Fg (lkS B b8 b9 a) B:=Fg.setA (Fg.of_set _ h8) h9
theorem lkS_get {B:St}{b8 b9 b:Nat}(h8:B b8=.free)(h9:B b9=.free)(hb:B b≠.free)(a:Option (Nat×Mth)):lkS B b8 b9 a b=B b:=by
 unfold lkS
 rw[St.set_other _ _ (nef h9 hb).1,St.set_other _ _ (nef h8 hb).1]
theorem lkS_8 {B:St}{b8 b9:Nat}(h89:¬ b8=b9)(a:Option (Nat×Mth)):lkS B b8 b9 a b8=.obj 3 [lkN a]:=by unfold lkS;rw[St.set_other _ _ h89,St.set_same]
theorem lkS_9 {B:St}{b8 b9:Nat}(a:Option (Nat×Mth)):lkS B b8 b9 a b9=.obj 105 [lkP a]:=St.set_same _ _ _
theorem lkS_put {B:St}{b8 b9:Nat}(h89:¬ b8=b9)(a a':Option (Nat×Mth)):((lkS B b8 b9 a).set b8 (.obj 3 [lkN a'])).set b9 (.obj 105 [lkP a'])=lkS B b8 b9 a':=by
 unfold lkS
 rw[set_comm' (x:=b9) (y:=b8) (fun e=>h89 e.symm),St.set_set,St.set_set]
set_option maxHeartbeats 4000000 in
theorem Clk1_S (B:St)(p bm b4 b6 b7 b8 b9:Nat)(x:List Cls)(n:List UInt8)(st:Bool)(hS:SrcAt B p bm x)(h4:B b4=.obj 76 [.ptr p 0])(h6:B b6=.obj 9 [.str n])(h7:B b7=.obj 4 [.bool st])
  (h8:B b8=.free) (h9:B b9=.free) (h89:¬ b8=b9) (hx:x.length≤100000) (hl:∀c,c∈x→c.mths.length≤100000) (hst:∀i,i<x.length→startN x i≤100000) (a:Option (Nat×Mth)) (i:Nat) (hi:i<x.length) :
  SRet Tryz.prog 83 [.int .i64 i,.ptr b4 0,.ptr b6 0,.ptr b7 0,.ptr b8 0,.ptr b9 0] (lkS B b8 b9 a) (.bool (lkF x n st a i).2) (lkS B b8 b9 (lkF x n st a i).1):=by
 obtain⟨c,hc⟩:=uget hi
 have hcl:=hl c (List.mem_of_getElem? hc)
 have hst1:=hst i hi
 have hsl:=stL_at (x:=x) hi
 have hsll:=stL_len (x:=x) (i:=x.length)
 have hpf:B p≠.free:=by rw[hS.1];simp
 have hSp:=(lkS_get h8 h9 hpf a).trans hS.1
 have hS4:=(lkS_get h8 h9 (b:=b4) (by rw[h4];simp) a).trans h4
 have hS6:=(lkS_get h8 h9 (b:=b6) (by rw[h6];simp) a).trans h6
 have hS7:=(lkS_get h8 h9 (b:=b7) (by rw[h7];simp) a).trans h7
 have hS8:=lkS_8 (B:=B) h89 a
 have hS9:=lkS_9 (B:=B) (b8:=b8) (b9:=b9) a
 have w1:=Cown_S (lkS B b8 b9 a) p bm i x c n (hS.fg (lkS_fg h8 h9 a)) hc (by omega)
 have hput:=lkS_put (B:=B) h89 a
 have hne:¬ b9=b8:=fun e=>h89 e.symm
 have n48:¬ b4=b8:=(nef h8 (by rw[h4];simp)).1
 have n49:¬ b4=b9:=(nef h9 (by rw[h4];simp)).1
 have n8p:¬ p=b8:=(nef h8 hpf).1
 have n9p:¬ p=b9:=(nef h9 hpf).1
 generalize hF:lkF x n st a i=F
 unfold lkF hitN at hF
 simp only[hc]at hF
 unfold ownV at w1
 generalize hSe:lkS B b8 b9 a=S at *
 have HSE:=Lib.hid hSe
 have HPUT:=Lib.hid hput
 clear hSe hput
 clear hS h4 h6 h7 h8 h9 hl hst hc hpf
 cases ho:ownI c n with
 |none=>
  rw[ho]at w1 hF
  simp only at w1 hF
  subst hF
  cases a<;>simp only[lkN,lkP]at hS8 hS9
  all_goals
   refine G_enter Tryz.func83 rfl Tryz.ntmps83 rfl fun Q hQ hQe=>?_
   (repeat'(first|refine Ctl ?_|((with_reducible refine Kof.use hK ?_);clear hK hE K E)|((with_reducible refine Eof.use hE ?_);(try clear hK hE K E))|((with_reducible refine Kof.use hKh ?_);clear hKh Kh)|((with_reducible refine Kof.use hKb (P_next ?_));clear hKb Kb)|(with_reducible refine G_plan 2 [] [0,1,2,3,4,5,6,7,8,9] hQe fun K E hK hE=>?_)|((with_reducible refine W_cond (fun h=>?_) (fun h=>?_))<;>(try(exfalso;first|assumption|omega)))|((first|(with_reducible first|refine G_region fun K E hK hE=>?_|refine call_ret can32 (w1) ?_|refine W_if ?_|refine W_ifS ?_|refine P_heads fun Kh hKh=>?_|refine P_fin fun Kh hKh=>?_|refine P_each fun Kb hKb=>?_|refine W_and ?_)|((with_reducible refine W_gd (fun h=>?_) (fun h=>?_))<;>(try(exfalso;first|assumption|omega))))<;>(try simp(disch:=first|assumption|omega) only[go_sem,seval, *]))))
  all_goals(first|refine W_ret res83 hQ ?_|refine W_norm res83 hQ ?_|refine G_pan hQ ?_)
  all_goals(refine⟨_,_,Wk.of_eq ?_,?_,rfl,rfl⟩)
  ·rfl
  ·simp only;rw[HSE.out];exact Fg.refl _
  ·rfl
  ·simp only;rw[HSE.out];exact Fg.refl _
 |some j=>
  obtain⟨m,hm,hmn⟩:=ownI_get ho
  have hjl:=(List.getElem?_eq_some_iff.1 hm).1
  rw[ho]at w1 hF
  simp only[hm]at w1 hF
  have hp2:=HPUT.out (some (startN x i+j,m))
  obtain⟨ms,mn,mp,mb⟩:=m
  simp only[mthC,strsV,stsV,lkN,lkP]at w1 hp2
  simp only at hF
  have HP2:=Lib.hid hp2
  clear hm ho hmn hp2
  cases ms<;>cases st
  all_goals
   first
    |rw[if_pos rfl]at hF
    |rw[if_neg (by decide)]at hF
   subst hF
   cases a<;>simp only[lkN,lkP]at hS8 hS9
  all_goals
   refine G_enter Tryz.func83 rfl Tryz.ntmps83 rfl fun Q hQ hQe=>?_
   (repeat'(first|refine Ctl ?_|((with_reducible refine Kof.use hK ?_);clear hK hE K E)|((with_reducible refine Eof.use hE ?_);(try clear hK hE K E))|((with_reducible refine Kof.use hKh ?_);clear hKh Kh)|((with_reducible refine Kof.use hKb (P_next ?_));clear hKb Kb)|(with_reducible refine G_plan 2 [] [0,1,2,3,4,5,6,7,8,9] hQe fun K E hK hE=>?_)|((with_reducible refine W_cond (fun h=>?_) (fun h=>?_))<;>(try(exfalso;first|assumption|omega)))|((first|(with_reducible first|refine G_region fun K E hK hE=>?_|refine call_ret can32 (w1) ?_|refine W_if ?_|refine W_ifS ?_|refine P_heads fun Kh hKh=>?_|refine P_fin fun Kh hKh=>?_|refine P_each fun Kb hKb=>?_|refine W_and ?_)|((with_reducible refine W_gd (fun h=>?_) (fun h=>?_))<;>(try(exfalso;first|assumption|omega))))<;>(try simp(disch:=first|assumption|omega) only[go_sem,seval,hsl,hsll, *]))))
  all_goals(first|refine W_ret res83 hQ ?_|refine W_norm res83 hQ ?_|refine G_pan hQ ?_)
  all_goals(refine⟨_,_,Wk.of_eq ?_,?_,rfl,rfl⟩)
  all_goals first
   |rfl
   |(simp only;rw[HSE.out];exact Fg.refl _)
   |(rw[HP2.out];exact Fg.refl _)
   |(exfalso;revert h;decide)
   |trace_state
end Go.Proofs.YtadbggfpnhkmbaaGreat
namespace Go.Proofs.YtadbggfpnhkmbaaGreat
open Go.RowKit
theorem one_nil:VV.one (.raw (.pointer none))=true:=by first|rfl|decide
attribute [local go_sem] p_enil1 p_enil2 p_nilE one_nil
theorem Clkup_S (p bm:Nat)(x:List Cls)(cls n:List UInt8)(st:Bool)(hx:x.length≤100000)(hl:∀c,c∈x→c.mths.length≤100000)(hst:∀i,i<x.length→startN x i≤100000)
  (B:St) (b4 b6 b7 b8 b9:Nat) (hS1:B p=.obj 104 [.lst (x.map clsC) .no,.mp bm,.lst (stL x x.length) .no]) (hS2:B bm=.map (mpV encI (atA16 x))) (h4:B b4=.obj 76 [.ptr p 0]) (h6:B b6=.obj 9 [.str n]) (h7:B b7=.obj 4 [.bool st])
  (h8:B b8=.free) (h9:B b9=.free) (h89:¬ b8=b9) :
  SRet Tryz.prog 28 [.ptr p 0,.str cls,.fn 83 [.ptr b4 0,.ptr b6 0,.ptr b7 0,.ptr b8 0,.ptr b9 0]]
   ((B.set b8 (.obj 3 [.int .i64 0])).set b9 (.obj 105 [.raw (.pointer none)]))
   (.bool (upRun x (lkF x n st) (x.length+1) none cls).2) ((B.set b8 (.obj 3 [lkN (lookN x cls n st)])).set b9 (.obj 105 [lkP (lookN x cls n st)])):=by
 have hS:SrcAt B p bm x:=⟨hS1,hS2⟩
 have h:=Cup_S x p bm 83 [.ptr b4 0,.ptr b6 0,.ptr b7 0,.ptr b8 0,.ptr b9 0] (lkS B b8 b9) (lkF x n st) can83 (fun a=>hS.fg (lkS_fg h8 h9 a))
  (fun a i hi=>Clk1_S B p bm b4 b6 b7 b8 b9 x n st hS h4 h6 h7 h8 h9 h89 hx hl hst a i hi) hx none cls
 rw[upRun_first]at h
 exact h
set_option maxHeartbeats 4000000 in
theorem Clook_S (t:St)(p bm:Nat)(x:List Cls)(cls n:List UInt8)(st:Bool)(hS:SrcAt t p bm x)(hx:x.length≤100000)(hl:∀c,c∈x→c.mths.length≤100000)(hst:∀i,i<x.length→startN x i≤100000) :
  SRet Tryz.prog 52 [.ptr p 0,.str cls,.str n,.bool st] t (.tup [lkN (lookN x cls n st),lkP (lookN x cls n st)]) t:=by
 have w1:=Clkup_S p bm x cls n st hx hl hst
 obtain⟨h1,h2⟩:=hS
 have hpf:t p≠.free:=by rw[h1];simp
 have hbf:t bm≠.free:=by rw[h2];simp
 generalize (upRun x (lkF x n st) (x.length+1) none cls).2=ub at w1
 clear hl hst
 cases hr:lookN x cls n st with
 |none=>
  rw[hr]at w1
  simp only[lkN,lkP]at w1 ⊢
  clear hr
  refine G_enter Tryz.func52 rfl Tryz.ntmps52 rfl fun Q hQ hQe=>?_
  (repeat'(first|refine Ctl ?_|((with_reducible refine Kof.use hK ?_);clear hK hE K E)|((with_reducible refine Eof.use hE ?_);(try clear hK hE K E))|((with_reducible refine Kof.use hKh ?_);clear hKh Kh)|((with_reducible refine Kof.use hKb (P_next ?_));clear hKb Kb)|(with_reducible refine G_plan 2 [([0,1],2,[[1]]),([],3,[[],[]])] [] hQe fun K E hK hE=>?_)|((with_reducible refine W_cond (fun h=>?_) (fun h=>?_))<;>(try(exfalso;first|assumption|omega)))|((first|(with_reducible first|refine G_region fun K E hK hE=>?_|refine call_ret can28 (w1 _ _ _ _ _ _ z_sl z_sl z_sl z_sl z_sl z_sl z_sl (by assumption)) ?_|refine W_if ?_|refine W_ifS ?_|refine P_heads fun Kh hKh=>?_|refine P_fin fun Kh hKh=>?_|refine P_each fun Kb hKb=>?_|refine W_and ?_)|((with_reducible refine W_fresh (fun b hb=>?_));(repeat(obtain⟨_,hb⟩:=hb));(try(obtain⟨_,_⟩:=nef hb hpf;obtain⟨_,_⟩:=nef hb hbf))))<;>(try simp(disch:=first|assumption|omega) only[go_sem,seval, *]))))
  all_goals(first|refine W_ret res52 hQ ?_|refine W_norm res52 hQ ?_|refine G_pan hQ ?_)
  all_goals(refine⟨_,_,Wk.of_eq ?_,?_,rfl,rfl⟩)
  all_goals first|rfl|(exact z_fg)|trace_state
 |some r=>
  rw[hr]at w1
  simp only[lkN,lkP]at w1 ⊢
  clear hr
  refine G_enter Tryz.func52 rfl Tryz.ntmps52 rfl fun Q hQ hQe=>?_
  (repeat'(first|refine Ctl ?_|((with_reducible refine Kof.use hK ?_);clear hK hE K E)|((with_reducible refine Eof.use hE ?_);(try clear hK hE K E))|((with_reducible refine Kof.use hKh ?_);clear hKh Kh)|((with_reducible refine Kof.use hKb (P_next ?_));clear hKb Kb)|(with_reducible refine G_plan 2 [([0,1],2,[[1]]),([],3,[[],[]])] [] hQe fun K E hK hE=>?_)|((with_reducible refine W_cond (fun h=>?_) (fun h=>?_))<;>(try(exfalso;first|assumption|omega)))|((first|(with_reducible first|refine G_region fun K E hK hE=>?_|refine call_ret can28 (w1 _ _ _ _ _ _ z_sl z_sl z_sl z_sl z_sl z_sl z_sl (by assumption)) ?_|refine W_if ?_|refine W_ifS ?_|refine P_heads fun Kh hKh=>?_|refine P_fin fun Kh hKh=>?_|refine P_each fun Kb hKb=>?_|refine W_and ?_)|((with_reducible refine W_fresh (fun b hb=>?_));(repeat(obtain⟨_,hb⟩:=hb));(try(obtain⟨_,_⟩:=nef hb hpf;obtain⟨_,_⟩:=nef hb hbf))))<;>(try simp(disch:=first|assumption|omega) only[go_sem,seval, *]))))
  all_goals(first|refine W_ret res52 hQ ?_|refine W_norm res52 hQ ?_|refine G_pan hQ ?_)
  all_goals(refine⟨_,_,Wk.of_eq ?_,?_,rfl,rfl⟩)
  all_goals first|rfl|(exact z_fg)|trace_state
theorem ixT_at0 {k:List UInt8}:∀{l:List (List UInt8)} {i:Nat},(∀y,y∈l.take i→¬ y=k)→l[i]?=some k→ixT k l=some i
 |[],i,_,h=>by simp at h
 |x::l,0,_,h=>by simp at h;subst h;simp[ixT]
 |x::l,i+1,ha,h=>by
  have h1:¬ k=x:=fun e=>ha x (by simp) e.symm
  simp only[ixT]
  rw[if_neg h1,ixT_at0 (l:=l) (i:=i) (fun z hz=>ha z (by simp[hz])) (by simpa using h)]
  rfl
def ixZ (k:List UInt8)(l:List (List UInt8)):Int:=match ixT k l with|some i=>(i:Int)|none=>-1
theorem ixZ_in (k:List UInt8)(l:List (List UInt8)):decide (0≤ixZ k l)=l.any fun a=>decide (a=k):=by
 unfold ixZ
 cases h:ixT k l with
 |none=>
  rw[ixT_none]at h
  have:(l.any fun a=>decide (a=k))=false:=by
   rw[List.any_eq_false];intro a ha;simp;intro e;subst e;exact h ha
  rw[this];rfl
 |some i=>
  have h2:=List.mem_of_getElem? (ixT_lt h)
  have:(l.any fun a=>decide (a=k))=true:=List.any_eq_true.2 ⟨k,h2,by simp⟩
  rw[this]
  simp
set_option maxHeartbeats 2000000 in
theorem ixS_S (l:List (List UInt8))(o:Own)(n:List UInt8)(hn:l.length≤9223372036854775000)(s:St):SRet Tryz.prog 48 [.lst (l.map strC) o,.str n] s (.int .i64 (ixZ n l)) s:=by
 have hsl:(l.map strC).length=l.length:=by simp
 refine G_enter Tryz.func48 rfl Tryz.ntmps48 rfl fun Q hQ hQe=>?_
 (repeat'(first|refine Ctl ?_|((with_reducible refine Kof.use hK ?_);clear hK hE K E)|((with_reducible refine Eof.use hE ?_);(try clear hK hE K E))|((with_reducible refine W_cond (fun h=>?_) (fun h=>?_))<;>(try(exfalso;first|assumption|omega)))|((first|(with_reducible first|refine G_region fun K E hK hE=>?_|refine W_if ?_|refine W_ifS ?_|refine W_and ?_))<;>(try simp(disch:=first|assumption|omega) only[go_sem,seval,hsl, *]))))
 refine L_loop (fun m env s'=>∃(i:Nat),i≤l.length∧m+i=l.length∧(∀x,x∈l.take i→¬ x=n)∧s'=s∧env 0=.lst (l.map strC) o∧env 1=.str n∧env 7=.int .i64 l.length∧env 8=.int .i64 i) l.length
  ⟨0,by omega,by omega,by simp,rfl,z_sl,z_sl,z_sl,z_sl⟩ ?_
 rintro m env s' ⟨i,hi,hm,hall,rfl,e0,e1,e7,e8⟩
 by_cases hlt:i<l.length
 ·obtain⟨x,hx⟩:∃x,l[i]?=some x:=⟨_,List.getElem?_eq_getElem hlt⟩
  have hsx:(l.map strC)[i]?=some [.str x]:=by simp[strC,hx]
  have htake:l.take (i+1)=l.take i++[x]:=by rw[List.take_add_one,hx];rfl
  by_cases hnx:x=n
  ·subst hnx
   have hres:ixZ x l=i:=by unfold ixZ;rw[ixT_at0 hall hx]
   clear hall htake hx
   (repeat'(first|refine Ctl ?_|((with_reducible refine Kof.use hK ?_);clear hK hE K E)|((with_reducible refine Eof.use hE ?_);(try clear hK hE K E))|((with_reducible refine W_cond (fun h=>?_) (fun h=>?_))<;>(try(exfalso;first|assumption|omega)))|((first|(with_reducible first|refine G_region fun K E hK hE=>?_|refine W_if ?_|refine W_ifS ?_|refine W_and ?_))<;>(try simp(disch:=first|assumption|omega) only[go_sem,seval,hsl,hsx, *]))))
   all_goals(first|refine W_ret res48 hQ ?_|refine W_norm res48 hQ ?_|refine G_pan hQ ?_)
   all_goals(refine⟨_,_,Wk.of_eq ?_,?_,rfl,rfl⟩)
   all_goals first|(exact z_fg)|(rw[hres];done)
  ·have hall2:∀y,y∈l.take (i+1)→¬ y=n:=fun y hy=>by
    rw[htake]at hy
    rcases List.mem_append.1 hy with hy|hy
    ·exact hall y hy
    ·rw[List.mem_singleton]at hy;subst hy;exact hnx
   have hnx2:¬ n=x:=fun e=>hnx e.symm
   clear hall htake hx
   (repeat'(first|refine Ctl ?_|((with_reducible refine Kof.use hK ?_);clear hK hE K E)|((with_reducible refine Eof.use hE ?_);(try clear hK hE K E))|((with_reducible refine W_cond (fun h=>?_) (fun h=>?_))<;>(try(exfalso;first|assumption|omega)))|((first|(with_reducible first|refine G_region fun K E hK hE=>?_|refine W_if ?_|refine W_ifS ?_|refine W_and ?_))<;>(try simp(disch:=first|assumption|omega) only[go_sem,seval,hsl,hsx, *]))))
   all_goals exact⟨m - 1,by omega,i+1,by omega,by omega,hall2,rfl,z_sl,z_sl,z_sl,z_sl⟩
 ·have hres:ixZ n l=-1:=by
   have:l.take i=l:=List.take_of_length_le (by omega)
   rw[this]at hall
   unfold ixZ
   rw[ixT_none.2 fun hm=>hall n hm rfl]
  clear hall
  (repeat'(first|refine Ctl ?_|((with_reducible refine Kof.use hK ?_);clear hK hE K E)|((with_reducible refine Eof.use hE ?_);(try clear hK hE K E))|((with_reducible refine W_cond (fun h=>?_) (fun h=>?_))<;>(try(exfalso;first|assumption|omega)))|((first|(with_reducible first|refine G_region fun K E hK hE=>?_|refine W_if ?_|refine W_ifS ?_|refine W_and ?_))<;>(try simp(disch:=first|assumption|omega) only[go_sem,seval,hsl, *]))))
  all_goals(first|refine W_ret res48 hQ ?_|refine W_norm res48 hQ ?_|refine G_pan hQ ?_)
  all_goals(refine⟨_,_,Wk.of_eq ?_,?_,rfl,rfl⟩)
  all_goals first|(exact z_fg)|(rw[hres];done)
theorem contS_S (l:List (List UInt8))(o:Own)(n:List UInt8)(hn:l.length≤9223372036854775000)(s:St):SRet Tryz.prog 51 [.lst (l.map strC) o,.str n] s (.bool (l.any fun a=>decide (a=n))) s:=by
 have h1:=ixS_S l o n hn
 have h2:=ixZ_in n l
 refine G_enter Tryz.func51 rfl Tryz.ntmps51 rfl fun Q hQ hQe=>?_
 (repeat'(first|refine Ctl ?_|((with_reducible refine Kof.use hK ?_);clear hK hE K E)|((with_reducible refine Eof.use hE ?_);(try clear hK hE K E))|((with_reducible refine W_cond (fun h=>?_) (fun h=>?_))<;>(try(exfalso;first|assumption|omega)))|((first|(with_reducible first|refine G_region fun K E hK hE=>?_|refine call_ret can48 (h1 _) ?_|refine W_if ?_|refine W_ifS ?_|refine W_and ?_))<;>(try simp(disch:=first|assumption|omega) only[go_sem,seval, *]))))
 all_goals(first|refine W_ret res51 hQ ?_|refine W_norm res51 hQ ?_|refine G_pan hQ ?_)
 all_goals(refine⟨_,_,Wk.of_eq ?_,?_,rfl,rfl⟩)
 all_goals first|(exact z_fg)|rfl
end Go.Proofs.YtadbggfpnhkmbaaGreat
namespace Go.Proofs.YtadbggfpnhkmbaaGreat
open Go.RowKit
attribute [local go_sem] p_enil1 p_enil2 p_nilE one_nil
def callB (n:List UInt8)(many:Nat)(c:Cls):Bool:=match ownM c n with|none=>false|some m=>!m.stat && decide (m.pars.length=many)
theorem called_at {x:List Cls}{n:List UInt8}{many i:Nat}{c:Cls}(hc:x[i]?=some c)(h:callB n many c=true):calledB x n many=true:=List.any_eq_true.2 ⟨c,List.mem_of_getElem? hc,h⟩
theorem called_no {x:List Cls}{n:List UInt8}{many:Nat}(h:∀c,c∈x→callB n many c=false):calledB x n many=false:=by
 unfold calledB
 rw[List.any_eq_false]
 intro c hc
 have h2:=h c hc
 intro h3
 exact absurd (h2.symm.trans h3) (by decide)
theorem ownV_M {c:Cls}{n:List UInt8}:ownV c n=match ownM c n with|none=>.tup [.int .i64 0,.raw (.pointer none)]|some m=>.tup [.int .i64 ((ownI c n).getD 0:Nat),.eptr (mthC m)]:=by
 unfold ownV ownM
 cases ownI c n with
 |none=>rfl
 |some j=>simp only[Option.bind_some,Option.getD_some]<;>(try (cases c.mths[j]?<;>rfl))
set_option maxHeartbeats 4000000 in
theorem Ccalled_S (t:St)(p bm:Nat)(x:List Cls)(n:List UInt8)(many:Nat)(hS:SrcAt t p bm x)(hx:x.length≤100000)(hl:∀c,c∈x→c.mths.length≤100000) :
  SRet Tryz.prog 53 [.ptr p 0,.str n,.int .i64 many] t (.bool (calledB x n many)) t:=by
 have w0:=fun k c hk hcl=>Cown_S t p bm k x c n hS hk hcl
 obtain⟨h1,h2⟩:=hS
 have hpf:t p≠.free:=by rw[h1];simp
 have hlen:(x.map clsC).length=x.length:=by simp
 generalize hR:calledB x n many=R
 have HR:=Lib.hid hR
 clear hR h2
 refine G_enter Tryz.func53 rfl Tryz.ntmps53 rfl fun Q hQ hQe=>?_
 (repeat'(first|refine Ctl ?_|((with_reducible refine Kof.use hK ?_);clear hK hE K E)|((with_reducible refine Eof.use hE ?_);(try clear hK hE K E))|((with_reducible refine W_cond (fun h=>?_) (fun h=>?_))<;>(try(exfalso;first|assumption|omega)))|((first|(with_reducible first|refine G_region fun K E hK hE=>?_|refine W_if ?_|refine W_ifS ?_|refine W_and ?_)|((with_reducible refine W_gd (fun h=>?_) (fun h=>?_))<;>(try(exfalso;first|assumption|omega))))<;>(try simp(disch:=first|assumption|omega) only[go_sem,seval,hlen, *]))))
 refine L_loop (fun m env s'=>∃(i:Nat),i≤x.length∧m+i=x.length∧(∀c,c∈x.take i→callB n many c=false)∧s'=t∧env 0=.ptr p 0∧env 1=.str n∧env 2=.int .i64 many∧env 15=.int .i64 x.length∧env 16=.int .i64 i) x.length
  ⟨0,by omega,by omega,by simp,rfl,z_sl,z_sl,z_sl,z_sl,z_sl⟩ ?_
 rintro m env s' ⟨i,hi,hm,hall,rfl,e0,e1,e2,e15,e16⟩
 by_cases hlt:i<x.length
 ·obtain⟨c,hc⟩:=uget hlt
  have w1:=w0 i c hc (by have:=hl c (List.mem_of_getElem? hc);omega)
  have htake:x.take (i+1)=x.take i++[c]:=utake hc
  rw[ownV_M]at w1
  have hn2:callB n many c=false→∀y,y∈x.take (i+1)→callB n many y=false:=fun hcf y hy=>by
   rw[htake]at hy
   rcases List.mem_append.1 hy with hy|hy
   ·exact hall y hy
   ·rw[List.mem_singleton]at hy;subst hy;exact hcf
  have hy2:callB n many c=true→R=true:=fun hct=>by rw[← HR.out];exact called_at hc hct
  have hcb:callB n many c=match ownM c n with|none=>false|some m=>!m.stat && decide (m.pars.length=many):=rfl
  generalize callB n many c=cb at hn2 hy2 hcb
  clear hall htake hc w0 hl
  cases ho:ownM c n with
  |none=>
   rw[ho]at w1 hcb
   simp only at w1 hcb
   have HN:=hn2 hcb
   clear hn2 hy2 ho hcb
   (repeat'(first|refine Ctl ?_|((with_reducible refine Kof.use hK ?_);clear hK hE K E)|((with_reducible refine Eof.use hE ?_);(try clear hK hE K E))|((with_reducible refine W_cond (fun h=>?_) (fun h=>?_))<;>(try(exfalso;first|assumption|omega)))|((first|(with_reducible first|refine G_region fun K E hK hE=>?_|refine call_ret can32 (w1) ?_|refine W_if ?_|refine W_ifS ?_|refine W_and ?_)|((with_reducible refine W_gd (fun h=>?_) (fun h=>?_))<;>(try(exfalso;first|assumption|omega))))<;>(try simp(disch:=first|assumption|omega) only[go_sem,seval,hlen, *]))))
   all_goals exact⟨m - 1,by omega,i+1,by omega,by omega,HN,rfl,z_sl,z_sl,z_sl,z_sl,z_sl⟩
  |some mt=>
   rw[ho]at w1 hcb
   simp only at w1 hcb
   have hpl:(mt.pars.map strC).length=mt.pars.length:=by simp
   have HN:=Lib.hid hn2
   have HY:=Lib.hid hy2
   have HC:=Lib.hid hcb
   clear hn2 hy2 ho hcb
   obtain⟨ms,mn,mp,mb⟩:=mt
   simp only[mthC,strsV,stsV]at w1 HC hpl
   cases ms
   ·(repeat'(first|refine Ctl ?_|((with_reducible refine Kof.use hK ?_);clear hK hE K E)|((with_reducible refine Eof.use hE ?_);(try clear hK hE K E))|((with_reducible refine W_cond (fun h=>?_) (fun h=>?_))<;>(try(exfalso;first|assumption|omega)))|((first|(with_reducible first|refine G_region fun K E hK hE=>?_|refine call_ret can32 (w1) ?_|refine W_if ?_|refine W_ifS ?_|refine W_and ?_)|((with_reducible refine W_gd (fun h=>?_) (fun h=>?_))<;>(try(exfalso;first|assumption|omega))))<;>(try simp(disch:=first|assumption|omega) only[go_sem,seval,hlen,hpl, *]))))
    ·obtain rfl:=HY.out (by rw[HC.out];simp[of_eq_true h])
     all_goals(first|refine W_ret res53 hQ ?_|refine W_norm res53 hQ ?_|refine G_pan hQ ?_)
     all_goals(refine⟨_,_,Wk.of_eq ?_,?_,rfl,rfl⟩)
     all_goals first|(exact z_fg)|rfl
    ·have HN:=HN.out (by rw[HC.out];simp[h])
     exact⟨m - 1,by omega,i+1,by omega,by omega,HN,rfl,z_sl,z_sl,z_sl,z_sl,z_sl⟩
   ·(repeat'(first|refine Ctl ?_|((with_reducible refine Kof.use hK ?_);clear hK hE K E)|((with_reducible refine Eof.use hE ?_);(try clear hK hE K E))|((with_reducible refine W_cond (fun h=>?_) (fun h=>?_))<;>(try(exfalso;first|assumption|omega)))|((first|(with_reducible first|refine G_region fun K E hK hE=>?_|refine call_ret can32 (w1) ?_|refine W_if ?_|refine W_ifS ?_|refine W_and ?_)|((with_reducible refine W_gd (fun h=>?_) (fun h=>?_))<;>(try(exfalso;first|assumption|omega))))<;>(try simp(disch:=first|assumption|omega) only[go_sem,seval,hlen,hpl, *]))))
    all_goals
     have HN:=HN.out (by rw[HC.out];simp)
     exact⟨m - 1,by omega,i+1,by omega,by omega,HN,rfl,z_sl,z_sl,z_sl,z_sl,z_sl⟩
 ·have hR:R=false:=by
   rw[← HR.out]
   refine called_no fun c hc=>hall c ?_
   rw[List.take_of_length_le (by omega)];exact hc
  subst hR
  clear hall w0 hl HR
  (repeat'(first|refine Ctl ?_|((with_reducible refine Kof.use hK ?_);clear hK hE K E)|((with_reducible refine Eof.use hE ?_);(try clear hK hE K E))|((with_reducible refine W_cond (fun h=>?_) (fun h=>?_))<;>(try(exfalso;first|assumption|omega)))|((first|(with_reducible first|refine G_region fun K E hK hE=>?_|refine W_if ?_|refine W_ifS ?_|refine W_and ?_)|((with_reducible refine W_gd (fun h=>?_) (fun h=>?_))<;>(try(exfalso;first|assumption|omega))))<;>(try simp(disch:=first|assumption|omega) only[go_sem,seval,hlen, *]))))
  all_goals(first|refine W_ret res53 hQ ?_|refine W_norm res53 hQ ?_|refine G_pan hQ ?_)
  all_goals(refine⟨_,_,Wk.of_eq ?_,?_,rfl,rfl⟩)
  all_goals first|(exact z_fg)|rfl
end Go.Proofs.YtadbggfpnhkmbaaGreat
namespace Go.Proofs.YtadbggfpnhkmbaaGreat
open Go.RowKit
attribute [local go_sem] p_enil1 p_enil2 p_nilE one_nil
def fitF (x:List Cls)(m:Mth)(a:Bool)(k:Nat):Bool×Bool:=(a && fitB x m k,true)
theorem upRun_fit {x:List Cls}{m:Mth}:∀(f:Nat) (a:Bool) (n:List UInt8),(upRun x (fitF x m) f a n).1=(a && (chainN x f n).1.all (fitB x m))
 |0,a,_=>by simp[upRun,chainN]
 |f+1,a,n=>by
  simp only[upRun,chainN]
  by_cases h0:n=[]
  ·rw[if_pos h0,if_pos h0];simp
  ·rw[if_neg h0,if_neg h0]
   cases ha:atC x n with
   |none=>simp
   |some k=>simp only[fitF,if_true,List.all_cons];rw[upRun_fit f];simp[Bool.and_assoc]
set_option maxHeartbeats 4000000 in
theorem Chd1_S (B:St)(p bm b3 b8 b13:Nat)(x:List Cls)(m:Mth)(hS:SrcAt B p bm x)(h3:B b3=.obj 76 [.ptr p 0])(h8:B b8=.obj 25 (mthC m))(h13:B b13=.free)
  (hx:x.length≤100000) (hl:∀c,c∈x→c.mths.length≤100000) (a:Bool) (k:Nat) (hk:k<x.length) :
  SRet Tryz.prog 49 [.int .i64 k,.ptr b3 0,.ptr b8 0,.ptr b13 0] (B.set b13 (.obj 4 [.bool a])) (.bool (fitF x m a k).2) (B.set b13 (.obj 4 [.bool (fitF x m a k).1])):=by
 obtain⟨c,hc⟩:=uget hk
 have w1:=Cown_S (B.set b13 (.obj 4 [.bool a])) p bm k x c m.nm (hS.fg (Fg.of_set _ h13)) hc (by have:=hl c (List.mem_of_getElem? hc);omega)
 have n3:¬ b3=b13:=(nef h13 (by rw[h3];simp)).1
 have n8:¬ b8=b13:=(nef h13 (by rw[h8];simp)).1
 have hml:(m.pars.map strC).length=m.pars.length:=by simp
 rw[ownV_M]at w1
 unfold fitF fitB
 simp only[hc]
 clear hS hl hc
 cases ho:ownM c m.nm with
 |none=>
  rw[ho]at w1
  simp only[Bool.and_true]at w1 ⊢
  clear ho
  obtain⟨ms,mn,mp,mb⟩:=m
  simp only[mthC,strsV,stsV]at h8 w1
  refine G_enter Tryz.func49 rfl Tryz.ntmps49 rfl fun Q hQ hQe=>?_
  (repeat'(first|refine Ctl ?_|((with_reducible refine Kof.use hK ?_);clear hK hE K E)|((with_reducible refine Eof.use hE ?_);(try clear hK hE K E))|((with_reducible refine Kof.use hKh ?_);clear hKh Kh)|((with_reducible refine Kof.use hKb (P_next ?_));clear hKb Kb)|(with_reducible refine G_plan 3 [([0,1,2,3,4,5,6,7,8,9,10,11,12,13,14,15,16,17,18,19,20],21,[[]])] [] hQe fun K E hK hE=>?_)|((with_reducible refine W_cond (fun h=>?_) (fun h=>?_))<;>(try(exfalso;first|assumption|omega)))|((first|(with_reducible first|refine G_region fun K E hK hE=>?_|refine call_ret can32 (w1) ?_|refine W_if ?_|refine W_ifS ?_|refine P_heads fun Kh hKh=>?_|refine P_fin fun Kh hKh=>?_|refine P_each fun Kb hKb=>?_|refine W_and ?_)|((with_reducible refine W_gd (fun h=>?_) (fun h=>?_))<;>(try(exfalso;first|assumption|omega))))<;>(try simp(disch:=first|assumption|omega) only[go_sem,seval, *]))))
  all_goals(first|refine W_ret res49 hQ ?_|refine W_norm res49 hQ ?_|refine G_pan hQ ?_)
  all_goals(refine⟨_,_,Wk.of_eq ?_,?_,rfl,rfl⟩)
  all_goals first|rfl|(exact z_fg)|trace_state
 |some y=>
  rw[ho]at w1
  simp only at w1 ⊢
  clear ho
  have hyl:(y.pars.map strC).length=y.pars.length:=by simp
  obtain⟨ms,mn,mp,mb⟩:=m
  obtain⟨ys,yn,yp,yb⟩:=y
  simp only[mthC,strsV,stsV]at h8 w1 hml hyl ⊢
  cases a<;>cases ms<;>cases ys
  all_goals
   refine G_enter Tryz.func49 rfl Tryz.ntmps49 rfl fun Q hQ hQe=>?_
   (repeat'(first|refine Ctl ?_|((with_reducible refine Kof.use hK ?_);clear hK hE K E)|((with_reducible refine Eof.use hE ?_);(try clear hK hE K E))|((with_reducible refine Kof.use hKh ?_);clear hKh Kh)|((with_reducible refine Kof.use hKb (P_next ?_));clear hKb Kb)|(with_reducible refine G_plan 3 [([0,1,2,3,4,5,6,7,8,9,10,11,12,13,14,15,16,17,18,19,20],21,[[]])] [] hQe fun K E hK hE=>?_)|((with_reducible refine W_cond (fun h=>?_) (fun h=>?_))<;>(try(exfalso;first|assumption|omega)))|((first|(with_reducible first|refine G_region fun K E hK hE=>?_|refine call_ret can32 (w1) ?_|refine W_if ?_|refine W_ifS ?_|refine P_heads fun Kh hKh=>?_|refine P_fin fun Kh hKh=>?_|refine P_each fun Kb hKb=>?_|refine W_and ?_)|((with_reducible refine W_gd (fun h=>?_) (fun h=>?_))<;>(try(exfalso;first|assumption|omega))))<;>(try simp(disch:=first|assumption|omega) only[go_sem,seval,hml,hyl,beq_self_eq_true,if_true, *]))))
  all_goals(first|refine W_ret res49 hQ ?_|refine W_norm res49 hQ ?_|refine G_pan hQ ?_)
  all_goals(refine⟨_,_,Wk.of_eq ?_,?_,rfl,rfl⟩)
  all_goals first|rfl|(exact z_fg)|trace_state
end Go.Proofs.YtadbggfpnhkmbaaGreat
namespace Go.Proofs.YtadbggfpnhkmbaaGreat
open Go.RowKit
attribute [local go_sem] p_enil1 p_enil2 p_nilE one_nil
theorem Chdup_S (p bm:Nat)(x:List Cls)(m:Mth)(n:List UInt8)(hx:x.length≤100000)(hl:∀c,c∈x→c.mths.length≤100000)(B:St)(b3 b8 b13:Nat)
  (hS1:B p=.obj 104 [.lst (x.map clsC) .no,.mp bm,.lst (stL x x.length) .no]) (hS2:B bm=.map (mpV encI (atA16 x))) (h3:B b3=.obj 76 [.ptr p 0]) (h8:B b8=.obj 25 (mthC m)) (h13:B b13=.free) :
  SRet Tryz.prog 28 [.ptr p 0,.str n,.fn 49 [.ptr b3 0,.ptr b8 0,.ptr b13 0]] (B.set b13 (.obj 4 [.bool true]))
   (.bool (upRun x (fitF x m) (x.length+1) true n).2) (B.set b13 (.obj 4 [.bool ((upN x n).1.all (fitB x m))])):=by
 have hS:SrcAt B p bm x:=⟨hS1,hS2⟩
 have h:=Cup_S x p bm 49 [.ptr b3 0,.ptr b8 0,.ptr b13 0] (fun a=>B.set b13 (.obj 4 [.bool a])) (fitF x m) can49 (fun a=>hS.fg (Fg.of_set _ h13))
  (fun a i hi=>Chd1_S B p bm b3 b8 b13 x m hS h3 h8 h13 hx hl a i hi) hx true n
 simp only[upRun_fit,Bool.true_and]at h
 exact h
theorem parsB_no {ps:List (List UInt8)}{i:Nat}{q:List UInt8}(h:ps[i]?=some q)(hb:q=selfT∨¬ ixT q ps=some i):parsB ps=false:=by
 unfold parsB
 rw[List.all_eq_false]
 refine⟨i,List.mem_range.2 (List.getElem?_eq_some_iff.1 h).1,?_⟩
 rw[h]
 rcases hb with hb|hb<;>simp[hb]
theorem parsB_yes {ps:List (List UInt8)}(h:∀i q,ps[i]?=some q→¬ q=selfT∧ixT q ps=some i):parsB ps=true:=by
 unfold parsB
 rw[List.all_eq_true]
 intro i _
 cases hp:ps[i]? with
 |none=>rfl
 |some q=>have:=h i q hp;simp[this.1,this.2]
set_option maxHeartbeats 8000000 in
theorem Chead_S (t:St)(p bm k j:Nat)(x:List Cls)(c:Cls)(m:Mth)(hS:SrcAt t p bm x)(hk:x[k]?=some c)(hj:c.mths[j]?=some m)(hx:x.length≤100000)(hl:∀c,c∈x→c.mths.length≤100000)(hmp:m.pars.length≤100000) :
  SRet Tryz.prog 30 [.ptr p 0,.int .i64 k,.int .i64 j] t (.bool (hdOk x c j m)) t:=by
 have w0:=fun s h1 h2=>Cown_S s p bm k x c m.nm ⟨h1,h2⟩ hk (by have:=hl c (List.mem_of_getElem? hk);omega)
 have w2:=Chdup_S p bm x m c.par hx hl
 obtain⟨j1,hj1⟩:∃j1,ownI c m.nm=some j1:=by
  cases hh:ownI c m.nm with
  |some a=>exact⟨a,rfl⟩
  |none=>exact absurd (List.mem_map.2 ⟨m,List.mem_of_getElem? hj,rfl⟩) (ixT_none.1 hh)
 obtain⟨m1,hm1,_⟩:=ownI_get hj1
 obtain⟨h1,h2⟩:=hS
 have hpf:t p≠.free:=by rw[h1];simp
 have hbf:t bm≠.free:=by rw[h2];simp
 have hlen:(x.map clsC).length=x.length:=by simp
 have hsx:=clsC_at hk
 have hmm:=mthC_at16 hj
 have hm4:(mthC m).length=4:=rfl
 have hml:(c.mths.map mthC).length=c.mths.length:=by simp
 have hpl:(m.pars.map strC).length=m.pars.length:=by simp
 have hjl:=(List.getElem?_eq_some_iff.1 hj).1
 have hkl:=(List.getElem?_eq_some_iff.1 hk).1
 have hcl:=hl c (List.mem_of_getElem? hk)
 unfold ownV at w0
 simp only[hj1,hm1]at w0
 generalize (upRun x (fitF x m) (x.length+1) true c.par).2=ub at w2
 have hF1:¬ j1=j→hdOk x c j m=false:=fun h=>by unfold hdOk;rw[hj1];simp[h]
 have hF2:j1=j→hdOk x c j m=(parsB m.pars && (upN x c.par).1.all (fitB x m)):=fun h=>by unfold hdOk;rw[hj1];simp[h]
 generalize (upN x c.par).1.all (fitB x m)=fa at w2 hF2
 generalize hdOk x c j m=R at hF1 hF2 ⊢
 have HF1:=Lib.hid hF1
 have HF2:=Lib.hid hF2
 generalize mthC m1=mc1 at w0
 clear hF1 hF2 hj1 hm1 hk hj hl
 obtain⟨cn,cp,cm⟩:=c
 obtain⟨ms,mn,mp,mb⟩:=m
 simp only[mthC,strsV,stsV]at w0 w2 hmm hm4 hml hpl hjl hmp HF2 hcl
 refine G_enter Tryz.func30 rfl Tryz.ntmps30 rfl fun Q hQ hQe=>?_
 (repeat'(first|refine Ctl ?_|((with_reducible refine Kof.use hK ?_);clear hK hE K E)|((with_reducible refine Eof.use hE ?_);(try clear hK hE K E))|((with_reducible refine W_cond (fun h=>?_) (fun h=>?_))<;>(try(exfalso;first|assumption|omega)))|((first|(with_reducible first|refine G_region fun K E hK hE=>?_|refine call_ret can32 (w0 _ z_sl z_sl) ?_|refine W_if ?_|refine W_ifS ?_|refine W_and ?_)|((with_reducible refine W_fresh (fun b hb=>?_));(repeat(obtain⟨_,hb⟩:=hb));(try(obtain⟨_,_⟩:=nef hb hpf;obtain⟨_,_⟩:=nef hb hbf)))|((with_reducible refine W_gd (fun h=>?_) (fun h=>?_))<;>(try(exfalso;first|assumption|omega))))<;>(try simp(disch:=first|assumption|omega) only[go_sem,seval,hlen,hsx,clsC,hmm,hml,hm4,hpl, *]))))
 ·obtain rfl:=HF1.out h
  all_goals(first|refine W_ret res30 hQ ?_|refine W_norm res30 hQ ?_|refine G_pan hQ ?_)
  all_goals(refine⟨_,_,Wk.of_eq ?_,?_,rfl,rfl⟩)
  all_goals first|rfl|(exact z_fg)
 have hR0:=HF2.out (of_eq_true h)
 clear HF1 HF2 w0 hmm hm4 hml hsx hlen h
 refine L_loop (fun m env s'=>∃(i b3 b7 b8:Nat),env 3=.ptr b3 0∧env 7=.ptr b7 0∧env 8=.ptr b8 0∧i≤mp.length∧m+i=mp.length∧(∀a q,a<i→mp[a]?=some q→¬ q=selfT∧ixT q mp=some a)
   ∧ s' p=.obj 104 [.lst (x.map clsC) .no,.mp bm,.lst (stL x x.length) .no]∧s' bm=.map (mpV encI (atA16 x))∧s' b3=.obj 76 [.ptr p 0]
   ∧ s' b7=.obj 28 [.str cn,.str cp,.lst (cm.map mthC) .no]∧s' b8=.obj 25 [.bool ms,.str mn,.lst (mp.map strC) .no,.lst (stsC mb) .no]∧Fg s' t
   ∧ env 39=.lst (mp.map strC) .no∧env 40=.int .i64 mp.length∧env 41=.int .i64 i) mp.length
  ⟨0,_,_,_,rfl,rfl,rfl,by omega,by omega,fun a q h=>absurd h (Nat.not_lt_zero _),z_sl,z_sl,z_sl,z_sl,z_sl,z_fg,z_sl,z_sl,z_sl⟩ ?_
 rintro m env s' ⟨i,b3,b7,b8,e3,e7,e8,hi,hm,hall,k1,k2,k3,k7,k8,hFg,e39,e40,e41⟩
 have hpf:s' p≠.free:=by rw[k1];simp
 have hbf:s' bm≠.free:=by rw[k2];simp
 have h3f:s' b3≠.free:=by rw[k3];simp
 have h7f:s' b7≠.free:=by rw[k7];simp
 have h8f:s' b8≠.free:=by rw[k8];simp
 clear h1 h2
 by_cases hlt:i<mp.length
 ·obtain⟨q,hq⟩:=uget hlt
  have hqx:(mp.map strC)[i]?=some [.str q]:=by simp[strC,hq]
  obtain⟨r,hr⟩:∃r,ixT q mp=some r:=by
   cases hh:ixT q mp with
   |some a=>exact⟨a,rfl⟩
   |none=>exact absurd (List.mem_of_getElem? hq) (ixT_none.1 hh)
  have w3:=ixS_S mp .no q (by omega) s'
  have hz:ixZ q mp=r:=by unfold ixZ;rw[hr]
  rw[hz]at w3
  clear w2 hz
  by_cases hqs:q=selfT
  ·have hR:=parsB_no hq (.inl hqs)
   rw[hR,Bool.false_and]at hR0
   subst hR0
   clear hall hR hq hr
   subst hqs
   unfold selfT at *
   (repeat'(first|refine Ctl ?_|((with_reducible refine Kof.use hK ?_);clear hK hE K E)|((with_reducible refine Eof.use hE ?_);(try clear hK hE K E))|((with_reducible refine W_cond (fun h=>?_) (fun h=>?_))<;>(try(exfalso;first|assumption|omega)))|((first|(with_reducible first|refine G_region fun K E hK hE=>?_|refine call_ret can48 (w3) ?_|refine W_if ?_|refine W_ifS ?_|refine W_and ?_)|((with_reducible refine W_fresh (fun b hb=>?_));(repeat(obtain⟨_,hb⟩:=hb)))|((with_reducible refine W_gd (fun h=>?_) (fun h=>?_))<;>(try(exfalso;first|assumption|omega))))<;>(try simp(disch:=first|assumption|omega) only[go_sem,seval,hqx,hpl, *]))))
   all_goals(first|refine W_ret res30 hQ ?_|refine W_norm res30 hQ ?_|refine G_pan hQ ?_)
   all_goals exact⟨_,_,Wk.refl _,hFg,rfl,rfl⟩
  ·have hqf:(q=selfT)=False:=eq_false hqs
   by_cases hri:r=i
   ·subst hri
    have hall2:∀a q,a<r+1→mp[a]?=some q→¬ q=selfT∧ixT q mp=some a:=fun a q' ha hg=>by
     by_cases e:a=r
     ·subst e;rw[hq]at hg;injection hg with hg;subst hg;exact⟨hqs,hr⟩
     ·exact hall a q' (by omega) hg
    have HR0:=Lib.hid hR0
    clear hall hq hr hqs hR0
    unfold selfT at hqf
    (repeat'(first|refine Ctl ?_|((with_reducible refine Kof.use hK ?_);clear hK hE K E)|((with_reducible refine Eof.use hE ?_);(try clear hK hE K E))|((with_reducible refine W_cond (fun h=>?_) (fun h=>?_))<;>(try(exfalso;first|assumption|omega)))|((first|(with_reducible first|refine G_region fun K E hK hE=>?_|refine call_ret can48 (w3) ?_|refine W_if ?_|refine W_ifS ?_|refine W_and ?_)|((with_reducible refine W_fresh (fun b hb=>?_));(repeat(obtain⟨_,hb⟩:=hb)))|((with_reducible refine W_gd (fun h=>?_) (fun h=>?_))<;>(try(exfalso;first|assumption|omega))))<;>(try simp(disch:=first|assumption|omega) only[go_sem,seval,hqx,hpl, *]))))
    all_goals exact⟨m - 1,by omega,r+1,b3,b7,b8,z_sl,z_sl,z_sl,by omega,by omega,hall2,k1,k2,k3,k7,k8,hFg,z_sl,z_sl,z_sl⟩
   ·have hR:=parsB_no hq (.inr (by rw[hr];simp;exact hri))
    have hrif:((r:Int)=(i:Int))=False:=eq_false (by omega)
    rw[hR,Bool.false_and]at hR0
    subst hR0
    clear hall hR hq hr hqs
    unfold selfT at hqf
    (repeat'(first|refine Ctl ?_|((with_reducible refine Kof.use hK ?_);clear hK hE K E)|((with_reducible refine Eof.use hE ?_);(try clear hK hE K E))|((with_reducible refine W_cond (fun h=>?_) (fun h=>?_))<;>(try(exfalso;first|assumption|omega)))|((first|(with_reducible first|refine G_region fun K E hK hE=>?_|refine call_ret can48 (w3) ?_|refine W_if ?_|refine W_ifS ?_|refine W_and ?_)|((with_reducible refine W_fresh (fun b hb=>?_));(repeat(obtain⟨_,hb⟩:=hb)))|((with_reducible refine W_gd (fun h=>?_) (fun h=>?_))<;>(try(exfalso;first|assumption|omega))))<;>(try simp(disch:=first|assumption|omega) only[go_sem,seval,hqx,hpl, *]))))
    all_goals(first|refine W_ret res30 hQ ?_|refine W_norm res30 hQ ?_|refine G_pan hQ ?_)
    all_goals exact⟨_,_,Wk.refl _,hFg,rfl,rfl⟩
 ·have hR:parsB mp=true:=parsB_yes fun a q hg=>hall a q (by have:=(List.getElem?_eq_some_iff.1 hg).1;omega) hg
  rw[hR,Bool.true_and]at hR0
  subst hR0
  clear hall hR
  (repeat'(first|refine Ctl ?_|((with_reducible refine Kof.use hK ?_);clear hK hE K E)|((with_reducible refine Eof.use hE ?_);(try clear hK hE K E))|((with_reducible refine W_cond (fun h=>?_) (fun h=>?_))<;>(try(exfalso;first|assumption|omega)))|((first|(with_reducible first|refine G_region fun K E hK hE=>?_|refine call_ret can28 (w2 _ _ _ _ z_sl z_sl z_sl z_sl z_sl) ?_|refine W_if ?_|refine W_ifS ?_|refine W_and ?_)|((with_reducible refine W_fresh (fun b hb=>?_));(repeat(obtain⟨_,hb⟩:=hb));(try(obtain⟨_,_⟩:=nef hb hpf;obtain⟨_,_⟩:=nef hb hbf;obtain⟨_,_⟩:=nef hb h3f;obtain⟨_,_⟩:=nef hb h7f;obtain⟨_,_⟩:=nef hb h8f)))|((with_reducible refine W_gd (fun h=>?_) (fun h=>?_))<;>(try(exfalso;first|assumption|omega))))<;>(try simp(disch:=first|assumption|omega) only[go_sem,seval,hpl, *]))))
  all_goals(first|refine W_ret res30 hQ ?_|refine W_norm res30 hQ ?_|refine G_pan hQ ?_)
  all_goals exact⟨_,_,Wk.refl _,Fg.setA hFg (hFg.free hb),rfl,rfl⟩
end Go.Proofs.YtadbggfpnhkmbaaGreat
