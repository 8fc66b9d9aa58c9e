/- Walks of functions that the claim reaches, and plain facts of them. Conditions: those in the statements. -/
import Derived.Test.YtgdbgfjhenobdaaGreatDoorJmOoGj
import Derived.Test.YtgdbgfjhenobdaaGreatDoorJmGpj
import Derived.Test.YtgdbgfjhenobdaaGreatDoorJmLexj
import Derived.Lib.IndexAny
import Derived.Test.YtgdbgfjhenobdaaGreatDoorJmPkj
set_option linter.unusedSimpArgs false
set_option linter.unusedVariables false
set_option maxRecDepth 100000
namespace Go.Proofs.YtgdbgfjhenobdaaGreatDoor
open Go.RowKit
def RnameB (t:List UInt8):Bool:=RisB 1 t && !kwB t
def kws:List (List UInt8):=[[99,108,97,115,115],[101,120,116,101,110,100,115],[115,116,97,116,105,99],[110,101,119],[114,101,116,117,114,110],[105,102],[101,108,115,101],[108,111,111,112]]
theorem kwB_mem (t:List UInt8):kwB t=decide (t∈kws):=by
 rw[Bool.eq_iff_iff]
 simp only[kwB,kws,Bool.or_eq_true,decide_eq_true_eq,List.mem_cons,List.not_mem_nil,or_false,or_assoc]
theorem Rkeyword_S (t:List UInt8)(s:St):SRet Tryz.prog 98 [.str t] s (.bool (kwB t)) s:=by
 refine G_enter Tryz.func98 rfl Tryz.ntmps98 rfl fun Q hQ hQe=>?_
 (repeat'(first|refine Ctl ?_|((with_reducible refine Kof.use hK ?_);clear hK hE K E)|(((with_reducible refine G_region fun K E hK hE=>?_))<;>(try simp(disch:=assumption) only[go_sem,seval,vrow, *]))))
 refine L_loop (fun m env s'=>∃k:Nat,k≤8∧m+k=8∧(∀j,j<k→kws[j]?≠some t)∧s'=s∧env 0=.str t∧env 3=.lst (kws.map strC) .full∧env 4=.int .i64 k) 8 ⟨0,by omega,by omega,by omega,rfl,z_sl,z_sl,z_sl⟩ ?_
 rintro m env s' ⟨k,hk,hm,hj,rfl,e0,e3,e4⟩
 have hk8:kws.length=8:=rfl
 rcases Nat.lt_or_ge k 8 with h8|h8
 ·obtain⟨d,hdk⟩:∃d,kws[k]?=some d:=⟨_,List.getElem?_eq_getElem (by omega)⟩
  (repeat'(first|refine Ctl ?_|((with_reducible refine Kof.use hK ?_);clear hK hE K E)|((with_reducible refine W_cond (fun h=>?_) (fun h=>?_))<;>(try(exfalso;omega)))|(((with_reducible refine G_region fun K E hK hE=>?_))<;>(try simp(disch:=omega) only[go_sem,seval,List.getElem?_map,List.length_map,strC, *]))))
  all_goals first
   |refine⟨m - 1,by omega,k+1,by omega,by omega,fun j hj1=>?_,rfl,z_sl,z_sl,z_sl⟩
    rcases Nat.lt_or_ge j k with hjk|hjk
    ·exact hj j hjk
    ·have:j=k:=by omega
     subst this
     grind
   |(first|refine W_ret res98 hQ ?_|refine W_norm res98 hQ ?_|refine G_pan hQ ?_)
    (refine⟨_,_,Wk.of_eq ?_,?_,rfl,rfl⟩)
    ·rw[kwB_mem,decide_eq_true (by have:=List.mem_of_getElem? hdk;grind)]
    ·exact Fg.refl _
 ·have:k=8:=by omega
  subst this
  have hnm:t∉kws:=fun hm=>by
   obtain⟨j,hj9,e⟩:=List.mem_iff_getElem.1 hm
   exact hj j hj9 (by rw[List.getElem?_eq_getElem hj9,e])
  (repeat'(first|refine Ctl ?_|((with_reducible refine Kof.use hK ?_);clear hK hE K E)|((with_reducible refine W_cond (fun h=>?_) (fun h=>?_))<;>(try(exfalso;assumption)))|(((with_reducible refine G_region fun K E hK hE=>?_))<;>(try simp(disch:=assumption) only[go_sem,seval,List.getElem?_map,List.length_map,strC, *]))))
  all_goals(refine W_ret res98 hQ ?_)
  all_goals(refine⟨_,_,Wk.of_eq ?_,?_,rfl,rfl⟩)
  all_goals first|exact Fg.refl _|(rw[kwB_mem,decide_eq_false hnm])
theorem Rname_S (t:List UInt8)(s:St):SRet Tryz.prog 58 [.str t] s (.bool (RnameB t)) s:=by
 refine G_enter Tryz.func58 rfl Tryz.ntmps58 rfl fun Q hQ hQe=>?_
 (repeat'(first|refine Ctl ?_|((with_reducible refine Kof.use hK ?_);clear hK hE K E)|((first|(with_reducible first|refine G_region fun K E hK hE=>?_|refine call_ret can97 (Ris_S _ _ _ _) ?_|refine call_ret can98 (Rkeyword_S _ _) ?_)|((with_reducible refine W_gd (fun h=>?_) (fun h=>?_))))<;>(try simp(disch:=assumption) only[go_sem,seval, *]))))
 all_goals(refine W_ret res58 hQ ?_)
 all_goals(refine⟨_,_,Wk.of_eq ?_,?_,rfl,rfl⟩)
 all_goals first|(exact z_fg)|skip
 all_goals(simp only[RnameB,VV.bool.injEq];grind)
abbrev Rf (s:St)(r:Nat)(L:List Sgn)(e a n er bd:Nat):St:=s.set r (.obj 80 [.lst (L.map sgnC) .no,.int .i64 a,.int .i64 e,.int .i64 n,.int .i64 er,.int .i64 bd])
theorem sgn_nth {L:List Sgn}{a:Nat}:(L.map sgnC)[a]?=L[a]?.map sgnC:=List.getElem?_map
theorem drop_get {L:List Sgn}{a k:Nat}:(L.drop a)[k]?=L[a+k]?:=List.getElem?_drop
theorem isT_drop {L:List Sgn}{a k:Nat}{t:List UInt8}:isT (L.drop a) k t=match L[a+k]? with|some x=>decide (x.text=t)|none=>false:=by
 unfold isT;rw[drop_get];cases L[a+k]?<;>rfl
theorem Rplace_S (s:St)(r:Nat)(L:List Sgn)(e a n er bd:Nat) :
  SRet Tryz.prog 55 [.ptr r 0] (Rf s r L e a n er bd) (.int .i64 (place e (L.drop a))) (Rf s r L e a n er bd):=by
 refine G_enter Tryz.func55 rfl Tryz.ntmps55 rfl fun Q hQ hQe=>?_
 rcases hx:L[a]? with _|x
 ·have h1:L.length≤a:=List.getElem?_eq_none_iff.1 hx
  have hd:L.drop a=[]:=List.drop_eq_nil_iff.2 h1
  (repeat'(first|refine Ctl ?_|(with_reducible first|(refine Kof.use hK ?_;clear hK hE K E)|(refine Kof.use hKh ?_;clear hKh Kh)|refine G_plan 1 [] [0,1,2,3,4,5,6,7,8,9] hQe fun K E hK hE=>?_)|((with_reducible refine W_cond (fun h=>?_) (fun h=>?_))<;>(try(exfalso;omega)))|(((with_reducible first|refine G_region fun K E hK hE=>?_|refine P_fin fun Kh hKh=>?_))<;>(try simp(disch:=assumption) only[go_sem,seval,Rf,List.length_map,sgn_nth, *]))))
  all_goals(refine W_ret res55 hQ ?_)
  all_goals(refine⟨_,_,Wk.of_eq ?_,?_,rfl,rfl⟩)
  ·rw[hd];rfl
  ·exact Fg.refl _
 ·have h1:a<L.length:=(List.getElem?_eq_some_iff.1 hx).1
  have hd:L.drop a=x::L.drop (a+1):=by rw[List.drop_eq_getElem_cons h1];rw[List.getElem?_eq_getElem h1]at hx;injection hx with hx;rw[hx]
  (repeat'(first|refine Ctl ?_|(with_reducible first|(refine Kof.use hK ?_;clear hK hE K E)|(refine Kof.use hKh ?_;clear hKh Kh)|refine G_plan 1 [] [0,1,2,3,4,5,6,7,8,9] hQe fun K E hK hE=>?_|refine G_plan 2 [] [0,1,2,3,4,5,6,7,8,9,10,11] hQe fun K E hK hE=>?_)|((with_reducible refine W_cond (fun h=>?_) (fun h=>?_))<;>(try(exfalso;assumption)))|(((with_reducible first|refine G_region fun K E hK hE=>?_|refine P_fin fun Kh hKh=>?_))<;>(try simp(disch:=assumption) only[go_sem,seval,Rf,List.length_map,sgn_nth,sgnC, *]))))
  all_goals(refine W_ret res55 hQ ?_)
  all_goals(refine⟨_,_,Wk.of_eq ?_,?_,rfl,rfl⟩)
  ·rw[hd];rfl
  ·exact Fg.refl _
def fE (er x:Nat):Nat:=if er=0 then x else er
def fB (er bd p:Nat):Nat:=if er=0 then p else bd
theorem fE_eq (er x:Nat):fE er x=if er=0 then x else er:=rfl
theorem fB_eq (er bd p:Nat):fB er bd p=if er=0 then p else bd:=rfl
attribute [irreducible] fE fB
theorem Rfail_S (s:St)(r:Nat)(L:List Sgn)(e a n er bd:Nat)(x':Int)(hx:0≤x') :
  SRet Tryz.prog 26 [.ptr r 0,.int .i64 x'] (Rf s r L e a n er bd) (.tup []) (Rf s r L e a n (fE er x'.toNat) (fB er bd (place e (L.drop a)))):=by
 obtain⟨x,rfl⟩:=Int.eq_ofNat_of_zero_le hx
 rw[Int.toNat_natCast]
 refine G_enter Tryz.func26 rfl Tryz.ntmps26 rfl fun Q hQ hQe=>?_
 by_cases h0:(er:Int)=0
 ·have h0':er=0:=by omega
  replace h0:=eq_true h0
  (repeat'(first|refine Ctl ?_|((with_reducible refine Kof.use hK ?_);clear hK hE K E)|((with_reducible refine W_cond (fun h=>?_) (fun h=>?_))<;>(try(exfalso;assumption)))|(((with_reducible first|refine G_region fun K E hK hE=>?_|refine call_ret can55 (Rplace_S _ _ _ _ _ _ _ _) ?_))<;>(try simp(disch:=assumption) only[go_sem,seval,Rf, *]))))
  all_goals(refine W_norm res26 hQ ?_)
  all_goals(refine⟨_,_,Wk.of_eq ?_,?_,rfl,rfl⟩)
  ·rfl
  ·rw[fE_eq,fB_eq,if_pos h0',if_pos h0'];exact Fg.refl _
 ·have h0':¬ er=0:=by omega
  (repeat'(first|refine Ctl ?_|((with_reducible refine Kof.use hK ?_);clear hK hE K E)|((with_reducible refine W_cond (fun h=>?_) (fun h=>?_))<;>(try(exfalso;assumption)))|(((with_reducible refine G_region fun K E hK hE=>?_))<;>(try simp(disch:=assumption) only[go_sem,seval,Rf, *]))))
  all_goals(refine W_norm res26 hQ ?_)
  all_goals(refine⟨_,_,Wk.of_eq ?_,?_,rfl,rfl⟩)
  ·rfl
  ·rw[fE_eq,fB_eq,if_neg h0',if_neg h0'];exact Fg.refl _
theorem Rfis_S (s:St)(r:Nat)(L:List Sgn)(e a n er bd:Nat)(k':Int)(t:List UInt8)(hk0:0≤k')(hk:(a:Int)+k'≤9223372036854775000) :
  SRet Tryz.prog 25 [.ptr r 0,.int .i64 k',.str t] (Rf s r L e a n er bd) (.bool (isT (L.drop a) k'.toNat t)) (Rf s r L e a n er bd):=by
 obtain⟨k,rfl⟩:=Int.eq_ofNat_of_zero_le hk0
 rw[Int.toNat_natCast]
 refine G_enter Tryz.func25 rfl Tryz.ntmps25 rfl fun Q hQ hQe=>?_
 rcases hx:L[a+k]? with _|x
 ·have h1:L.length≤a+k:=List.getElem?_eq_none_iff.1 hx
  (repeat'(first|refine Ctl ?_|(with_reducible first|(refine Kof.use hK ?_;clear hK hE K E)|(refine Kof.use hKh ?_;clear hKh Kh)|refine G_plan 1 [] [0,1,2,3,4,5,6,7,8,9,10,11,12,13,14,15,16,17,18,19,20,21,22,23,24,25,26,27,28,29] hQe fun K E hK hE=>?_)|((first|(with_reducible first|refine G_region fun K E hK hE=>?_|refine P_fin fun Kh hKh=>?_)|((with_reducible refine W_gd (fun h=>?_) (fun h=>?_))<;>(try(exfalso;omega))))<;>(try simp(disch:=omega) only[go_sem,seval,Rf,List.length_map,sgn_nth, *]))))
  all_goals(refine W_ret res25 hQ ?_)
  all_goals(refine⟨_,_,Wk.of_eq ?_,?_,rfl,rfl⟩)
  all_goals first|(exact z_fg)|(rw[isT_drop,hx])
 ·have h1:a+k<L.length:=(List.getElem?_eq_some_iff.1 hx).1
  (repeat'(first|refine Ctl ?_|(with_reducible first|(refine Kof.use hK ?_;clear hK hE K E)|(refine Kof.use hKh ?_;clear hKh Kh)|refine G_plan 1 [] [0,1,2,3,4,5,6,7,8,9,10,11,12,13,14,15,16,17,18,19,20,21,22,23,24,25,26,27,28,29] hQe fun K E hK hE=>?_)|(((with_reducible first|refine G_region fun K E hK hE=>?_|refine P_fin fun Kh hKh=>?_))<;>(try simp(disch:=omega) only[go_sem,seval,Rf,List.length_map,sgn_nth,sgnC, *]))))
  all_goals(refine W_ret res25 hQ ?_)
  all_goals(refine⟨_,_,Wk.of_eq ?_,?_,rfl,rfl⟩)
  all_goals first|(exact z_fg)|(rw[isT_drop,hx])
def RP {α:Type}(L:List Sgn)(a n er bd:Nat)(res:PR α)(x:α)(a' n' er' bd':Nat):Prop:=
 a'≤L.length∧(er≠0→er'=er∧bd'=bd) ∧
 (er=0→match res with
  |.ok (y,L',m)=>y=x∧L'=L.drop a'∧m=n'∧er'=0
  |.error (p,k)=>er'=k∧k≠0∧bd'=p)
theorem isT_lt {L:List Sgn}{a k:Nat}{t:List UInt8}(h:isT (L.drop a) k t=true):a+k<L.length:=by
 rw[isT_drop]at h
 rcases hx:L[a+k]? with _|x
 ·rw[hx]at h;cases h
 ·exact(List.getElem?_eq_some_iff.1 hx).1
theorem drop_tl {L:List Sgn}{a:Nat}:(L.drop a).tail=L.drop (a+1):=List.tail_drop
theorem Rtakes_S (s:St)(r:Nat)(L:List Sgn)(e a n er bd:Nat)(t:List UInt8)(ha:a≤L.length)(hL:L.length≤4096) :
  SCalls Tryz.prog 56 [.ptr r 0,.str t] (Rf s r L e a n er bd) (fun w u=>∃q:Nat×Nat×Nat×Nat,w=.ret (.tup [])∧u=Rf s r L e q.1 q.2.1 q.2.2.1 q.2.2.2∧RP L a n er bd (mustP e (L.drop a) n t) () q.1 q.2.1 q.2.2.1 q.2.2.2):=by
 refine G_enter Tryz.func56 rfl Tryz.ntmps56 rfl fun Q hQ hQe=>?_
 (repeat'(first|refine Ctl ?_|((with_reducible refine Kof.use hK ?_);clear hK hE K E)|((with_reducible refine W_cond (fun h=>?_) (fun h=>?_)))|(((with_reducible first|refine G_region fun K E hK hE=>?_|refine call_ret can26 (Rfail_S _ _ _ _ _ _ _ _ _ (by decide)) ?_|refine call_ret can25 (Rfis_S _ _ _ _ _ _ _ _ _ _ (by omega) (by omega)) ?_))<;>(try simp(disch:=omega) only[go_sem,seval,Rf, *]))))
 all_goals(first|refine W_ret res56 hQ ?_|refine W_norm res56 hQ ?_)
 all_goals refine⟨_,_,Wk.of_eq rfl,Fg.refl _,(_,_,_,_),rfl,rfl,?_⟩
 ·simp only[RP,mustP,h]
  grind [fE_eq,fB_eq]
 ·have:=isT_lt h
  simp only[RP,mustP,h,drop_tl]
  grind
theorem GoodL.named {L:List Sgn}(h:GoodL L){a:Nat}{x:Sgn}(hx:L[a]?=some x):namedB (L.drop a)=RnameB x.text:=by
 have h1:a<L.length:=(List.getElem?_eq_some_iff.1 hx).1
 have hd:L.drop a=x::L.drop (a+1):=by rw[List.drop_eq_getElem_cons h1];rw[List.getElem?_eq_getElem h1]at hx;injection hx with hx;rw[hx]
 rw[hd]
 simp only[namedB,RnameB,h x (List.mem_of_getElem? hx)]
def RPn {α:Type}(L:List Sgn)(a n er bd:Nat)(res:PR α)(x:α)(a' n' er' bd':Nat):Prop:=RP L a n er bd res x a' n' er' bd'∧a'≤a+1
theorem RPn.rp {α:Type}{L:List Sgn}{a n er bd:Nat}{res:PR α}{x:α}{a' n' er' bd':Nat}(h:RPn L a n er bd res x a' n' er' bd'):RP L a n er bd res x a' n' er' bd':=h.1
theorem Rnm_S (s:St)(r:Nat)(L:List Sgn)(e a n er bd:Nat)(ha:a≤L.length)(hL:L.length≤4096)(hG:GoodL L) :
  SCalls Tryz.prog 57 [.ptr r 0] (Rf s r L e a n er bd) (fun w u=>∃q:List UInt8×Nat×Nat×Nat×Nat,w=.ret (.str q.1)∧u=Rf s r L e q.2.1 q.2.2.1 q.2.2.2.1 q.2.2.2.2∧RPn L a n er bd (nameP e (L.drop a) n) q.1 q.2.1 q.2.2.1 q.2.2.2.1 q.2.2.2.2):=by
 refine G_enter Tryz.func57 rfl Tryz.ntmps57 rfl fun Q hQ hQe=>?_
 rcases hx:L[a]? with _|x
 ·have h1:L.length≤a:=List.getElem?_eq_none_iff.1 hx
  have hd:L.drop a=[]:=List.drop_eq_nil_iff.2 h1
  (repeat'(first|refine Ctl ?_|(with_reducible first|(refine Kof.use hK ?_;clear hK hE K E)|(refine Kof.use hKh ?_;clear hKh Kh)|(refine Kof.use hKb (P_next ?_);clear hKb Kb)|refine G_plan 1 [([0,1,2,3,4,5,6,7,8,9,10,11,12,13,14,15,16,17,18,19,20,21],22,[[]])] [23,24] hQe fun K E hK hE=>?_)|((with_reducible refine W_cond (fun h=>?_) (fun h=>?_))<;>(try(exfalso;assumption)))|(((with_reducible first|refine G_region fun K E hK hE=>?_|refine call_ret can26 (Rfail_S _ _ _ _ _ _ _ _ _ (by decide)) ?_|refine P_heads fun Kh hKh=>?_|refine P_fin fun Kh hKh=>?_|refine P_each fun Kb hKb=>?_))<;>(try simp(disch:=assumption) only[go_sem,seval,Rf,List.length_map,sgn_nth, *]))))
  all_goals(refine W_ret res57 hQ ?_)
  all_goals refine⟨_,_,Wk.of_eq rfl,Fg.refl _,(_,_,_,_,_),rfl,rfl,?_,by simp only;omega⟩
  all_goals(simp only[RP,nameP,hd];grind [fE_eq,fB_eq,place,namedB,nameP])
 ·have h1:a<L.length:=(List.getElem?_eq_some_iff.1 hx).1
  have hd:L.drop a=x::L.drop (a+1):=by rw[List.drop_eq_getElem_cons h1];rw[List.getElem?_eq_getElem h1]at hx;injection hx with hx;rw[hx]
  have hn:=hG.named hx
  (repeat'(first|refine Ctl ?_|(with_reducible first|(refine Kof.use hK ?_;clear hK hE K E)|(refine Kof.use hKh ?_;clear hKh Kh)|(refine Kof.use hKb (P_next ?_);clear hKb Kb)|refine G_plan 1 [([0,1,2,3,4,5,6,7,8,9,10,11,12,13,14,15,16,17,18,19,20,21],22,[[]])] [23,24] hQe fun K E hK hE=>?_|refine G_plan 5 [] [0,1,2,3,4,5,6,7,8,9,10,11,12] hQe fun K E hK hE=>?_)|((with_reducible refine W_cond (fun h=>?_) (fun h=>?_)))|((first|(with_reducible first|refine G_region fun K E hK hE=>?_|refine call_ret can26 (Rfail_S _ _ _ _ _ _ _ _ _ (by decide)) ?_|refine call_ret can58 (Rname_S _ _) ?_|refine P_heads fun Kh hKh=>?_|refine P_fin fun Kh hKh=>?_|refine P_each fun Kb hKb=>?_)|((with_reducible refine W_gd (fun h=>?_) (fun h=>?_))<;>(try(exfalso;omega))))<;>(try simp(disch:=omega) only[go_sem,seval,Rf,List.length_map,sgn_nth,sgnC, *]))))
  all_goals(refine W_ret res57 hQ ?_)
  all_goals refine⟨_,_,Wk.of_eq rfl,Fg.refl _,(_,_,_,_,_),rfl,rfl,?_,by simp only;omega⟩
  all_goals(simp only[RP,nameP,hd];grind [fE_eq,fB_eq,place,namedB,nameP])
theorem RP.ok {α:Type}{L:List Sgn}{a n er bd:Nat}{res:PR α}{x:α}{a' n' er' bd':Nat}(h:RP L a n er bd res x a' n' er' bd')(he:er=0)(he':er'=0):res=.ok (x,L.drop a',n'):=by
 have h3:=h.2.2 he
 match res,h3 with
 |.ok (y,L',m),h3=>obtain⟨e1,e2,e3,_⟩:=h3;subst e1;subst e2;subst e3;rfl
 |.error (p,k),h3=>exact absurd (h3.1 ▸ he') h3.2.1
theorem RP.no {α:Type}{L:List Sgn}{a n er bd:Nat}{res:PR α}{x:α}{a' n' er' bd':Nat}(h:RP L a n er bd res x a' n' er' bd')(he:er=0)(he':er'≠0):res=.error (bd',er'):=by
 have h3:=h.2.2 he
 match res,h3 with
 |.ok (y,L',m),h3=>exact absurd h3.2.2.2 he'
 |.error (p,k),h3=>obtain⟨e1,_,e3⟩:=h3;subst e1;subst e3;rfl
theorem RP.old {α:Type}{L:List Sgn}{a n er bd:Nat}{res:PR α}{x:α}{a' n' er' bd':Nat}(h:RP L a n er bd res x a' n' er' bd')(he:er≠0):er'=er∧bd'=bd:=h.2.1 he
theorem RP.le {α:Type}{L:List Sgn}{a n er bd:Nat}{res:PR α}{x:α}{a' n' er' bd':Nat}(h:RP L a n er bd res x a' n' er' bd'):a'≤L.length:=h.1
theorem RP.mk_old {α:Type}{L:List Sgn}{a n er bd:Nat}{res:PR α}{x:α}{a' n':Nat}(ha:a'≤L.length)(he:er≠0):RP L a n er bd res x a' n' er bd:=⟨ha,fun _=>⟨rfl,rfl⟩,fun h=>absurd h he⟩
theorem RP.mk_ok {α:Type}{L:List Sgn}{a n bd:Nat}{x:α}{a' n' bd':Nat}(ha:a'≤L.length){res:PR α}(hr:res=.ok (x,L.drop a',n')):RP L a n 0 bd res x a' n' 0 bd':=⟨ha,fun h=>absurd rfl h,fun _=>by rw[hr];exact⟨rfl,rfl,rfl,rfl⟩⟩
theorem RP.mk_no {α:Type}{L:List Sgn}{a n bd:Nat}{x:α}{a' n' er' bd':Nat}(ha:a'≤L.length)(he:er'≠0){res:PR α}(hr:res=.error (bd',er')):RP L a n 0 bd res x a' n' er' bd':=⟨ha,fun h=>absurd rfl h,fun _=>by rw[hr];exact⟨rfl,he,rfl⟩⟩
theorem RP.bind {α β:Type}{L:List Sgn}{a n er bd:Nat}{r1:PR α}{k:α→List Sgn→Nat→PR β}{x:α}{y:β}{a1 n1 e1 b1 a2 n2 e2 b2:Nat}(h1:RP L a n er bd r1 x a1 n1 e1 b1)(h2:RP L a1 n1 e1 b1 (k x (L.drop a1) n1) y a2 n2 e2 b2) :
  RP L a n er bd (bnd r1 k) y a2 n2 e2 b2:=by
 by_cases he:er=0
 ·by_cases he1:e1=0
  ·rw[h1.ok he he1,bnd_ok]
   exact⟨h2.1,fun h=>absurd he h,fun _=>h2.2.2 he1⟩
  ·rw[h1.no he he1,bnd_err]
   obtain⟨q1,q2⟩:=h2.old he1
   exact⟨h2.1,fun h=>absurd he h,fun _=>⟨q1,he1,q2⟩⟩
 ·obtain⟨p1,p2⟩:=h1.old he
  obtain⟨q1,q2⟩:=h2.old (p1 ▸ he)
  exact⟨h2.1,fun _=>⟨q1.trans p1,q2.trans p2⟩,fun h=>absurd h he⟩
def nth (L:List Sgn)(a:Nat):Sgn:=(L[a]?).getD ⟨0,[],0⟩
theorem nth_eq {L:List Sgn}{a:Nat}(h:a<L.length):L[a]?=some (nth L a):=by simp[nth,h]
theorem sgn_at {L:List Sgn}{a:Nat}(h:a<L.length):(L.map sgnC)[a]?=some (sgnC (nth L a)):=by rw[sgn_nth,nth_eq h];rfl
theorem GoodL.nm {L:List Sgn}(hG:GoodL L){a:Nat}(h:a<L.length):namedB (L.drop a)=RnameB (nth L a).text:=hG.named (nth_eq h)
theorem named_end {L:List Sgn}{a:Nat}(h:L.length≤a):namedB (L.drop a)=false:=by rw[List.drop_eq_nil_iff.2 h];rfl
theorem RP.mk_same {α:Type}{L:List Sgn}{a n er bd:Nat}{x:α}(ha:a≤L.length):RP L a n er bd (.ok (x,L.drop a,n)) x a n er bd:=
 ⟨ha,fun _=>⟨rfl,rfl⟩,fun h=>⟨rfl,rfl,rfl,h⟩⟩
theorem RP.room {L:List Sgn}{e a n er bd k m er' bd':Nat}{b:Bool}(ha:a≤L.length)(h1:m≤k→b=true→er'=fE er 2∧bd'=fB er bd (place e (L.drop a)))(h2:er=0→¬ (m≤k∧b=true)→er'=er∧bd'=bd)(h3:er≠0→er'=er∧bd'=bd) :
  RP L a n er bd (roomP e (L.drop a) n k m b) () a n er' bd':=by
 refine⟨ha,h3,fun h0=>?_⟩
 unfold roomP
 by_cases h:m≤k∧b=true
 ·rw[if_pos h]
  obtain⟨e1,e2⟩:=h1 h.1 h.2
  rw[fE_eq,if_pos h0]at e1
  rw[fB_eq,if_pos h0]at e2
  exact⟨e1,by decide,e2⟩
 ·rw[if_neg h]
  obtain⟨e1,e2⟩:=h2 h0 h
  exact⟨rfl,rfl,rfl,e1.trans h0⟩
theorem RP.any {α:Type}{L:List Sgn}{a n er bd:Nat}{r1 r2:PR α}{x:α}{a' n' er' bd':Nat}(h:RP L a n er bd r1 x a' n' er' bd')(he:er≠0):RP L a n er bd r2 x a' n' er' bd':=⟨h.1,h.2.1,fun h0=>absurd h0 he⟩
def namesStep (e:Nat)(out:List (List UInt8))(L:List Sgn)(n:Nat):PR (List UInt8):=
 bnd (if 0<out.length then mustP e L n [44] else .ok ((),L,n)) fun _ L n=>bnd (roomP e L n out.length 8 (namedB L)) fun _ L n=>nameP e L n
theorem namesGo_step (e f:Nat)(out:List (List UInt8))(L:List Sgn)(n:Nat)(h:isT L 0 [41]=false):namesGo e (f+1) out L n=bnd (namesStep e out L n) fun x L n=>namesGo e f (out++[x]) L n:=by
 simp only[namesGo,h,namesStep,bnd_assoc,Bool.false_eq_true,if_false]
theorem namesGo_done (e f:Nat)(out:List (List UInt8))(L:List Sgn)(n:Nat)(h:isT L 0 [41]=true):namesGo e (f+1) out L n=bnd (mustP e L n [41]) fun _ L n=>.ok (out,L,n):=by
 simp only[namesGo,h,if_true,mustP,bnd_ok]
theorem namesStep_len {e n n':Nat}{out:List (List UInt8)}{L L':List Sgn}{x:List UInt8}(h:namesStep e out L n=.ok (x,L',n')):L'.length<L.length:=by
 unfold namesStep at h
 replace h:=bnd_inv h
 obtain⟨_,L1,n1,h1,h⟩:=h
 replace h:=bnd_inv h
 obtain⟨_,L2,n2,h2,h⟩:=h
 obtain⟨rfl,rfl⟩:=roomP_eq h2
 have e3:=nameP_len h
 split at h1
 ·have:=mustP_len h1;omega
 ·obtain⟨_,rfl,rfl⟩:=ok_inj h1;omega
theorem namesGo_fuel {e:Nat}:∀(f f':Nat) (out:List (List UInt8)) (L:List Sgn) (n:Nat),L.length<f→L.length<f'→namesGo e f out L n=namesGo e f' out L n
 |0,_,_,_,_,h,_=>by omega
 |_,0,_,_,_,_,h=>by omega
 |f+1,f'+1,out,L,n,h,h'=>by
  cases ht:isT L 0 [41]with
  |true=>rw[namesGo_done _ _ _ _ _ ht,namesGo_done _ _ _ _ _ ht]
  |false=>
   rw[namesGo_step _ _ _ _ _ ht,namesGo_step _ _ _ _ _ ht]
   cases hs:namesStep e out L n with
   |error y=>rfl
   |ok v=>
    obtain⟨x,L',n'⟩:=v
    rw[bnd_ok,bnd_ok]
    have:=namesStep_len hs
    exact namesGo_fuel f f' _ _ _ (by omega) (by omega)
theorem Rnames_S (s:St)(r:Nat)(L:List Sgn)(e a n er bd:Nat)(ha:a≤L.length)(hL:L.length≤4096)(hG:GoodL L) :
  SCalls Tryz.prog 99 [.ptr r 0] (Rf s r L e a n er bd) (fun w u=>∃q:List (List UInt8)×Nat×Nat×Nat×Nat,w=.ret (strsV q.1)∧u=Rf s r L e q.2.1 q.2.2.1 q.2.2.2.1 q.2.2.2.2∧RP L a n er bd (namesP e (L.drop a) n) q.1 q.2.1 q.2.2.1 q.2.2.2.1 q.2.2.2.2):=by
 refine G_enter Tryz.func99 rfl Tryz.ntmps99 rfl fun Q hQ hQe=>?_
 (repeat'(first|refine Ctl ?_|((with_reducible refine Kof.use hK ?_);clear hK hE K E)|((with_reducible refine Eof.use hE ?_);(try clear hK hE K E))|((with_reducible refine Kof.use hKh ?_);clear hKh Kh)|((with_reducible refine Kof.use hKb (P_next ?_));clear hKb Kb)|(with_reducible refine G_plan 6 [([0,1,2,3,4,5,6,7,8,9,10,11,12,13,14,15,16,17,18,19,20,21,22,23,24,25,26,27,28,29,30,31,32,33],34,[[]])] [35] hQe fun K E hK hE=>?_)|((with_reducible refine W_cond (fun h=>?_) (fun h=>?_))<;>(try(exfalso;first|assumption|omega)))|((first|(with_reducible first|refine G_region fun K E hK hE=>?_|refine call_ret can26 (Rfail_S _ _ _ _ _ _ _ _ _ (by decide)) ?_|refine call_ret can25 (Rfis_S _ _ _ _ _ _ _ _ _ _ (by omega) (by omega)) ?_|refine call_ret can58 (Rname_S _ _) ?_|refine W_if ?_|refine W_ifS ?_|refine P_heads fun Kh hKh=>?_|refine P_fin fun Kh hKh=>?_|refine P_each fun Kb hKb=>?_|refine W_and ?_)|((with_reducible refine call_ex can56 (Rtakes_S _ _ _ _ _ _ _ _ _ (by first|assumption|omega) (by assumption)) (fun a h=>?_));obtain⟨ax,nx,ex,bx⟩:=a;(try dsimp only at h);(try have hle:=h.1))|((with_reducible refine call_ex can57 (Rnm_S _ _ _ _ _ _ _ _ (by first|assumption|omega) (by assumption) (by assumption)) (fun a h=>?_));obtain⟨vx,ax,nx,ex,bx⟩:=a;(try dsimp only at h);have hup:=h.2;replace h:=RPn.rp h;(try have hle:=h.1))|((with_reducible refine W_app (fun o2 ho=>?_));(try simp(disch:=assumption) only[disown_set,disown_own,ownok_o,ownok_m,List.length_map,List.length_cons,List.length_nil,Nat.zero_add,Rf,List.length_map,sgn_at,sgnC]at ho);(repeat(obtain⟨_,ho⟩:=ho)))|((with_reducible refine W_gd (fun h=>?_) (fun h=>?_))<;>(try(exfalso;first|assumption|omega))))<;>(try simp(disch:=first|assumption|omega) only[go_sem,seval,Rf,List.length_map,sgn_at,sgnC, *]))))
 have hax:=h.le
 have ggo:∀(q:List (List UInt8)) (a' n' er' bd':Nat),RP L ax nx ex bx (namesGo e (L.length+1) [] (L.drop ax) nx) q a' n' er' bd'→RP L a n er bd (namesP e (L.drop a) n) q a' n' er' bd':=fun q a' n' er' bd' hh=>by
  unfold namesP
  refine RP.bind h ?_
  rw[namesGo_fuel _ (L.length+1) _ _ _ (by omega) (by rw[List.length_drop];omega)]
  exact hh
 refine L_loop (fun m env s'=>∃(a2 n2 er2 bd2:Nat) (out:List (List UInt8)) (o:Own),a2≤L.length∧(m=if er2=0 then L.length - a2+1 else 0)∧(er2=0→out.length+(L.length - a2)≤5000)∧out.length≤5001 ∧
   (∀(q:List (List UInt8)) (a' n' er' bd':Nat),RP L a2 n2 er2 bd2 (namesGo e (L.length+1) out (L.drop a2) n2) q a' n' er' bd'→RP L a n er bd (namesP e (L.drop a) n) q a' n' er' bd') ∧
   s'=Rf (s.own o 9 1 out.length) r L e a2 n2 er2 bd2∧OwnOk s o out.length∧NotOwn o r∧env 0=.ptr r 0∧env 3=.lst (out.map strC) o) (if ex=0 then L.length - ax+1 else 0) ?_ ?_
 ·exact⟨ax,nx,ex,bx,[],.full,hax,rfl,fun _=>by simp;omega,by simp,ggo,rfl,rfl,trivial,z_sl,z_sl⟩
 ·rintro m env s' ⟨a2,n2,er2,bd2,out,o,ha2,hm,hlen,hl1,hgo,rfl,hown,hnr,e0,e3⟩
  clear ggo
  by_cases hz:er2=0
  ·subst hz
   rw[if_pos rfl]at hm
   replace hlen:=hlen rfl
   (repeat'(first|refine Ctl ?_|((with_reducible refine Kof.use hK ?_);clear hK hE K E)|((with_reducible refine Eof.use hE ?_);(try clear hK hE K E))|((with_reducible refine Kof.use hKh ?_);clear hKh Kh)|((with_reducible refine Kof.use hKb (P_next ?_));clear hKb Kb)|(with_reducible refine G_plan 6 [([0,1,2,3,4,5,6,7,8,9,10,11,12,13,14,15,16,17,18,19,20,21,22,23,24,25,26,27,28,29,30,31,32,33],34,[[]])] [35] hQe fun K E hK hE=>?_)|((with_reducible refine W_cond (fun h=>?_) (fun h=>?_))<;>(try(exfalso;first|assumption|omega)))|((first|(with_reducible first|refine G_region fun K E hK hE=>?_|refine call_ret can26 (Rfail_S _ _ _ _ _ _ _ _ _ (by decide)) ?_|refine call_ret can25 (Rfis_S _ _ _ _ _ _ _ _ _ _ (by omega) (by omega)) ?_|refine call_ret can58 (Rname_S _ _) ?_|refine W_if ?_|refine W_ifS ?_|refine P_heads fun Kh hKh=>?_|refine P_fin fun Kh hKh=>?_|refine P_each fun Kb hKb=>?_|refine W_and ?_)|((with_reducible refine call_ex can56 (Rtakes_S _ _ _ _ _ _ _ _ _ (by first|assumption|omega) (by assumption)) (fun a h=>?_));obtain⟨ax,nx,ex,bx⟩:=a;(try dsimp only at h);(try have hle:=h.1))|((with_reducible refine call_ex can57 (Rnm_S _ _ _ _ _ _ _ _ (by first|assumption|omega) (by assumption) (by assumption)) (fun a h=>?_));obtain⟨vx,ax,nx,ex,bx⟩:=a;(try dsimp only at h);have hup:=h.2;replace h:=RPn.rp h;(try have hle:=h.1))|((with_reducible refine W_app (fun o2 ho=>?_));(try simp(disch:=assumption) only[disown_set,disown_own,ownok_o,ownok_m,List.length_map,List.length_cons,List.length_nil,Nat.zero_add,Rf,List.length_map,sgn_at,sgnC]at ho);(repeat(obtain⟨_,ho⟩:=ho)))|((with_reducible refine W_gd (fun h=>?_) (fun h=>?_))<;>(try(exfalso;first|assumption|omega))))<;>(try simp(disch:=first|assumption|omega) only[go_sem,seval,Rf,List.length_map,sgn_at,sgnC, *]))))
   all_goals try(
    have hq:=hgo
    rw[namesGo_done _ _ _ _ _ (by assumption)]at hq
    (first|refine W_ret res99 hQ ?_|refine W_norm res99 hQ ?_|refine G_pan hQ ?_)
    refine⟨_,_,?_,?_,(out,ax,nx,ex,bx),rfl,rfl,?_⟩
    ·exact Wk.lst _ _
    ·(exact z_fg)
    ·exact hq _ _ _ _ _ (RP.bind h (RP.mk_same h.le)))
   all_goals
    have hs:RP L a2 n2 0 bd2 (namesStep e out (L.drop a2) n2) vx ax nx ex bx:=by
     apply RP.bind (x:=())
     ·first|(rw[if_pos (by omega)];assumption)|(rw[if_neg (by omega)];exact RP.mk_same ha2)
     ·apply RP.bind (x:=()) (h2:=h)
      refine RP.room (by omega) ?_ ?_ ?_<;>grind [fE_eq,fB_eq,GoodL.nm,named_end]
    have hlt:ex=0→ax > a2:=fun h0=>by
     have:=namesStep_len (hs.ok rfl h0)
     rw[List.length_drop,List.length_drop]at this
     omega
    refine⟨if ex=0 then L.length - ax+1 else 0,by split<;>first|omega|(have:=hlt ‹_›;omega),ax,nx,ex,bx,out++[vx],o2,hle,rfl,fun h0=>?_,?_,fun q a' n' er' bd' hh=>?_,?_,by simpa using ho,by assumption,z_sl,?_⟩
    ·simp only[List.length_append,List.length_cons,List.length_nil];have:=hlt h0;omega
    ·simp only[List.length_append,List.length_cons,List.length_nil];omega
    ·refine hgo q a' n' er' bd' ?_
     rw[namesGo_step _ _ _ _ _ (by assumption)]
     refine RP.bind hs ?_
     by_cases h0:ex=0
     ·rw[namesGo_fuel _ (L.length+1) _ _ _ (by rw[List.length_drop];have:=hlt h0;omega) (by rw[List.length_drop];omega)]
      exact hh
     ·exact hh.any h0
    ·simp only[List.length_append,List.length_cons,List.length_nil]
    ·(simp(disch:=first|assumption|omega) only[go_sem,seval, *])
     simp[strC]
  ·have hz':¬ (er2:Int)=0:=by omega
   rw[if_neg hz]at hm
   (repeat'(first|refine Ctl ?_|((with_reducible refine Kof.use hK ?_);clear hK hE K E)|((with_reducible refine Eof.use hE ?_);(try clear hK hE K E))|((with_reducible refine Kof.use hKh ?_);clear hKh Kh)|((with_reducible refine Kof.use hKb (P_next ?_));clear hKb Kb)|(with_reducible refine G_plan 6 [([0,1,2,3,4,5,6,7,8,9,10,11,12,13,14,15,16,17,18,19,20,21,22,23,24,25,26,27,28,29,30,31,32,33],34,[[]])] [35] hQe fun K E hK hE=>?_)|((with_reducible refine W_cond (fun h=>?_) (fun h=>?_))<;>(try(exfalso;first|assumption|omega)))|((first|(with_reducible first|refine G_region fun K E hK hE=>?_|refine call_ret can26 (Rfail_S _ _ _ _ _ _ _ _ _ (by decide)) ?_|refine call_ret can25 (Rfis_S _ _ _ _ _ _ _ _ _ _ (by omega) (by omega)) ?_|refine call_ret can58 (Rname_S _ _) ?_|refine W_if ?_|refine W_ifS ?_|refine P_heads fun Kh hKh=>?_|refine P_fin fun Kh hKh=>?_|refine P_each fun Kb hKb=>?_|refine W_and ?_)|((with_reducible refine call_ex can56 (Rtakes_S _ _ _ _ _ _ _ _ _ (by first|assumption|omega) (by assumption)) (fun a h=>?_));obtain⟨ax,nx,ex,bx⟩:=a;(try dsimp only at h);(try have hle:=h.1))|((with_reducible refine call_ex can57 (Rnm_S _ _ _ _ _ _ _ _ (by first|assumption|omega) (by assumption) (by assumption)) (fun a h=>?_));obtain⟨vx,ax,nx,ex,bx⟩:=a;(try dsimp only at h);have hup:=h.2;replace h:=RPn.rp h;(try have hle:=h.1))|((with_reducible refine W_app (fun o2 ho=>?_));(try simp(disch:=assumption) only[disown_set,disown_own,ownok_o,ownok_m,List.length_map,List.length_cons,List.length_nil,Nat.zero_add,Rf,List.length_map,sgn_at,sgnC]at ho);(repeat(obtain⟨_,ho⟩:=ho)))|((with_reducible refine W_gd (fun h=>?_) (fun h=>?_))<;>(try(exfalso;first|assumption|omega))))<;>(try simp(disch:=first|assumption|omega) only[go_sem,seval,Rf,List.length_map,sgn_at,sgnC, *]))))
   all_goals(first|refine W_ret res99 hQ ?_|refine W_norm res99 hQ ?_|refine G_pan hQ ?_)
   all_goals refine⟨_,_,?_,?_,(out,ax,nx,ex,bx),rfl,rfl,?_⟩
   ·exact Wk.lst _ _
   ·(exact z_fg)
   ·have:=h.old hz
    exact hgo _ _ _ _ _ (by rw[this.1,this.2];exact RP.mk_old h.le hz)
theorem isT_tail {L:List Sgn}{k:Nat}{t:List UInt8}:isT L.tail k t=isT L (k+1) t:=by
 unfold isT
 cases L<;>simp
theorem rf_out {s:St}{r b:Nat}{xs:List VV}{c:Cell}(h:¬ b=r):(s.set r (.obj 80 xs)).set b c=(s.set b c).set r (.obj 80 xs):=by
 funext x
 simp only[St.set]
 by_cases h1:x=b
 ·subst h1;simp[h]
 ·simp[h1]
theorem WkL.nostrs {o:Own}{xs ys:List VV}(h:WkL xs ys):WkL (.lst [] o::xs) (strsV []::ys):=.lst [] o h
theorem WkL.nosts {o:Own}{xs ys:List VV}(h:WkL xs ys):WkL (.lst [] o::xs) (.lst (stsC []) .no::ys):=.lst [] o h
theorem fin_stm {S s0:St}{r:Nat}{L:List Sgn}{e a n er bd a' n' er' bd' k:Nat}{d s c m:List UInt8}{ar:List (List UInt8)}{o t:List Stm}{xs:List VV}{res:PR Stm}
  (hw:WkL xs [.int .i64 k,.str d,.str s,.str c,.str m,strsV ar,.lst (stsC o) .no,.lst (stsC t) .no]) (hf:Fg S (Rf s0 r L e a' n' er' bd')) (hr:RP L a n er bd res (.mk k d s c m ar o t) a' n' er' bd') :
  ∃y s',Wk (.agg xs) y∧Fg S s'∧∃q:Stm×Nat×Nat×Nat×Nat,SEnd.ret y=.ret (stV q.1)∧s'=Rf s0 r L e q.2.1 q.2.2.1 q.2.2.2.1 q.2.2.2.2∧RP L a n er bd res q.1 q.2.1 q.2.2.1 q.2.2.2.1 q.2.2.2.2:=
 ⟨_,_,wk_st hw,hf,(.mk k d s c m ar o t,a',n',er',bd'),rfl,rfl,hr⟩
theorem fin_val {S s0:St}{r:Nat}{L:List Sgn}{e a n er bd a' n' er' bd':Nat}{α:Type}{enc:α→VV}{x:α}{res:PR α}
  (hf:Fg S (Rf s0 r L e a' n' er' bd')) (hr:RP L a n er bd res x a' n' er' bd') :
  ∃y s',Wk (enc x) y∧Fg S s'∧∃q:α×Nat×Nat×Nat×Nat,SEnd.ret y=.ret (enc q.1)∧s'=Rf s0 r L e q.2.1 q.2.2.1 q.2.2.2.1 q.2.2.2.2∧RP L a n er bd res q.1 q.2.1 q.2.2.1 q.2.2.2.1 q.2.2.2.2:=
 ⟨_,_,Wk.refl _,hf,(x,a',n',er',bd'),rfl,rfl,hr⟩
def valueP (e:Nat)(dst:List UInt8)(L:List Sgn)(n:Nat):PR Stm:=
 bnd (nameP e L n) fun src L n=>
  if isT L 0 [46]=true∨isT L 0 [58,58]=true then callP e dst src true L n else .ok (.mk 2 dst src [] [] [] [] [],L,n)
theorem Rvalue_S (s:St)(r:Nat)(L:List Sgn)(e a n er bd:Nat)(dst:List UInt8)(ha:a≤L.length)(hL:L.length≤4096)(hG:GoodL L) :
  SCalls Tryz.prog 170 [.ptr r 0,.str dst] (Rf s r L e a n er bd) (fun w u=>∃q:Stm×Nat×Nat×Nat×Nat,w=.ret (stV q.1)∧u=Rf s r L e q.2.1 q.2.2.1 q.2.2.2.1 q.2.2.2.2∧RP L a n er bd (valueP e dst (L.drop a) n) q.1 q.2.1 q.2.2.1 q.2.2.2.1 q.2.2.2.2):=by
 refine G_enter Tryz.func170 rfl Tryz.ntmps170 rfl fun Q hQ hQe=>?_
 (repeat'(first|refine Ctl ?_|(with_reducible first|(refine Kof.use hK ?_;clear hK hE K E)|(refine Kof.use hKh ?_;clear hKh Kh)|(refine Kof.use hKb (P_next ?_);clear hKb Kb)|refine G_plan 4 [([0,1,2,3],4,[[0,1,2]]),([5],6,[[],[]])] [] hQe fun K E hK hE=>?_)|((with_reducible refine W_cond (fun h=>?_) (fun h=>?_))<;>(try have hlt:=isT_lt h))|((first|(with_reducible first|refine G_region fun K E hK hE=>?_|refine call_ret can25 (Rfis_S _ _ _ _ _ _ _ _ _ _ (by omega) (by omega)) ?_|refine P_heads fun Kh hKh=>?_|refine P_fin fun Kh hKh=>?_|refine P_each fun Kb hKb=>?_)|((with_reducible refine call_ex can57 (Rnm_S _ _ _ _ _ _ _ _ (by first|assumption|omega) (by assumption) (by assumption)) (fun a h=>?_));obtain⟨vx,ax,nx,ex,bx⟩:=a;(try dsimp only at h);have hup:=h.2;replace h:=RPn.rp h;(try have hle:=h.1))|((with_reducible refine call_ex can99 (Rnames_S _ _ _ _ _ _ _ _ (by assumption) (by assumption) (by assumption)) (fun a h=>?_));obtain⟨vx,ax,nx,ex,bx⟩:=a;(try dsimp only at h);(try have hle:=h.1))|((with_reducible refine W_fresh (fun b hb=>?_));(repeat(obtain⟨_,hb⟩:=hb))))<;>(try simp(disch:=first|assumption|omega) only[go_sem,seval,Rf,strsV,rf_out, *]))))
 all_goals(refine W_ret res170 hQ ?_)
 all_goals
  refine fin_stm (by(repeat(first|exact WkL.nil|apply WkL.nostrs|apply WkL.nosts|apply WkL.same))) (z_fg) ?_
  unfold valueP
  (repeat(first|exact RP.mk_same (by assumption)|(refine RP.bind (by assumption) ?_)|(simp only[bnd_ok,bnd_assoc,drop_tl,isT_tail,true_or,or_true,or_self,true_and,and_true,false_and,and_false,and_self,false_or,or_false,if_true,if_false,reduceIte,Bool.false_eq_true,Bool.true_eq_false,eq_self,reduceCtorEq,List.drop_drop, *,callP,mustP])))
def storeP (e:Nat)(L:List Sgn)(n:Nat):PR Stm:=bnd (nameP e L n) fun first L n=>callP e [] first false L n
theorem Rstore_S (s:St)(r:Nat)(L:List Sgn)(e a n er bd:Nat)(ha:a≤L.length)(hL:L.length≤4096)(hG:GoodL L) :
  SCalls Tryz.prog 171 [.ptr r 0] (Rf s r L e a n er bd) (fun w u=>∃q:Stm×Nat×Nat×Nat×Nat,w=.ret (stV q.1)∧u=Rf s r L e q.2.1 q.2.2.1 q.2.2.2.1 q.2.2.2.2∧RP L a n er bd (storeP e (L.drop a) n) q.1 q.2.1 q.2.2.1 q.2.2.2.1 q.2.2.2.2):=by
 refine G_enter Tryz.func171 rfl Tryz.ntmps171 rfl fun Q hQ hQe=>?_
 (repeat'(first|refine Ctl ?_|(with_reducible first|(refine Kof.use hK ?_;clear hK hE K E)|(refine Kof.use hKh ?_;clear hKh Kh)|(refine Kof.use hKb (P_next ?_);clear hKb Kb)|refine G_plan 4 [([0,1,2],3,[[0,1]]),([4],5,[[],[]])] [] hQe fun K E hK hE=>?_)|((with_reducible refine W_cond (fun h=>?_) (fun h=>?_))<;>(try have hlt:=isT_lt h))|((first|(with_reducible first|refine G_region fun K E hK hE=>?_|refine call_ret can25 (Rfis_S _ _ _ _ _ _ _ _ _ _ (by omega) (by omega)) ?_|refine P_heads fun Kh hKh=>?_|refine P_fin fun Kh hKh=>?_|refine P_each fun Kb hKb=>?_)|((with_reducible refine call_ex can56 (Rtakes_S _ _ _ _ _ _ _ _ _ (by assumption) (by assumption)) (fun a h=>?_));obtain⟨ax,nx,ex,bx⟩:=a;(try dsimp only at h);(try have hle:=h.1))|((with_reducible refine call_ex can57 (Rnm_S _ _ _ _ _ _ _ _ (by first|assumption|omega) (by assumption) (by assumption)) (fun a h=>?_));obtain⟨vx,ax,nx,ex,bx⟩:=a;(try dsimp only at h);have hup:=h.2;replace h:=RPn.rp h;(try have hle:=h.1))|((with_reducible refine call_ex can99 (Rnames_S _ _ _ _ _ _ _ _ (by assumption) (by assumption) (by assumption)) (fun a h=>?_));obtain⟨vx,ax,nx,ex,bx⟩:=a;(try dsimp only at h);(try have hle:=h.1))|((with_reducible refine W_fresh (fun b hb=>?_));(repeat(obtain⟨_,hb⟩:=hb))))<;>(try simp(disch:=first|assumption|omega) only[go_sem,seval,Rf,strsV,rf_out, *]))))
 all_goals(refine W_ret res171 hQ ?_)
 all_goals
  refine fin_stm (by(repeat(first|exact WkL.nil|apply WkL.nosts|apply WkL.same))) (z_fg) ?_
  unfold storeP
  (repeat(first|exact RP.mk_same (by assumption)|(refine RP.bind (by assumption) ?_)|(simp only[bnd_ok,bnd_assoc,drop_tl,isT_tail,true_or,or_true,or_self,true_and,and_true,false_and,and_false,and_self,false_or,or_false,if_true,if_false,reduceIte,Bool.false_eq_true,Bool.true_eq_false,eq_self,reduceCtorEq,List.drop_drop, *,callP])))
theorem bnd_id {α:Type}(x:PR α):(bnd x fun y L n=>.ok (y,L,n))=x:=by
 cases x with
 |error y=>rfl
 |ok v=>rfl
theorem nameP_ok {e:Nat}{L L':List Sgn}{n n':Nat}{x:List UInt8}(h:nameP e L n=.ok (x,L',n')):L'=L.tail∧n'=n:=by
 unfold nameP at h
 split at h
 ·cases h
 ·split at h
  ·obtain⟨_,rfl,rfl⟩:=ok_inj h;exact⟨rfl,rfl⟩
  ·cases h
theorem bnd_name {β:Type}{e:Nat}{L:List Sgn}{n:Nat}{k k':List UInt8→List Sgn→Nat→PR β}(h:∀x,k x L.tail n=k' x L.tail n):bnd (nameP e L n) k=bnd (nameP e L n) k':=by
 cases hn:nameP e L n with
 |error y=>rfl
 |ok v=>
  obtain⟨x,L',n'⟩:=v
  obtain⟨rfl,rfl⟩:=nameP_ok hn
  exact h x
theorem plainP_1 {e:Nat}{L:List Sgn}{n:Nat}(h:isT L 1 [61]=true):plainP e L n=bnd (nameP e L n) fun first L n=>
  if isT L.tail 0 [110,101,119] then bnd (nameP e L.tail.tail n) fun x L n=>.ok (.mk 1 first [] [] x [] [] [],L,n)else valueP e first L.tail n:=by
 refine bnd_name fun first=>?_
 have h0:isT L.tail 0 [61]=true:=by rw[isT_tail];exact h
 simp only[h0,if_true,valueP,bnd_id]
theorem plainP_2 {e:Nat}{L:List Sgn}{n:Nat}(h:isT L 1 [61]=false)(h1:isT L 1 [46]=true)(h3:isT L 3 [61]=true):plainP e L n=bnd (nameP e L n) fun first L n=>
  bnd (nameP e L.tail n) fun x L n=>bnd (mustP e L n [61]) fun _ L n=>bnd (nameP e L n) fun src L n=>.ok (.mk 4 first src [] x [] [] [],L,n):=by
 refine bnd_name fun first=>?_
 have h0:isT L.tail 0 [61]=false:=by rw[isT_tail];exact h
 have h1:isT L.tail 0 [46]=true:=by rw[isT_tail];exact h1
 have h3:isT L.tail 2 [61]=true:=by rw[isT_tail];exact h3
 simp only[h0,h1,h3,and_self,if_true,Bool.false_eq_true,if_false,mustP,bnd_ok]
theorem plainP_3 {e:Nat}{L:List Sgn}{n:Nat}(h:isT L 1 [61]=false)(h1:isT L 1 [46]=false∨isT L 3 [61]=false):plainP e L n=storeP e L n:=by
 refine bnd_name fun first=>?_
 have h0:isT L.tail 0 [61]=false:=by rw[isT_tail];exact h
 have hh:¬ (isT L.tail 0 [46]=true∧isT L.tail 2 [61]=true):=by
  rw[isT_tail,isT_tail]
  rintro⟨e1,e2⟩
  rcases h1 with h1|h1
  ·rw[h1]at e1;cases e1
  ·rw[h1]at e2;cases e2
 simp only[h0,Bool.false_eq_true,if_false,if_neg hh,bnd_id]
set_option maxHeartbeats 1000000 in
theorem Rplain_S (s:St)(r:Nat)(L:List Sgn)(e a n er bd:Nat)(ha:a≤L.length)(hL:L.length≤4096)(hG:GoodL L) :
    SCalls Tryz.prog 158 [.ptr r 0] (Rf s r L e a n er bd) (fun w u=>∃q:Stm×Nat×Nat×Nat×Nat,w=.ret (stV q.1)∧u=Rf s r L e q.2.1 q.2.2.1 q.2.2.2.1 q.2.2.2.2∧RP L a n er bd (plainP e (L.drop a) n) q.1 q.2.1 q.2.2.1 q.2.2.2.1 q.2.2.2.2):=by
  refine G_enter Tryz.func158 rfl Tryz.ntmps158 rfl fun Q hQ hQe=>?_
  (repeat'(first|refine Ctl ?_|((with_reducible refine Kof.use hK ?_);clear hK hE K E)|((with_reducible refine W_cond (fun h=>?_) (fun h=>?_))<;>(try have hlt:=isT_lt h)<;>(try(exfalso;assumption)))|((first|(with_reducible first|refine G_region fun K E hK hE=>?_|refine call_ret can25 (Rfis_S _ _ _ _ _ _ _ _ _ _ (by omega) (by omega)) ?_)|((with_reducible refine call_ex can56 (Rtakes_S _ _ _ _ _ _ _ _ _ (by assumption) (by assumption)) (fun a h=>?_));obtain⟨ax,nx,ex,bx⟩:=a;(try dsimp only at h);(try have hle:=h.1))|((with_reducible refine call_ex can57 (Rnm_S _ _ _ _ _ _ _ _ (by first|assumption|omega) (by assumption) (by assumption)) (fun a h=>?_));obtain⟨vx,ax,nx,ex,bx⟩:=a;(try dsimp only at h);have hup:=h.2;replace h:=RPn.rp h;(try have hle:=h.1))|((with_reducible refine call_ex can170 (Rvalue_S _ _ _ _ _ _ _ _ _ (by first|assumption|omega) (by assumption) (by assumption)) (fun a h=>?_));obtain⟨vx,ax,nx,ex,bx⟩:=a;(try dsimp only at h);(try have hle:=h.1))|((with_reducible refine call_ex can171 (Rstore_S _ _ _ _ _ _ _ _ (by assumption) (by assumption) (by assumption)) (fun a h=>?_));obtain⟨vx,ax,nx,ex,bx⟩:=a;(try dsimp only at h);(try have hle:=h.1))|((with_reducible refine W_fresh (fun b hb=>?_));(repeat(obtain⟨_,hb⟩:=hb)))|((with_reducible refine W_gd (fun h=>?_) (fun h=>?_))<;>(try have hlt:=isT_lt h)))<;>(try simp(disch:=first|assumption|omega) only[go_sem,seval,Rf,strsV,stV,stC_len,stC_all,stC_take,rf_out, *]))))
  all_goals(refine G_ret hQ (by simp(disch:=assumption) only[res158,go_sem,seval,stC_len,stC_all,stC_take,Nat.le_refl, *]<;>rfl) ?_)
  all_goals first
    | (refine fin_stm (by (repeat (first | exact WkL.nil | apply WkL.nostrs | apply WkL.nosts | apply WkL.same | apply WkL.lst))) (z_fg) ?_
       first|rw[plainP_1 (by assumption)]|rw[plainP_2 (by assumption) (by assumption) (by assumption)]
       (repeat(first|exact RP.mk_same (by first|assumption|omega)|assumption|(refine RP.bind (by assumption) ?_)|(simp only[bnd_ok,bnd_assoc,drop_tl,isT_tail,true_or,or_true,or_self,true_and,and_true,false_and,and_false,and_self,false_or,or_false,if_true,if_false,reduceIte,Bool.false_eq_true,Bool.true_eq_false,eq_self,reduceCtorEq,List.drop_drop, *])));done)
    | (refine fin_val (enc := stV) (z_fg) ?_
       first|rw[plainP_1 (by assumption)]|rw[plainP_3 (by assumption) (by first|exact .inl (by assumption)|exact .inr (by assumption))]
       (repeat(first|exact RP.mk_same (by first|assumption|omega)|assumption|(refine RP.bind (by assumption) ?_)|(simp only[bnd_ok,bnd_assoc,drop_tl,isT_tail,true_or,or_true,or_self,true_and,and_true,false_and,and_false,and_self,false_or,or_false,if_true,if_false,reduceIte,Bool.false_eq_true,Bool.true_eq_false,eq_self,reduceCtorEq,List.drop_drop, *])));done)
section
variable {L : List Sgn} {a n er bd e a' n' er' bd' a0 n0 f deep : Nat}
theorem RP.back {α:Type}{res:PR α}{x:α}(h:RP L a n er bd res x a' n' er' bd')(h0:er'=0):er=0:=by
 by_cases he:er=0
 ·exact he
 ·exact absurd ((h.old he).1 ▸ h0) he
theorem drop_len (h:(L.drop a').length+1≤(L.drop a0).length)(ha:a'≤L.length):a0+1≤a':=by
 rw[List.length_drop,List.length_drop]at h;omega
theorem RPl_must {t:List UInt8}(h:RP L a n er bd (mustP e (L.drop a0) n0 t) () a' n' er' bd'):er'=0→er=0∧a0+1≤a'∧n'=n0:=fun h0=>by
 have:=mustP_len (h.ok (h.back h0) h0)
 exact⟨h.back h0,drop_len (by omega) h.le,this.2⟩
theorem RPl_name {x:List UInt8}(h:RP L a n er bd (nameP e (L.drop a0) n0) x a' n' er' bd'):er'=0→er=0∧a0+1≤a'∧n'=n0:=fun h0=>by
 have:=nameP_len (h.ok (h.back h0) h0)
 exact⟨h.back h0,drop_len (by omega) h.le,this.2⟩
theorem RPl_plain {x:Stm}(h:RP L a n er bd (plainP e (L.drop a0) n0) x a' n' er' bd'):er'=0→er=0∧a0+1≤a'∧n'=n0:=fun h0=>by
 have:=plainP_len (h.ok (h.back h0) h0)
 exact⟨h.back h0,drop_len (by omega) h.le,this.2⟩
theorem RPl_block {x:List Stm}(h:RP L a n er bd (blockP e f deep (L.drop a0) n0) x a' n' er' bd'):er'=0→er=0∧a0+1≤a'∧n'+(L.length - a')≤n0+(L.length - a0):=fun h0=>by
 have:=(parse_len e f).2.1 _ _ _ _ _ _ (h.ok (h.back h0) h0)
 rw[List.length_drop,List.length_drop]at this
 have:=h.le
 exact⟨h.back h0,by omega,by omega⟩
theorem RPl_stmt {x:Stm}(h:RP L a n er bd (stmtP e f deep (L.drop a0) n0) x a' n' er' bd'):er'=0→er=0∧a0+1≤a'∧n'+(L.length - a')≤n0+(L.length - a0):=fun h0=>by
 have:=(parse_len e f).1 _ _ _ _ _ _ (h.ok (h.back h0) h0)
 rw[List.length_drop,List.length_drop]at this
 have:=h.le
 exact⟨h.back h0,by omega,by omega⟩
end
def StmtR (f:Nat):Prop:=∀(s:St) (r:Nat) (L:List Sgn) (e a n bd deep:Nat),a<L.length→L.length≤4096→GoodL L→deep≤8→3 * (L.length - a)+1≤f→n+(L.length - a)≤10000 →
  SCalls Tryz.prog 135 [.ptr r 0,.int .i64 deep] (Rf s r L e a n 0 bd) (fun w u=>∃q:Stm×Nat×Nat×Nat×Nat,w=.ret (stV q.1)∧u=Rf s r L e q.2.1 q.2.2.1 q.2.2.2.1 q.2.2.2.2∧RP L a n 0 bd (stmtP e f deep (L.drop a) n) q.1 q.2.1 q.2.2.1 q.2.2.2.1 q.2.2.2.2)
def BlockR (f:Nat):Prop:=∀(s:St) (r:Nat) (L:List Sgn) (e a n er bd deep:Nat),a≤L.length→L.length≤4096→GoodL L→deep≤8→(er=0→3 * (L.length - a)+3≤f∧n+(L.length - a)≤10000) →
  SCalls Tryz.prog 100 [.ptr r 0,.int .i64 deep] (Rf s r L e a n er bd) (fun w u=>∃q:List Stm×Nat×Nat×Nat×Nat,w=.ret (stsV q.1)∧u=Rf s r L e q.2.1 q.2.2.1 q.2.2.2.1 q.2.2.2.2∧RP L a n er bd (blockP e f deep (L.drop a) n) q.1 q.2.1 q.2.2.1 q.2.2.2.1 q.2.2.2.2)
set_option maxHeartbeats 4000000 in
theorem Rstmt_S (f:Nat)(ih:BlockR f):StmtR (f+1):=by
  unfold BlockR at ih
  intro s r L e a n bd deep ha hL hG hd hf hn
  have hal:a≤L.length:=by omega
  refine G_enter Tryz.func135 rfl Tryz.ntmps135 rfl fun Q hQ hQe=>?_
  have hbeg:begB (L.drop a)=(RnameB (nth L a).text || isT (L.drop a) 0 [105,102] || isT (L.drop a) 0 [108,111,111,112] || isT (L.drop a) 0 [114,101,116,117,114,110]):=by unfold begB;rw[hG.nm ha]
  (repeat'(first|refine Ctl ?_|(with_reducible first|(refine Kof.use hK ?_;clear hK hE K E)|(refine Kof.use hKh ?_;clear hKh Kh)|(refine Kof.use hKb (P_next ?_);clear hKb Kb)|refine G_plan 1 [([0,1,2,3,4,5,6],7,[[]]),([8,9],10,[[],[]]),([11,12,13],14,[[],[],[]]),([15,16,17,18,19,20,21,22,23,24,25,26,27],28,[[],[],[],[]])] [29,30] hQe fun K E hK hE=>?_)|((with_reducible refine W_cond (fun h=>?_) (fun h=>?_))<;>(try have hlt:=isT_lt h)<;>(try(exfalso;assumption)))|((first|(with_reducible first|refine G_region fun K E hK hE=>?_|refine call_ret can26 (Rfail_S _ _ _ _ _ _ _ _ _ (by decide)) ?_|refine call_ret can25 (Rfis_S _ _ _ _ _ _ _ _ _ _ (by omega) (by omega)) ?_|refine call_ret can58 (Rname_S _ _) ?_|refine P_heads fun Kh hKh=>?_|refine P_fin fun Kh hKh=>?_|refine P_each fun Kb hKb=>?_)|((with_reducible refine call_ex can100 (ih _ _ _ _ _ _ _ _ _ (by first|assumption|omega) (by assumption) (by assumption) (by assumption) ?_) (fun a h=>?_));(focus (intro h0;first|(simp[fE_eq]at h0;done)|omega));obtain⟨vx,ax,nx,ex,bx⟩:=a;(try dsimp only at h);(try have hle:=h.1);(try have hlen:=RPl_block h))|((with_reducible refine call_ex can56 (Rtakes_S _ _ _ _ _ _ _ _ _ (by assumption) (by assumption)) (fun a h=>?_));obtain⟨ax,nx,ex,bx⟩:=a;(try dsimp only at h);(try have hle:=h.1);(try have hlen:=RPl_must h))|((with_reducible refine call_ex can57 (Rnm_S _ _ _ _ _ _ _ _ (by first|assumption|omega) (by assumption) (by assumption)) (fun a h=>?_));obtain⟨vx,ax,nx,ex,bx⟩:=a;(try dsimp only at h);have hup:=h.2;replace h:=RPn.rp h;(try have hle:=h.1);(try have hlen:=RPl_name h))|((with_reducible refine call_ex can158 (Rplain_S _ _ _ _ _ _ _ _ (by assumption) (by assumption) (by assumption)) (fun a h=>?_));obtain⟨vx,ax,nx,ex,bx⟩:=a;(try dsimp only at h);(try have hle:=h.1);(try have hlen:=RPl_plain h))|((with_reducible refine W_fresh (fun b hb=>?_));(repeat(obtain⟨_,hb⟩:=hb)))|((with_reducible refine W_gd (fun h=>?_) (fun h=>?_))<;>(try have hlt:=isT_lt h)))<;>(try simp(disch:=first|assumption|omega) only[go_sem,seval,Rf,strsV,stsV,stV,stC_len,stC_all,stC_take,rf_out,sgn_at,sgnC, *]))))
  all_goals(refine G_ret hQ (by simp(disch:=assumption) only[res135,go_sem,seval,stC_len,stC_all,stC_take,Nat.le_refl, *]<;>rfl) ?_)
  all_goals
    clear ih hQe
    have hroom:(1024≤n→begB (L.drop a)=true→RP L a n 0 bd (roomP e (L.drop a) n n 1024 (begB (L.drop a))) () a n (fE 0 2) (fB 0 bd (place e (L.drop a)))):=fun h1 h2=>RP.room hal (fun _ _=>⟨rfl,rfl⟩) (fun _ h=>absurd ⟨h1,h2⟩ h) (fun h=>absurd rfl h)
    have hroom2:(¬ (1024≤n∧begB (L.drop a)=true)→RP L a n 0 bd (roomP e (L.drop a) n n 1024 (begB (L.drop a))) () a n 0 bd):=fun h=>RP.room hal (fun h1 h2=>absurd ⟨h1,h2⟩ h) (fun _ _=>⟨rfl,rfl⟩) (fun h=>absurd rfl h)
    rcases Decidable.em (1024≤n∧begB (L.drop a)=true)with hc|hc
    · replace hroom:=hroom hc.1 hc.2
      clear hroom2
      first
        | (exfalso
           obtain⟨hc1,hc2⟩:=hc
           rw[hbeg]at hc2
           first|omega|(simp[*]at hc2;done))
        | (clear hc hbeg
           refine fin_stm (by(repeat(first|exact WkL.nil|apply WkL.nostrs|apply WkL.nosts|apply WkL.same))) (z_fg) ?_
           simp only[stmtP]
           (repeat(first|exact RP.mk_same (by first|assumption|omega)|assumption|(refine RP.bind (by assumption) ?_)|(simp only[bnd_ok,bnd_assoc,drop_tl,isT_tail,true_or,or_true,or_self,true_and,and_true,false_and,and_false,and_self,false_or,or_false,if_true,if_false,reduceIte,Bool.false_eq_true,Bool.true_eq_false,eq_self,reduceCtorEq,List.drop_drop, *])));done)
        | (clear hc hbeg
           refine fin_val (enc:=stV) (z_fg) ?_
           simp only[stmtP]
           (repeat(first|exact RP.mk_same (by first|assumption|omega)|assumption|(refine RP.bind (by assumption) ?_)|(simp only[bnd_ok,bnd_assoc,drop_tl,isT_tail,true_or,or_true,or_self,true_and,and_true,false_and,and_false,and_self,false_or,or_false,if_true,if_false,reduceIte,Bool.false_eq_true,Bool.true_eq_false,eq_self,reduceCtorEq,List.drop_drop, *])));done)
    · replace hroom2:=hroom2 hc
      clear hroom
      first
        | (exfalso
           refine hc ⟨by omega,?_⟩
           rw[hbeg]
           simp[*]
           done)
        | (clear hc hbeg
           refine fin_stm (by(repeat(first|exact WkL.nil|apply WkL.nostrs|apply WkL.nosts|apply WkL.same))) (z_fg) ?_
           simp only[stmtP]
           (repeat(first|exact RP.mk_same (by first|assumption|omega)|assumption|(refine RP.bind (by assumption) ?_)|(simp only[bnd_ok,bnd_assoc,drop_tl,isT_tail,true_or,or_true,or_self,true_and,and_true,false_and,and_false,and_self,false_or,or_false,if_true,if_false,reduceIte,Bool.false_eq_true,Bool.true_eq_false,eq_self,reduceCtorEq,List.drop_drop, *])));done)
        | (clear hc hbeg
           refine fin_val (enc:=stV) (z_fg) ?_
           simp only[stmtP]
           (repeat(first|exact RP.mk_same (by first|assumption|omega)|assumption|(refine RP.bind (by assumption) ?_)|(simp only[bnd_ok,bnd_assoc,drop_tl,isT_tail,true_or,or_true,or_self,true_and,and_true,false_and,and_false,and_self,false_or,or_false,if_true,if_false,reduceIte,Bool.false_eq_true,Bool.true_eq_false,eq_self,reduceCtorEq,List.drop_drop, *])));done)
theorem stmtsP_done {e g deep:Nat}{out:List Stm}{L:List Sgn}{n:Nat}(h:isT L 0 [125]=true):stmtsP e (g+1) deep out L n=bnd (mustP e L n [125]) fun _ L n=>.ok (out,L,n):=by
 simp only[stmtsP,h,if_true,mustP,bnd_ok]
theorem stmtsP_step {e g deep:Nat}{out:List Stm}{L:List Sgn}{n:Nat}(h:isT L 0 [125]=false):stmtsP e (g+1) deep out L n=bnd (stmtP e g (deep+1) L n) fun x L n=>stmtsP e g deep (out++[x]) L n:=by
 simp only[stmtsP,h,Bool.false_eq_true,if_false]
theorem stmtP_nil {e g deep n:Nat}:stmtP e (g+1) deep [] n=.error (e,150):=by
 have h1:begB []=false:=rfl
 have h2:∀t,isT [] 0 t=false:=fun t=>rfl
 simp only[stmtP,roomP,h1,h2,Bool.false_eq_true,and_false,if_false,bnd_ok,plainP,nameP,bnd_err]
set_option maxHeartbeats 4000000 in
theorem Rblock_S (f:Nat)(ih:∀g,g≤f→StmtR g):BlockR (f+1):=by
  unfold StmtR at ih
  intro s r L e a n er bd deep ha hL hG hd hf
  refine G_enter Tryz.func100 rfl Tryz.ntmps100 rfl fun Q hQ hQe=>?_
  (repeat'(first|refine Ctl ?_|((with_reducible refine Kof.use hK ?_);clear hK hE K E)|((with_reducible refine W_cond (fun h=>?_) (fun h=>?_))<;>(try(exfalso;assumption)))|((first|(with_reducible first|refine G_region fun K E hK hE=>?_|refine call_ret can26 (Rfail_S _ _ _ _ _ _ _ _ _ (by decide)) ?_|refine call_ret can25 (Rfis_S _ _ _ _ _ _ _ _ _ _ (by omega) (by omega)) ?_)|((with_reducible refine call_ex can56 (Rtakes_S _ _ _ _ _ _ _ _ _ (by assumption) (by assumption)) (fun a h=>?_));obtain⟨ax,nx,ex,bx⟩:=a;(try dsimp only at h);(try have hle:=h.1);(try have hlen:=RPl_must h))|((with_reducible refine W_gd (fun h=>?_) (fun h=>?_))))<;>(try simp(disch:=assumption) only[go_sem,seval,Rf,strsV,stsV,rf_out,stsC_len, *]))))
  all_goals
    have hst:RP L a n er bd (bnd (roomP e (L.drop a) n deep 8 (isT (L.drop a) 0 [123])) fun _ L n=>mustP e L n [123]) () ax nx ex bx:=by
      refine RP.bind (x:=()) ?_ h
      refine RP.room ha ?_ ?_ ?_<;>grind [fE_eq,fB_eq]
    have hd7:ex=0→deep≤7∧er=0∧a+1≤ax∧nx=n:=fun h0=>by
      have e1:=hlen h0
      have e0:=hst.back h0
      refine⟨?_,e0,e1.2.1,e1.2.2⟩
      have hok:=hst.ok e0 h0
      replace hok:=bnd_inv hok
      obtain⟨_,L1,n1,h1,h2⟩:=hok
      have hq:isT L1 0 [123]=true:=by
        unfold mustP at h2
        split at h2
        · assumption
        · cases h2
      obtain⟨q1,q2⟩:=roomP_eq h1
      subst q1
      unfold roomP at h1
      split at h1
      · cases h1
      · rename_i hn
        have hn8:=fun h8=>hn ⟨h8,hq⟩
        rcases Nat.lt_or_ge deep 8 with h8|h8
        · omega
        · exact(hn8 h8).elim
    clear h hlen
    have hgo0:∀(q:List Stm) (a' n' er' bd':Nat),RP L ax nx ex bx (stmtsP e f deep [] (L.drop ax) nx) q a' n' er' bd'→RP L a n er bd (blockP e (f+1) deep (L.drop a) n) q a' n' er' bd':=fun q a' n' er' bd' hh=>by
      simp only[blockP]
      have:=RP.bind hst (k:=fun _ L n=>stmtsP e f deep [] L n) hh
      rwa [bnd_assoc]at this
    clear hst
    refine L_loop (fun m env s'=>∃(a2 n2 er2 bd2 g:Nat) (out:List Stm) (o:Own),a2≤L.length∧(m=if er2=0 then g+1 else 0)∧(er2=0→deep≤7∧3 * (L.length - a2)+2≤g∧g≤f∧n2+(L.length - a2)≤10000∧out.length+(L.length - a2)≤5000)∧out.length≤5001 ∧
      (∀(q:List Stm) (a' n' er' bd':Nat),RP L a2 n2 er2 bd2 (stmtsP e g deep out (L.drop a2) n2) q a' n' er' bd'→RP L a n er bd (blockP e (f+1) deep (L.drop a) n) q a' n' er' bd') ∧
      s'=Rf (s.own o 149 8 out.length) r L e a2 n2 er2 bd2∧OwnOk s o out.length∧NotOwn o r∧env 0=.ptr r 0∧env 1=.int .i64 deep∧env 5=.lst (stsC out) o) (if ex=0 then f+1 else 0) ?_ ?_
    · exact⟨ax,nx,ex,bx,f,[],.full,hle,rfl,fun h0=>(by have:=hd7 h0;have:=hf this.2.1;simp;omega),by simp,hgo0,rfl,rfl,trivial,z_sl,z_sl,z_sl⟩
    · rintro m env s' ⟨a2,n2,er2,bd2,g,out,o,ha2,hm,hb,hl1,hgo,rfl,hown,hnr,e0,e1,e5⟩
      clear hgo0 hd7
      by_cases hz:er2=0
      · subst hz
        rw[if_pos rfl]at hm
        obtain⟨hd7,hg1,hg2,hn2,hlo⟩:=hb rfl
        clear hb
        obtain⟨g,rfl⟩:∃g',g=g'+1:=⟨g - 1,by omega⟩
        replace ih:=ih g (by omega)
        (repeat'(first|refine Ctl ?_|(with_reducible first|(refine Kof.use hK ?_;clear hK hE K E)|(refine Kof.use hKh ?_;clear hKh Kh)|refine G_plan 6 [] [0,1,2,3,4,5,6,7,8,9] hQe fun K E hK hE=>?_)|((with_reducible refine W_cond (fun h=>?_) (fun h=>?_))<;>(try(exfalso;omega)))|((first|(with_reducible first|refine G_region fun K E hK hE=>?_|refine call_ret can26 (Rfail_S _ _ _ _ _ _ _ _ _ (by decide)) ?_|refine call_ret can25 (Rfis_S _ _ _ _ _ _ _ _ _ _ (by omega) (by omega)) ?_|refine P_fin fun Kh hKh=>?_)|((with_reducible refine call_ex can135 (ih _ _ _ _ _ _ _ _ (by omega) (by assumption) (by assumption) (by omega) (by omega) (by omega)) (fun a h=>?_));obtain⟨vx,ax,nx,ex,bx⟩:=a;(try dsimp only at h);(try have hle:=h.1);(try have hlen:=RPl_stmt h))|((with_reducible refine call_ex can56 (Rtakes_S _ _ _ _ _ _ _ _ _ (by assumption) (by assumption)) (fun a h=>?_));obtain⟨ax,nx,ex,bx⟩:=a;(try dsimp only at h);(try have hle:=h.1))|((with_reducible refine W_app (fun o2 ho=>?_));(try simp(disch:=assumption) only[disown_set,disown_own,ownok_o,ownok_m,List.length_map,List.length_cons,List.length_nil,Nat.zero_add,Rf,List.length_map,sgn_at,sgnC,stsC_len,stV,stC_len,stC_all,vrow]at ho);(repeat(obtain⟨_,ho⟩:=ho))))<;>(try simp(disch:=first|assumption|omega) only[go_sem,seval,Rf,List.length_map,sgn_at,sgnC,stsC_len,stV,stC_len,stC_all,vrow, *]))))
        all_goals clear ih
        all_goals first
          | (have hd2 : L.drop a2 = [] := List.drop_eq_nil_iff.2 (by omega)
             have hE:fE 0 150=150:=by rw[fE_eq];rfl
             have hB:fB 0 bd2 (place e (L.drop a2))=e:=by rw[fB_eq,hd2];rfl
             rw[hE,hB]
             refine⟨0,by omega,a2,n2,150,e,g,out,o,ha2,rfl,(fun h0=>by cases h0),hl1,fun q a' n' er' bd' hh=>?_,rfl,hown,hnr,z_sl,z_sl,z_sl⟩
             refine hgo _ _ _ _ _ ?_
             rw[stmtsP_step (by assumption)]
             obtain⟨g1,rfl⟩:∃g1,g=g1+1:=⟨g - 1,by omega⟩
             refine RP.bind (x:=Stm.mk 0 [] [] [] [] [] [] []) (a1:=a2) (n1:=n2) (RP.mk_no ha2 (by decide) (by rw[hd2,stmtP_nil])) (hh.any (by decide)))
          | (refine ⟨if ex = 0 then g + 1 else 0, by split <;> omega, ax, nx, ex, bx, g, out ++ [vx], o2, hle, rfl, fun h0 => ?_, ?_, fun q a' n' er' bd' hh => ?_, ?_, by simpa using ho, by assumption, z_sl, z_sl, ?_⟩
             · have:=hlen h0;simp only[List.length_append,List.length_cons,List.length_nil];omega
             · simp only[List.length_append,List.length_cons,List.length_nil];omega
             · refine hgo _ _ _ _ _ ?_
               rw[stmtsP_step (by assumption)]
               exact RP.bind h hh
             · simp only[List.length_append,List.length_cons,List.length_nil]
             · (simp(disch:=assumption) only[go_sem,seval, *])
               rw[stsC_app])
          | (rw [stmtsP_done (by assumption)] at hgo
             (refine W_ret res100 hQ ?_)
             refine⟨_,_,?_,?_,(out,ax,nx,ex,bx),rfl,rfl,?_⟩
             · exact Wk.lst _ _
             · (exact z_fg)
             · exact hgo _ _ _ _ _ (RP.bind h (RP.mk_same h.le)))
      · have hz':¬ (er2:Int)=0:=by omega
        rw[if_neg hz]at hm
        clear ih
        (repeat'(first|refine Ctl ?_|((with_reducible refine Kof.use hK ?_);clear hK hE K E)|((with_reducible refine W_cond (fun h=>?_) (fun h=>?_))<;>(try(exfalso;assumption)))|((first|(with_reducible refine G_region fun K E hK hE=>?_)|((with_reducible refine call_ex can56 (Rtakes_S _ _ _ _ _ _ _ _ _ (by assumption) (by assumption)) (fun a h=>?_));obtain⟨ax,nx,ex,bx⟩:=a;(try dsimp only at h);(try have hle:=h.1)))<;>(try simp(disch:=assumption) only[go_sem,seval,Rf,List.length_map,sgn_at,sgnC,stsC_len, *]))))
        all_goals(refine W_ret res100 hQ ?_)
        all_goals refine⟨_,_,?_,?_,(out,ax,nx,ex,bx),rfl,rfl,?_⟩
        · exact Wk.lst _ _
        · (exact z_fg)
        · have:=h.old hz
          exact hgo _ _ _ _ _ (by rw[this.1,this.2];exact RP.mk_old h.le hz)
theorem parse_okR:∀f,StmtR f∧BlockR f:=by
  intro f
  induction f using Nat.strongRecOn with
  |_ f ih=>
    cases f with
    |zero=>
      have hs:StmtR 0:=fun s r L e a n bd deep _ _ _ _ h _=>absurd h (by omega)
      refine⟨hs,fun s r L e a n er bd deep ha hL hG hd hf=>?_⟩
      have hz:er≠0:=fun h0=>absurd (hf h0).1 (by omega)
      refine (Rblock_S 0 (fun g hg => by have : g = 0 := by omega
                                         subst this;exact hs) s r L e a n er bd deep ha hL hG hd (fun h0=>absurd h0 hz)).mono ?_
      rintro w u ⟨q,h1,h2,h3⟩
      exact⟨q,h1,h2,h3.any hz⟩
    |succ f=>exact⟨Rstmt_S f (ih f (by omega)).2,Rblock_S f fun g hg=>(ih g (by omega)).1⟩
theorem RblockA (s:St)(r:Nat)(L:List Sgn)(e a n er bd deep:Nat)(ha:a≤L.length)(hL:L.length≤4096)(hG:GoodL L)(hd:deep≤8)(hf:er=0→n+(L.length - a)≤10000) :
  SCalls Tryz.prog 100 [.ptr r 0,.int .i64 deep] (Rf s r L e a n er bd) (fun w u=>∃q:List Stm×Nat×Nat×Nat×Nat,w=.ret (stsV q.1)∧u=Rf s r L e q.2.1 q.2.2.1 q.2.2.2.1 q.2.2.2.2∧RP L a n er bd (blockP e (3 * (L.drop a).length+3) deep (L.drop a) n) q.1 q.2.1 q.2.2.1 q.2.2.2.1 q.2.2.2.2):=
 (parse_okR _).2 s r L e a n er bd deep ha hL hG hd fun h0=>⟨by rw[List.length_drop];omega,hf h0⟩
def mthP (e:Nat)(L:List Sgn)(n:Nat):PR Mth:=
 bnd (nameP e (if isT L 0 [115,116,97,116,105,99] then L.tail else L) n) fun x L' n=>bnd (namesP e L' n) fun ps L' n=>
  bnd (blockP e (3 * L'.length+3) 0 L' n) fun b L' n=>.ok (⟨isT L 0 [115,116,97,116,105,99],x,ps,b⟩,L',n)
theorem mthsP_step {e f:Nat}{out:List Mth}{L:List Sgn}{n:Nat}(h:isT L 0 [125]=false):mthsP e (f+1) out L n =
  bnd (roomP e L n out.length 32 (namedB L || isT L 0 [115,116,97,116,105,99])) fun _ L n=>bnd (mthP e L n) fun m L n=>mthsP e f (out++[m]) L n:=by
 simp only[mthsP,h,Bool.false_eq_true,if_false,mthP,bnd_assoc,bnd_ok]
theorem mthsP_done {e f:Nat}{out:List Mth}{L:List Sgn}{n:Nat}(h:isT L 0 [125]=true):mthsP e (f+1) out L n=bnd (mustP e L n [125]) fun _ L n=>.ok (out,L,n):=by
 simp only[mthsP,h,if_true,mustP,bnd_ok]
def mthV (m:Mth):VV:=.agg (mthC m)
theorem RPl_names {L:List Sgn}{a n er bd e a' n' er' bd' a0 n0:Nat}{x:List (List UInt8)}(h:RP L a n er bd (namesP e (L.drop a0) n0) x a' n' er' bd'):er'=0→er=0∧a0+1≤a'∧n'=n0:=fun h0=>by
 have:=namesP_len (h.ok (h.back h0) h0)
 exact⟨h.back h0,drop_len (by omega) h.le,this.2⟩
theorem mthP_len {e:Nat}{L L':List Sgn}{n n':Nat}{m:Mth}(h:mthP e L n=.ok (m,L',n')):L'.length+1≤L.length∧n'+L'.length≤n+L.length:=by
 unfold mthP at h
 replace h:=bnd_inv h
 obtain⟨x,L1,n1,h1,h⟩:=h
 replace h:=bnd_inv h
 obtain⟨ps,L2,n2,h2,h⟩:=h
 replace h:=bnd_inv h
 obtain⟨b,L3,n3,h3,h⟩:=h
 obtain⟨_,rfl,rfl⟩:=ok_inj h
 have e1:=nameP_len h1
 have e2:=namesP_len h2
 have e3:=(parse_len e _).2.1 _ _ _ _ _ _ h3
 have:(if isT L 0 [115,116,97,116,105,99]=true then L.tail else L).length≤L.length:=by split<;>simp
 omega
theorem RPl_mth {L:List Sgn}{a n er bd e a' n' er' bd' a0 n0:Nat}{x:Mth}(h:RP L a n er bd (mthP e (L.drop a0) n0) x a' n' er' bd'):er'=0→er=0∧a0+1≤a'∧n'+(L.length - a')≤n0+(L.length - a0):=fun h0=>by
 have:=mthP_len (h.ok (h.back h0) h0)
 rw[List.length_drop,List.length_drop]at this
 have:=h.le
 exact⟨h.back h0,by omega,by omega⟩
theorem isT_end {L:List Sgn}{a k:Nat}{t:List UInt8}(h:L.length≤a):isT (L.drop a) k t=false:=by rw[List.drop_eq_nil_iff.2 h];rfl
theorem Wk_cls {x y:List UInt8}{ms:List Mth}{o:Own}:Wk (.agg [.str x,.str y,.lst (ms.map mthC) o]) (clsV ⟨x,y,ms⟩):=Wk.agg (.same _ (.same _ (.lst _ _ .nil)))
theorem fin_cls {S s0:St}{r:Nat}{L:List Sgn}{e a n er bd a' n' er' bd':Nat}{x y:List UInt8}{ms:List Mth}{o:Own}{res:PR Cls}
  (hf:Fg S (Rf s0 r L e a' n' er' bd')) (hr:RP L a n er bd res ⟨x,y,ms⟩ a' n' er' bd') :
  ∃z s',Wk (.agg [.str x,.str y,.lst (ms.map mthC) o]) z∧Fg S s'∧∃q:Cls×Nat×Nat×Nat×Nat,SEnd.ret z=.ret (clsV q.1)∧s'=Rf s0 r L e q.2.1 q.2.2.1 q.2.2.2.1 q.2.2.2.2∧RP L a n er bd res q.1 q.2.1 q.2.2.1 q.2.2.2.1 q.2.2.2.2:=
 ⟨_,_,Wk_cls,hf,(⟨x,y,ms⟩,a',n',er',bd'),rfl,rfl,hr⟩
set_option maxHeartbeats 1000000 in
theorem Rmethod_S (s:St)(r:Nat)(L:List Sgn)(e a n er bd:Nat)(ha:a≤L.length)(hL:L.length≤4096)(hG:GoodL L)(hf:er=0→n+(L.length - a)≤10000) :
  SCalls Tryz.prog 59 [.ptr r 0] (Rf s r L e a n er bd) (fun w u=>∃q:Mth×Nat×Nat×Nat×Nat,w=.ret (mthV q.1)∧u=Rf s r L e q.2.1 q.2.2.1 q.2.2.2.1 q.2.2.2.2∧RP L a n er bd (mthP e (L.drop a) n) q.1 q.2.1 q.2.2.1 q.2.2.2.1 q.2.2.2.2):=by
 have hblk:=fun s r L e a n er bd=>RblockA s r L e a n er bd 0
 refine G_enter Tryz.func59 rfl Tryz.ntmps59 rfl fun Q hQ hQe=>?_
 (repeat'(first|refine Ctl ?_|((with_reducible refine Kof.use hK ?_);clear hK hE K E)|((with_reducible refine W_cond (fun h=>?_) (fun h=>?_))<;>(try have hlt:=isT_lt h))|((first|(with_reducible first|refine G_region fun K E hK hE=>?_|refine call_ret can25 (Rfis_S _ _ _ _ _ _ _ _ _ _ (by omega) (by omega)) ?_)|((with_reducible refine call_ex can100 (hblk _ _ _ _ _ _ _ _ (by assumption) (by assumption) (by assumption) (by decide) ?_) (fun a h=>?_));(focus (intro h0;omega));obtain⟨vx,ax,nx,ex,bx⟩:=a;(try dsimp only at h);(try have hle:=h.1);(try have hlen:=RPl_block h))|((with_reducible refine call_ex can57 (Rnm_S _ _ _ _ _ _ _ _ (by first|assumption|omega) (by assumption) (by assumption)) (fun a h=>?_));obtain⟨vx,ax,nx,ex,bx⟩:=a;(try dsimp only at h);have hup:=h.2;replace h:=RPn.rp h;(try have hle:=h.1);(try have hlen:=RPl_name h))|((with_reducible refine call_ex can99 (Rnames_S _ _ _ _ _ _ _ _ (by assumption) (by assumption) (by assumption)) (fun a h=>?_));obtain⟨vx,ax,nx,ex,bx⟩:=a;(try dsimp only at h);(try have hle:=h.1);(try have hlen:=RPl_names h))|((with_reducible refine W_fresh (fun b hb=>?_));(repeat(obtain⟨_,hb⟩:=hb))))<;>(try simp(disch:=first|assumption|omega) only[go_sem,seval,Rf,strsV,stsV,rf_out, *]))))
 all_goals(refine W_ret res59 hQ ?_)
 all_goals
  refine fin_val (enc:=mthV) (x:=⟨_,_,_,_⟩) (z_fg) ?_
  unfold mthP
  (repeat(first|exact RP.mk_same (by assumption)|(refine RP.bind (by assumption) ?_)|(simp only[bnd_ok,bnd_assoc,drop_tl,isT_tail,true_or,or_true,or_self,true_and,and_true,false_and,and_false,and_self,false_or,or_false,if_true,if_false,reduceIte,Bool.false_eq_true,Bool.true_eq_false,eq_self,reduceCtorEq,List.drop_drop, *])))
set_option maxHeartbeats 4000000 in
theorem Rclass_S (s:St)(r:Nat)(L:List Sgn)(e a n er bd:Nat)(ha:a≤L.length)(hL:L.length≤4096)(hG:GoodL L)(hf:er=0→n+(L.length - a)≤10000) :
    SCalls Tryz.prog 27 [.ptr r 0] (Rf s r L e a n er bd) (fun w u=>∃q:Cls×Nat×Nat×Nat×Nat,w=.ret (clsV q.1)∧u=Rf s r L e q.2.1 q.2.2.1 q.2.2.2.1 q.2.2.2.2∧RP L a n er bd (classP e (L.drop a) n) q.1 q.2.1 q.2.2.1 q.2.2.2.1 q.2.2.2.2):=by
  refine G_enter Tryz.func27 rfl Tryz.ntmps27 rfl fun Q hQ hQe=>?_
  (repeat'(first|refine Ctl ?_|((with_reducible refine Kof.use hK ?_);clear hK hE K E)|((with_reducible refine W_cond (fun h=>?_) (fun h=>?_))<;>(try have hlt:=isT_lt h))|((first|(with_reducible first|refine G_region fun K E hK hE=>?_|refine call_ret can25 (Rfis_S _ _ _ _ _ _ _ _ _ _ (by omega) (by omega)) ?_)|((with_reducible refine call_ex can56 (Rtakes_S _ _ _ _ _ _ _ _ _ (by assumption) (by assumption)) (fun a h=>?_));obtain⟨ax,nx,ex,bx⟩:=a;(try dsimp only at h);(try have hle:=h.1);(try have hlen:=RPl_must h))|((with_reducible refine call_ex can57 (Rnm_S _ _ _ _ _ _ _ _ (by first|assumption|omega) (by assumption) (by assumption)) (fun a h=>?_));obtain⟨vx,ax,nx,ex,bx⟩:=a;(try dsimp only at h);have hup:=h.2;replace h:=RPn.rp h;(try have hle:=h.1);(try have hlen:=RPl_name h))|((with_reducible refine W_fresh (fun b hb=>?_));(repeat(obtain⟨_,hb⟩:=hb))))<;>(try simp(disch:=first|assumption|omega) only[go_sem,seval,Rf,rf_out, *]))))
  · rename_i b0 q1 q2 hb0 a1 n1 e1 k1 r1 l1 m1 x a2 n2 e2 k2 u2 r2 l2 m2 q3 q4 q5 q6 hx a3 n3 e3 k3 r3 l3 m3
    have hgo0:∀(ms:List Mth) (a' n' er' bd':Nat),RP L ax nx ex bx (mthsP e ((L.drop ax).length+1) [] (L.drop ax) nx) ms a' n' er' bd'→RP L a n er bd (classP e (L.drop a) n) ⟨x,vx,ms⟩ a' n' er' bd':=fun ms a' n' er' bd' hh=>by
      have hfin:RP L a' n' er' bd' (.ok ((⟨x,vx,ms⟩:Cls),L.drop a',n')) (⟨x,vx,ms⟩:Cls) a' n' er' bd':=RP.mk_same hh.le
      unfold classP
      (repeat(first|assumption|(refine RP.bind (by assumption) ?_)|(simp only[bnd_ok,bnd_assoc,drop_tl,isT_tail,true_or,or_true,or_self,true_and,and_true,false_and,and_false,and_self,false_or,or_false,if_true,if_false,reduceIte,Bool.false_eq_true,Bool.true_eq_false,eq_self,reduceCtorEq,List.drop_drop, *])))
    have hb0':ex=0→a≤ax∧nx+(L.length - ax)≤10000:=fun h0=>by
      grind
    replace hgo0:∀(ms:List Mth) (a' n' er' bd':Nat),RP L ax nx ex bx (mthsP e (L.length - ax+1) [] (L.drop ax) nx) ms a' n' er' bd'→RP L a n er bd (classP e (L.drop a) n) ⟨x,vx,ms⟩ a' n' er' bd':=fun ms a' n' er' bd' hh=>hgo0 ms a' n' er' bd' (by rw[List.length_drop];exact hh)
    refine L_loop (fun m env s'=>∃(a4 n4 er4 bd4 g:Nat) (out:List Mth) (o:Own),a4≤L.length∧(m=if er4=0 then g+1 else 0)∧(er4=0→L.length - a4+1≤g∧n4+(L.length - a4)≤10000∧out.length+(L.length - a4)≤5000)∧out.length≤5001 ∧
      (∀(q:List Mth) (a' n' er' bd':Nat),RP L a4 n4 er4 bd4 (mthsP e g out (L.drop a4) n4) q a' n' er' bd'→RP L a n er bd (classP e (L.drop a) n) ⟨x,vx,q⟩ a' n' er' bd') ∧
      s'=Rf (((s.own o 93 4 out.length).set b0 (.obj 85 [.str [],.str [],.lst [] .full])).set b (.obj 85 [.str x,.str vx,.lst (out.map mthC) o])) r L e a4 n4 er4 bd4 ∧
      OwnOk s o out.length∧NotOwn o r∧NotOwn o b0∧NotOwn o b∧env 0=.ptr r 0∧env 2=.ptr b0 0∧env 3=.ptr b 0) (if ex=0 then L.length - ax+1+1 else 0) ?_ ?_
    · exact⟨ax,nx,ex,bx,_,[],.full,hle,rfl,fun h0=>(by have:=hb0' h0;simp;omega),by simp,hgo0,rfl,rfl,trivial,trivial,trivial,z_sl,z_sl,z_sl⟩
    · rintro m env s' ⟨a4,n4,er4,bd4,g,out,o,ha4,hm,hbb,hl1,hgo,rfl,hown,hnr,hn0,hnb,z0,z2,z3⟩
      clear hgo0 hb0'
      by_cases hz:er4=0
      · subst hz
        rw[if_pos rfl]at hm
        obtain⟨hg1,hn2,hlo⟩:=hbb rfl
        clear hbb
        obtain⟨g,rfl⟩:∃g',g=g'+1:=⟨g - 1,by omega⟩
        (repeat'(first|refine Ctl ?_|(with_reducible first|(refine Kof.use hK ?_;clear hK hE K E)|(refine Kof.use hKh ?_;clear hKh Kh)|(refine Kof.use hKb (P_next ?_);clear hKb Kb)|refine G_plan 8 [([0,1,2,3,4,5,6,7,8,9,10,11,12,13,14,15,16,17],18,[[]]),([19,20,21,22,23,24,25,26,27,28,29,30],31,[[],[]])] [32,33] hQe fun K E hK hE=>?_|refine G_plan 10 [([0,1,2],3,[[0,1]]),([4],5,[[],[]]),([6],7,[[],[],[]])] [] hQe fun K E hK hE=>?_)|((with_reducible refine W_cond (fun h=>?_) (fun h=>?_))<;>(try have hlt:=isT_lt h)<;>(try(exfalso;assumption)))|((first|(with_reducible first|refine G_region fun K E hK hE=>?_|refine call_ret can26 (Rfail_S _ _ _ _ _ _ _ _ _ (by decide)) ?_|refine call_ret can25 (Rfis_S _ _ _ _ _ _ _ _ _ _ (by omega) (by omega)) ?_|refine call_ret can58 (Rname_S _ _) ?_|refine P_heads fun Kh hKh=>?_|refine P_fin fun Kh hKh=>?_|refine P_each fun Kb hKb=>?_)|((with_reducible refine call_ex can56 (Rtakes_S _ _ _ _ _ _ _ _ _ (by assumption) (by assumption)) (fun a h=>?_));obtain⟨ax,nx,ex,bx⟩:=a;(try dsimp only at h);(try have hle:=h.1))|((with_reducible refine call_ex can59 (Rmethod_S _ _ _ _ _ _ _ _ (by assumption) (by assumption) (by assumption) ?_) (fun a h=>?_));(focus (intro h0;first|(simp[fE_eq]at h0;done)|omega));obtain⟨vx,ax,nx,ex,bx⟩:=a;(try dsimp only at h);(try have hle:=h.1);(try have hlen:=RPl_mth h))|((with_reducible refine W_app (fun o2 ho=>?_));(repeat(obtain⟨_,ho⟩:=ho)))|((with_reducible refine W_gd (fun h=>?_) (fun h=>?_))<;>(try have hlt:=isT_lt h)))<;>(try simp(disch:=assumption) only[go_sem,seval,Rf,List.length_map,sgn_at,sgnC,mthV,mthC,strsV,stsV,vrow,rf_out, *]))))
        all_goals first
          | (rw [mthsP_done (by assumption)] at hgo
             (refine W_ret res27 hQ ?_)
             refine fin_cls (z_fg) (hgo _ _ _ _ _ (RP.bind h (RP.mk_same h.le))))
          | (have hs : RP L a4 n4 0 bd4 (bnd (roomP e (L.drop a4) n4 out.length 32 (namedB (L.drop a4) || isT (L.drop a4) 0 [115, 116, 97, 116, 105, 99])) fun _ L n => mthP e L n) vx ax nx ex bx := by
               apply RP.bind (x:=()) (h2:=h)
               refine RP.room ha4 ?_ ?_ ?_<;>grind [fE_eq,fB_eq,GoodL.nm,named_end,isT_end]
             have hlen:=fun h0=>(hlen h0).2
             refine⟨if ex=0 then g+1 else 0,by split<;>omega,ax,nx,ex,bx,g,out++[vx],o2,hle,rfl,fun h0=>?_,?_,fun q a' n' er' bd' hh=>?_,?_,by simpa using ho,by assumption,by assumption,by assumption,z_sl,z_sl,z_sl⟩
             · have:=hlen h0;simp only[List.length_append,List.length_cons,List.length_nil];omega
             · simp only[List.length_append,List.length_cons,List.length_nil];omega
             · refine hgo _ _ _ _ _ ?_
               rw[mthsP_step (by assumption)]
               have:=RP.bind hs (k:=fun m L n=>mthsP e g (out++[m]) L n) hh
               rwa [bnd_assoc]at this
             · simp only[List.length_append,List.length_cons,List.length_nil,List.map_append,List.map_cons,List.map_nil,mthC,strsV,stsV])
      · have hz':¬ (er4:Int)=0:=by omega
        rw[if_neg hz]at hm
        (repeat'(first|refine Ctl ?_|((with_reducible refine Kof.use hK ?_);clear hK hE K E)|((with_reducible refine W_cond (fun h=>?_) (fun h=>?_))<;>(try(exfalso;assumption)))|((first|(with_reducible refine G_region fun K E hK hE=>?_)|((with_reducible refine call_ex can56 (Rtakes_S _ _ _ _ _ _ _ _ _ (by assumption) (by assumption)) (fun a h=>?_));obtain⟨ax,nx,ex,bx⟩:=a;(try dsimp only at h);(try have hle:=h.1)))<;>(try simp(disch:=assumption) only[go_sem,seval,Rf,List.length_map,sgn_at,sgnC,rf_out, *]))))
        all_goals(refine W_ret res27 hQ ?_)
        have:=h.old hz
        exact fin_cls (z_fg) (hgo _ _ _ _ _ (by rw[this.1,this.2];exact RP.mk_old h.le hz))
  · rename_i b0 q1 q2 hb0 a1 n1 e1 k1 r1 l1 m1 a2 n2 e2 k2 r2 l2 m2 q3 q4 q5 q6 hx
    have hgo0:∀(ms:List Mth) (a' n' er' bd':Nat),RP L ax nx ex bx (mthsP e ((L.drop ax).length+1) [] (L.drop ax) nx) ms a' n' er' bd'→RP L a n er bd (classP e (L.drop a) n) ⟨vx,[],ms⟩ a' n' er' bd':=fun ms a' n' er' bd' hh=>by
      have hfin:RP L a' n' er' bd' (.ok ((⟨vx,[],ms⟩:Cls),L.drop a',n')) (⟨vx,[],ms⟩:Cls) a' n' er' bd':=RP.mk_same hh.le
      unfold classP
      (repeat(first|assumption|(refine RP.bind (by assumption) ?_)|(simp only[bnd_ok,bnd_assoc,drop_tl,isT_tail,true_or,or_true,or_self,true_and,and_true,false_and,and_false,and_self,false_or,or_false,if_true,if_false,reduceIte,Bool.false_eq_true,Bool.true_eq_false,eq_self,reduceCtorEq,List.drop_drop, *])))
    have hb0':ex=0→a≤ax∧nx+(L.length - ax)≤10000:=fun h0=>by
      grind
    replace hgo0:∀(ms:List Mth) (a' n' er' bd':Nat),RP L ax nx ex bx (mthsP e (L.length - ax+1) [] (L.drop ax) nx) ms a' n' er' bd'→RP L a n er bd (classP e (L.drop a) n) ⟨vx,[],ms⟩ a' n' er' bd':=fun ms a' n' er' bd' hh=>hgo0 ms a' n' er' bd' (by rw[List.length_drop];exact hh)
    refine L_loop (fun m env s'=>∃(a4 n4 er4 bd4 g:Nat) (out:List Mth) (o:Own),a4≤L.length∧(m=if er4=0 then g+1 else 0)∧(er4=0→L.length - a4+1≤g∧n4+(L.length - a4)≤10000∧out.length+(L.length - a4)≤5000)∧out.length≤5001 ∧
      (∀(q:List Mth) (a' n' er' bd':Nat),RP L a4 n4 er4 bd4 (mthsP e g out (L.drop a4) n4) q a' n' er' bd'→RP L a n er bd (classP e (L.drop a) n) ⟨vx,[],q⟩ a' n' er' bd') ∧
      s'=Rf (((s.own o 93 4 out.length).set b0 (.obj 85 [.str [],.str [],.lst [] .full])).set b (.obj 85 [.str vx,.str [],.lst (out.map mthC) o])) r L e a4 n4 er4 bd4 ∧
      OwnOk s o out.length∧NotOwn o r∧NotOwn o b0∧NotOwn o b∧env 0=.ptr r 0∧env 2=.ptr b0 0∧env 3=.ptr b 0) (if ex=0 then L.length - ax+1+1 else 0) ?_ ?_
    · exact⟨ax,nx,ex,bx,_,[],.full,hle,rfl,fun h0=>(by have:=hb0' h0;simp;omega),by simp,hgo0,rfl,rfl,trivial,trivial,trivial,z_sl,z_sl,z_sl⟩
    · rintro m env s' ⟨a4,n4,er4,bd4,g,out,o,ha4,hm,hbb,hl1,hgo,rfl,hown,hnr,hn0,hnb,z0,z2,z3⟩
      clear hgo0 hb0'
      by_cases hz:er4=0
      · subst hz
        rw[if_pos rfl]at hm
        obtain⟨hg1,hn2,hlo⟩:=hbb rfl
        clear hbb
        obtain⟨g,rfl⟩:∃g',g=g'+1:=⟨g - 1,by omega⟩
        (repeat'(first|refine Ctl ?_|(with_reducible first|(refine Kof.use hK ?_;clear hK hE K E)|(refine Kof.use hKh ?_;clear hKh Kh)|(refine Kof.use hKb (P_next ?_);clear hKb Kb)|refine G_plan 8 [([0,1,2,3,4,5,6,7,8,9,10,11,12,13,14,15,16,17],18,[[]]),([19,20,21,22,23,24,25,26,27,28,29,30],31,[[],[]])] [32,33] hQe fun K E hK hE=>?_|refine G_plan 10 [([0,1,2],3,[[0,1]]),([4],5,[[],[]]),([6],7,[[],[],[]])] [] hQe fun K E hK hE=>?_)|((with_reducible refine W_cond (fun h=>?_) (fun h=>?_))<;>(try have hlt:=isT_lt h)<;>(try(exfalso;assumption)))|((first|(with_reducible first|refine G_region fun K E hK hE=>?_|refine call_ret can26 (Rfail_S _ _ _ _ _ _ _ _ _ (by decide)) ?_|refine call_ret can25 (Rfis_S _ _ _ _ _ _ _ _ _ _ (by omega) (by omega)) ?_|refine call_ret can58 (Rname_S _ _) ?_|refine P_heads fun Kh hKh=>?_|refine P_fin fun Kh hKh=>?_|refine P_each fun Kb hKb=>?_)|((with_reducible refine call_ex can56 (Rtakes_S _ _ _ _ _ _ _ _ _ (by assumption) (by assumption)) (fun a h=>?_));obtain⟨ax,nx,ex,bx⟩:=a;(try dsimp only at h);(try have hle:=h.1))|((with_reducible refine call_ex can59 (Rmethod_S _ _ _ _ _ _ _ _ (by assumption) (by assumption) (by assumption) ?_) (fun a h=>?_));(focus (intro h0;first|(simp[fE_eq]at h0;done)|omega));obtain⟨vx,ax,nx,ex,bx⟩:=a;(try dsimp only at h);(try have hle:=h.1);(try have hlen:=RPl_mth h))|((with_reducible refine W_app (fun o2 ho=>?_));(repeat(obtain⟨_,ho⟩:=ho)))|((with_reducible refine W_gd (fun h=>?_) (fun h=>?_))<;>(try have hlt:=isT_lt h)))<;>(try simp(disch:=assumption) only[go_sem,seval,Rf,List.length_map,sgn_at,sgnC,mthV,mthC,strsV,stsV,vrow,rf_out, *]))))
        all_goals first
          | (rw [mthsP_done (by assumption)] at hgo
             (refine W_ret res27 hQ ?_)
             refine fin_cls (z_fg) (hgo _ _ _ _ _ (RP.bind h (RP.mk_same h.le))))
          | (have hs : RP L a4 n4 0 bd4 (bnd (roomP e (L.drop a4) n4 out.length 32 (namedB (L.drop a4) || isT (L.drop a4) 0 [115, 116, 97, 116, 105, 99])) fun _ L n => mthP e L n) vx ax nx ex bx := by
               apply RP.bind (x:=()) (h2:=h)
               refine RP.room ha4 ?_ ?_ ?_<;>grind [fE_eq,fB_eq,GoodL.nm,named_end,isT_end]
             have hlen:=fun h0=>(hlen h0).2
             refine⟨if ex=0 then g+1 else 0,by split<;>omega,ax,nx,ex,bx,g,out++[vx],o2,hle,rfl,fun h0=>?_,?_,fun q a' n' er' bd' hh=>?_,?_,by simpa using ho,by assumption,by assumption,by assumption,z_sl,z_sl,z_sl⟩
             · have:=hlen h0;simp only[List.length_append,List.length_cons,List.length_nil];omega
             · simp only[List.length_append,List.length_cons,List.length_nil];omega
             · refine hgo _ _ _ _ _ ?_
               rw[mthsP_step (by assumption)]
               have:=RP.bind hs (k:=fun m L n=>mthsP e g (out++[m]) L n) hh
               rwa [bnd_assoc]at this
             · simp only[List.length_append,List.length_cons,List.length_nil,List.map_append,List.map_cons,List.map_nil,mthC,strsV,stsV])
      · have hz':¬ (er4:Int)=0:=by omega
        rw[if_neg hz]at hm
        (repeat'(first|refine Ctl ?_|((with_reducible refine Kof.use hK ?_);clear hK hE K E)|((with_reducible refine W_cond (fun h=>?_) (fun h=>?_))<;>(try(exfalso;assumption)))|((first|(with_reducible refine G_region fun K E hK hE=>?_)|((with_reducible refine call_ex can56 (Rtakes_S _ _ _ _ _ _ _ _ _ (by assumption) (by assumption)) (fun a h=>?_));obtain⟨ax,nx,ex,bx⟩:=a;(try dsimp only at h);(try have hle:=h.1)))<;>(try simp(disch:=assumption) only[go_sem,seval,Rf,List.length_map,sgn_at,sgnC,rf_out, *]))))
        all_goals(refine W_ret res27 hQ ?_)
        have:=h.old hz
        exact fin_cls (z_fg) (hgo _ _ _ _ _ (by rw[this.1,this.2];exact RP.mk_old h.le hz))
def parsesP (e:Nat):Nat→List Cls→List Sgn→Nat→PR (List Cls)
 |0,_,_,_=>.error (0,0)
 |f+1,out,L,n=>if L=[] then .ok (out,L,n)else bnd (roomP e L n out.length 32 (isT L 0 [99,108,97,115,115])) fun _ L n=>bnd (classP e L n) fun c L n=>parsesP e f (out++[c]) L n
def parseS (s:List UInt8):Except (Nat×Nat) (List Cls):=
 match lexSigns s with
 |.error x=>.error x
 |.ok L=>match parsesP s.length (L.length+1) [] L 0 with
  |.ok (cs,_,_)=>.ok cs
  |.error x=>.error x
def srcV (cs:List Cls):VV:=.agg [.lst (cs.map clsC) .no]
def parseV:Except (Nat×Nat) (List Cls)→VV
 |.ok cs=>.tup [srcV cs,.int .i64 0,.int .i64 0]
 |.error (a,e)=>.tup [srcV [],.int .i64 a,.int .i64 e]
theorem Wk_src {cs:List Cls}{o:Own}{a e:Int}:Wk (.tup [.agg [.lst (cs.map clsC) o],.int .i64 a,.int .i64 e]) (.tup [srcV cs,.int .i64 a,.int .i64 e]):=
 Wk.tup rfl fun j x y hx hy=>by
  match j with
  |0=>simp at hx hy;subst hx;subst hy;exact Wk.agg (.lst _ _ .nil)
  |1=>simp at hx hy;subst hx;subst hy;exact Wk.refl _
  |2=>simp at hx hy;subst hx;subst hy;exact Wk.refl _
  |j+3=>simp at hx
theorem lexGo_err:∀(f:Nat) (s:List UInt8) (at_:Nat) (out:List Sgn) (a e:Nat),lexGo f s at_ out=.error (a,e)→e≠0
 |0,s,at_,out,a,e,h=>by simp only[lexGo]at h;cases h
 |f+1,s,at_,out,a,e,h=>by
  simp only[lexGo]at h
  cases hd:s.drop (runN blankB s)with
  |nil=>rw[hd]at h;cases h
  |cons c r=>
   rw[hd]at h
   simp only at h
   split at h
   ·exact lexGo_err f _ _ _ _ _ h
   ·split at h
    ·injection h with h;injection h with h1 h2;subst h2;decide
    ·split at h
     ·injection h with h;injection h with h1 h2;subst h2;decide
     ·exact lexGo_err f _ _ _ _ _ h
theorem lexSigns_err {s:List UInt8}{a e:Nat}(h:lexSigns s=.error (a,e)):e≠0:=by
 unfold lexSigns at h
 split at h
 ·injection h with h;injection h with h1 h2;subst h2;decide
 ·exact lexGo_err _ _ _ _ _ _ h
theorem mthsP_len {e:Nat}:∀(f:Nat) (out:List Mth) (L L':List Sgn) (n n':Nat) (ms:List Mth),mthsP e f out L n=.ok (ms,L',n')→L'.length≤L.length∧n'+L'.length≤n+L.length
 |0,out,L,L',n,n',ms,h=>by simp only[mthsP]at h;cases h
 |f+1,out,L,L',n,n',ms,h=>by
  cases ht:isT L 0 [125]with
  |true=>
   rw[mthsP_done ht]at h
   replace h:=bnd_inv h
   obtain⟨_,L1,n1,h1,h⟩:=h
   obtain⟨_,rfl,rfl⟩:=ok_inj h
   have:=mustP_len h1
   omega
  |false=>
   rw[mthsP_step ht]at h
   replace h:=bnd_inv h
   obtain⟨_,L1,n1,h1,h⟩:=h
   obtain⟨rfl,rfl⟩:=roomP_eq h1
   replace h:=bnd_inv h
   obtain⟨m,L2,n2,h2,h⟩:=h
   have e2:=mthP_len h2
   have e3:=mthsP_len f _ _ _ _ _ _ h
   omega
theorem classP_len {e:Nat}{L L':List Sgn}{n n':Nat}{c:Cls}(h:classP e L n=.ok (c,L',n')):L'.length+1≤L.length∧n'+L'.length≤n+L.length:=by
 unfold classP at h
 replace h:=bnd_inv h
 obtain⟨_,L1,n1,h1,h⟩:=h
 replace h:=bnd_inv h
 obtain⟨x,L2,n2,h2,h⟩:=h
 replace h:=bnd_inv h
 obtain⟨y,L3,n3,h3,h⟩:=h
 replace h:=bnd_inv h
 obtain⟨_,L4,n4,h4,h⟩:=h
 replace h:=bnd_inv h
 obtain⟨ms,L5,n5,h5,h⟩:=h
 obtain⟨_,rfl,rfl⟩:=ok_inj h
 have e1:=mustP_len h1
 have e2:=nameP_len h2
 have e4:=mustP_len h4
 have e5:=mthsP_len _ _ _ _ _ _ _ h5
 have e3:L3.length≤L2.length∧n3=n2:=by
  split at h3
  ·rename_i ht
   have t1:=tail_len ht
   rw[bnd_id]at h3
   have:=nameP_len h3
   omega
  ·obtain⟨_,rfl,rfl⟩:=ok_inj h3;exact⟨Nat.le_refl _,rfl⟩
 omega
theorem RPl_class {L:List Sgn}{a n er bd e a' n' er' bd' a0 n0:Nat}{x:Cls}(h:RP L a n er bd (classP e (L.drop a0) n0) x a' n' er' bd'):er'=0→er=0∧a0+1≤a'∧n'+(L.length - a')≤n0+(L.length - a0):=fun h0=>by
 have:=classP_len (h.ok (h.back h0) h0)
 rw[List.length_drop,List.length_drop]at this
 have:=h.le
 exact⟨h.back h0,by omega,by omega⟩
set_option maxHeartbeats 4000000 in
theorem Rparse_S (l:List UInt8)(hl:l.length≤9223372036854775000)(s:St):SRet Tryz.prog 12 [.str l] s (parseV (parseS l)) s:=by
  refine G_enter Tryz.func12 rfl Tryz.ntmps12 rfl fun Q hQ hQe=>?_
  have hsig:=Rsigns_S l hl
  cases hL:lexSigns l with
  |error x=>
    obtain⟨a,e⟩:=x
    have he:=lexSigns_err hL
    have he':¬ (e:Int)=0:=by omega
    rw[hL]at hsig
    simp only[signsV]at hsig
    (repeat'(first|refine Ctl ?_|((with_reducible refine Kof.use hK ?_);clear hK hE K E)|((with_reducible refine W_cond (fun h=>?_) (fun h=>?_))<;>(try(exfalso;assumption)))|((first|(with_reducible first|refine G_region fun K E hK hE=>?_|refine call_ret can24 (hsig _) ?_)|((with_reducible refine W_fresh (fun b hb=>?_))))<;>(try simp(disch:=assumption) only[go_sem,seval, *]))))
    all_goals(refine W_ret res12 hQ ?_)
    all_goals(refine⟨_,_,?_,?_,rfl,rfl⟩)
    · have:parseS l=.error (a,e):=by unfold parseS;rw[hL]
      rw[this]
      exact Wk_src (cs:=[])
    · (exact z_fg)
  |ok L=>
    obtain⟨hG,hLl⟩:=lexSigns_good hL
    rw[hL]at hsig
    simp only[signsV]at hsig
    (repeat'(first|refine Ctl ?_|((with_reducible refine Kof.use hK ?_);clear hK hE K E)|((with_reducible refine W_cond (fun h=>?_) (fun h=>?_))<;>(try(exfalso;assumption)))|((first|(with_reducible first|refine G_region fun K E hK hE=>?_|refine call_ret can24 (hsig _) ?_)|((with_reducible refine W_fresh (fun b hb=>?_));(repeat(obtain⟨_,hb⟩:=hb))))<;>(try simp(disch:=assumption) only[go_sem,seval,rf_out, *]))))
    rename_i b0 hb0 r q1 q2 hr q3 q4 q5 q6
    clear hsig
    have hgo0:∀(q:List Cls) (a' n' er' bd':Nat),RP L 0 0 0 0 (parsesP l.length (L.length+1) [] (L.drop 0) 0) q a' n' er' bd'→(er'=0→parseS l=.ok q)∧(er'≠0→parseS l=.error (bd',er')):=fun q a' n' er' bd' hh=>by
      refine⟨fun h0=>?_,fun h0=>?_⟩
      · have:=hh.ok rfl h0
        rw[List.drop_zero]at this
        unfold parseS;rw[hL];simp only[this]
      · have:=hh.no rfl h0
        rw[List.drop_zero]at this
        unfold parseS;rw[hL];simp only[this]
    refine L_loop (fun m env s'=>∃(a4 n4 er4 bd4 g:Nat) (out:List Cls) (o:Own),a4≤L.length∧(m=if er4=0 then g+1 else 0)∧(er4=0→L.length - a4+1≤g∧n4+(L.length - a4)≤10000∧out.length+(L.length - a4)≤5000)∧out.length≤5001 ∧
      (∀(q:List Cls) (a' n' er' bd':Nat),RP L a4 n4 er4 bd4 (parsesP l.length g out (L.drop a4) n4) q a' n' er' bd'→(er'=0→parseS l=.ok q)∧(er'≠0→parseS l=.error (bd',er'))) ∧
      s'=Rf (((s.own o 85 3 out.length).set b0 (.obj 45 [.lst [] .full])).set b (.obj 45 [.lst (out.map clsC) o])) r L l.length a4 n4 er4 bd4 ∧
      OwnOk s o out.length∧NotOwn o r∧NotOwn o b0∧NotOwn o b∧env 0=.str l∧env 2=.ptr b0 0∧env 8=.ptr r 0∧env 9=.ptr b 0) (L.length+1+1) ?_ ?_
    · exact⟨0,0,0,0,_,[],.full,by omega,rfl,fun h0=>(by simp;omega),by simp,hgo0,rfl,rfl,trivial,trivial,trivial,z_sl,z_sl,z_sl,z_sl⟩
    · rintro m env s' ⟨a4,n4,er4,bd4,g,out,o,ha4,hm,hbb,hl1,hgo,rfl,hown,hnr,hn0,hnb,z0,z2,z8,z9⟩
      clear hgo0
      by_cases hz:er4=0
      · subst hz
        rw[if_pos rfl]at hm
        obtain⟨hg1,hn2,hlo⟩:=hbb rfl
        clear hbb
        obtain⟨g,rfl⟩:∃g',g=g'+1:=⟨g - 1,by omega⟩
        (repeat'(first|refine Ctl ?_|(with_reducible first|(refine Kof.use hK ?_;clear hK hE K E)|(refine Kof.use hKh ?_;clear hKh Kh)|(refine Kof.use hKb (P_next ?_);clear hKb Kb)|refine G_plan 6 [] [0,1,2,3,4,5,6,7,8,9,10,11,12,13,14,15,16] hQe fun K E hK hE=>?_|refine G_plan 9 [([0,1,2],3,[[0,1]]),([4],5,[[],[]]),([6],7,[[],[],[]])] [] hQe fun K E hK hE=>?_)|((with_reducible refine W_cond (fun h=>?_) (fun h=>?_))<;>(try have hlt:=isT_lt h)<;>(try(exfalso;assumption)))|((first|(with_reducible first|refine G_region fun K E hK hE=>?_|refine call_ret can26 (Rfail_S _ _ _ _ _ _ _ _ _ (by decide)) ?_|refine call_ret can25 (Rfis_S _ _ _ _ _ _ _ _ _ _ (by omega) (by omega)) ?_|refine P_heads fun Kh hKh=>?_|refine P_fin fun Kh hKh=>?_|refine P_each fun Kb hKb=>?_)|((with_reducible refine call_ex can27 (Rclass_S _ _ _ _ _ _ _ _ (by assumption) (by assumption) (by assumption) ?_) (fun a h=>?_));(focus (intro h0;first|(simp[fE_eq]at h0;done)|omega));obtain⟨vx,ax,nx,ex,bx⟩:=a;(try dsimp only at h);(try have hle:=h.1);(try have hlen:=RPl_class h))|((with_reducible refine W_app (fun o2 ho=>?_));(repeat(obtain⟨_,ho⟩:=ho)))|((with_reducible refine W_gd (fun h=>?_) (fun h=>?_))))<;>(try simp(disch:=assumption) only[go_sem,seval,Rf,List.length_map,clsV,clsC,vrow,rf_out, *]))))
        all_goals first
          | (have hd4 : L.drop a4 = [] := List.drop_eq_nil_iff.2 (by omega)
             have hfin:=(hgo out a4 n4 0 bd4 (RP.mk_ok ha4 (by rw[hd4];rfl))).1 rfl
             (refine W_ret res12 hQ ?_)
             refine⟨_,_,?_,?_,rfl,rfl⟩
             · rw[hfin];exact Wk_src
             · (exact z_fg))
          | (have hs : RP L a4 n4 0 bd4 (bnd (roomP l.length (L.drop a4) n4 out.length 32 (isT (L.drop a4) 0 [99, 108, 97, 115, 115])) fun _ L n => classP l.length L n) vx ax nx ex bx := by
               apply RP.bind (x:=()) (h2:=h)
               refine RP.room ha4 ?_ ?_ ?_<;>grind [fE_eq,fB_eq]
             have hlen:=fun h0=>(hlen h0).2
             have hne:L.drop a4≠[]:=fun e=>by have:=List.drop_eq_nil_iff.1 e;omega
             refine⟨if ex=0 then g+1 else 0,by split<;>omega,ax,nx,ex,bx,g,out++[vx],o2,hle,rfl,fun h0=>?_,?_,fun q a' n' er' bd' hh=>?_,?_,by simpa using ho,by assumption,by assumption,by assumption,z_sl,z_sl,z_sl,z_sl⟩
             · have:=hlen h0;simp only[List.length_append,List.length_cons,List.length_nil];omega
             · simp only[List.length_append,List.length_cons,List.length_nil];omega
             · refine hgo q a' n' er' bd' ?_
               simp only[parsesP,if_neg hne]
               have:=RP.bind hs (k:=fun c L n=>parsesP l.length g (out++[c]) L n) hh
               rwa [bnd_assoc]at this
             · simp only[List.length_append,List.length_cons,List.length_nil,List.map_append,List.map_cons,List.map_nil,clsC])
      · have hz':¬ (er4:Int)=0:=by omega
        rw[if_neg hz]at hm
        (repeat'(first|refine Ctl ?_|(with_reducible first|(refine Kof.use hK ?_;clear hK hE K E)|(refine Kof.use hKh ?_;clear hKh Kh)|(refine Kof.use hKb (P_next ?_);clear hKb Kb)|refine G_plan 6 [] [0,1,2,3,4,5,6,7,8,9,10,11,12,13,14,15,16] hQe fun K E hK hE=>?_|refine G_plan 11 [([0,1,2,3,4,5,6,7,8],9,[[1,2,3,4,5,6,7,8]])] [10,11] hQe fun K E hK hE=>?_)|((with_reducible refine W_cond (fun h=>?_) (fun h=>?_))<;>(try(exfalso;assumption)))|(((with_reducible first|refine G_region fun K E hK hE=>?_|refine P_heads fun Kh hKh=>?_|refine P_fin fun Kh hKh=>?_|refine P_each fun Kb hKb=>?_))<;>(try simp(disch:=assumption) only[go_sem,seval,Rf,List.length_map,rf_out, *]))))
        have hfin:=(hgo [] a4 n4 er4 bd4 (RP.mk_old ha4 hz)).2 hz
        (refine W_ret res12 hQ ?_)
        refine⟨_,_,?_,?_,rfl,rfl⟩
        · rw[hfin];exact Wk_src (cs:=[])
        · (exact z_fg)
end Go.Proofs.YtgdbgfjhenobdaaGreatDoor
