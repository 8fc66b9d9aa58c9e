/- Walks of functions that the claim reaches, and plain facts of them. Conditions: those in the statements. -/
import Derived.Test.YtohnaepcgnbaiaaGreatDoorJjGo
import Derived.Deep.Slices
import Derived.SizedLaws
import Derived.DataShut
set_option linter.unusedSimpArgs false
set_option linter.unusedVariables false
namespace Go.Proofs.YtohnaepcgnbaiaaGreatDoor
open Go.RowKit
section
variable {P : Program} {N : Nat} {all : List Oper}
def histI (P:Program)(all:List Oper):List (List Nat)→List (Env×St)→Array Bool→St→Prop
 |hs::gr,(e,s)::hr,l,s'=>histI P all gr hr l s'∧heldF P all e s hs l s'
 |_,_,_,_=>True
def heldH (P:Program)(all:List Oper):List (Env×St)→List (List Nat)→St→Prop
 |(e,s)::hr,is::sr,s'=>heldH P all hr sr s'∧heldL P all e s (pickL all is) s'
 |_,_,_=>True
def vEa (P:Program)(N:Nat)(all:List Oper)(i:Nat)(R:Env→St→Prop)(E:VV→Env→St→Prop)(env1:Env)(s1:St):Prop:=
 ∃o,all[i]?=some o∧∀K':Env→St→Prop,@Kof R K'→vops P N all K' E [o] env1 s1
abbrev Plan:=List (List Nat×Nat×List (List Nat))
def vPl (P:Program)(N:Nat)(all:List Oper)(K:Env→St→Prop)(E:VV→Env→St→Prop)(fin:List Nat):Plan→List (Env×St)→Env→St→Prop
 |[],_,env,s=>∀Kh:Env→St→Prop,@Kof K Kh→vops P N all Kh F0 (pickL all fin) env s
 |(hs,i,sub)::r,hist,env,s=>∀Kh:Env→St→Prop,
   @Kof (fun env1 s1=>vEa P N all i (fun e s'=>heldH P all ((env1,s1)::hist) sub s'∧vPl P N all K E fin r ((env1,s1)::hist) e s') E env1 s1) Kh →
   vops P N all Kh F0 (pickL all hs) env s
def markAll:List Nat→Array Bool→Array Bool
 |[],l=>l
 |i::r,l=>markAll r (l.setIfInBounds i true)
def planB (all:List Oper)(keep:List Nat)(fin:List Nat):Plan→List (List Nat)→Array Bool→Nat→Bool
 |[],_,listed,f=>decide (f=fin.length) && closedB all listed && headB all keep fin listed (markAll fin listed) && decide (Region.ready .any all.toArray (markAll fin listed)=[])
 |(hs,i,sub)::r,gr,listed,f=>decide (hs.length+1≤f) && closedB all listed && headB all keep hs listed (markAll hs listed) && decide (Region.ready .any all.toArray (markAll hs listed)=[i]) &&
   decide ((hs::gr).map (fun g=>g.filter fun k=>freeOf all k ((markAll hs listed).setIfInBounds i true))=sub) && (all[i]?).isSome &&
   planB all keep fin r (hs::gr) ((markAll hs listed).setIfInBounds i true) (f - hs.length - 1)
theorem histI_HM:∀(gr:List (List Nat)) (hist:List (Env×St)),HM all (histI P all gr hist)
 |[],_=>fun k hk l s=>by unfold histI;exact Iff.rfl
 |hs::gr,[]=>fun k hk l s=>by unfold histI;exact Iff.rfl
 |hs::gr,(e,s0)::hr=>fun k hk l s=>by
  unfold histI
  rw[histI_HM gr hr k hk l s,heldF_set hk]
theorem histI_of {l:Array Bool}{s':St}:∀{gr:List (List Nat)} {hist:List (Env×St)},heldH P all hist (gr.map fun g=>g.filter fun k=>freeOf all k l) s'→histI P all gr hist l s'
 |[],_,_=>by unfold histI;trivial
 |hs::gr,[],_=>by unfold histI;trivial
 |hs::gr,(e,s0)::hr,h=>⟨histI_of h.1,h.2⟩
theorem plan_go {K:Env→St→Prop}{E:VV→Env→St→Prop}{keep:List Nat}(hE:EOk N keep E){fin:List Nat} :
  ∀(pl:Plan) (gr:List (List Nat)) (hist:List (Env×St)) (listed:Array Bool) (env:Env) (s:St) (f:Nat),planB all keep fin pl gr listed f=true→histI P all gr hist listed s →
   vPl P N all K E fin pl hist env s→vAnyI P N all (histI P all gr hist) K E f listed env s
 |[],gr,hist,listed,env,s,f,hB,hI,h=>by
  simp only[planB,Bool.and_eq_true,decide_eq_true_eq]at hB
  obtain⟨⟨⟨hf,hcl⟩,hh⟩,hr⟩:=hB
  refine G_head hE fin (f:=0) (markAll fin listed) rfl hh hcl (by omega) hI (histI_HM gr hist) fun Kh hKh=>?_
  exact h Kh fun envf s' hk=>hKh envf s' fun _ _=>⟨hr,hk⟩
 |(hs,i,sub)::r,gr,hist,listed,env,s,f,hB,hI,h=>by
  simp only[planB,Bool.and_eq_true,decide_eq_true_eq]at hB
  obtain⟨⟨⟨⟨⟨⟨hf,hcl⟩,hh⟩,hr⟩,hsub⟩,hso⟩,hB⟩:=hB
  refine G_head hE hs (f:=f - hs.length - 1+1) (markAll hs listed) rfl hh hcl (by omega) hI (histI_HM gr hist) fun Kh hKh=>?_
  refine h Kh fun env1 s1 hk=>hKh env1 s1 fun hI1 hM1=>?_
  obtain⟨o,ho,hk⟩:=hk
  refine G_each [(i,(markAll hs listed).setIfInBounds i true)] (by simpa using hr) (by simp) ⟨⟨rfl,fun K' hK'=>⟨o,ho,hk K' fun e s' hq=>hK' e s' ?_⟩⟩,trivial⟩
  obtain⟨hq1,hq2⟩:=hq
  have hI2:histI P all (hs::gr) ((env1,s1)::hist) ((markAll hs listed).setIfInBounds i true) s':=histI_of (by rw[hsub];exact hq1)
  exact⟨hI2,fun _=>plan_go hE r (hs::gr) ((env1,s1)::hist) _ e s' _ hB hI2 hq2⟩
theorem G_plan {D:List Deferred}{k:List Itm}{Q:Pst}{env:Env}{s:St}(id:Nat){ops:List Oper}{keep:List Nat}(pl:Plan)(fin:List Nat)(hQ:EOk N keep (fun x=>Q (.panic x)))
  (h:∀(K:Env→St→Prop) (E:VV→Env→St→Prop),@Kof (Kp P N D k Q .norm) K→@Eof (fun x=>Q (.panic x)) E→vPl P N ops K E fin pl [] env s)
  (hm:P.follows .mixedOrders=true:=by decide +kernel) (hB:planB ops keep fin pl [] (Array.replicate ops.length false) ops.length=true:=by decide +kernel) :
  Kp P N D (.code (.region id ops.toArray true)::k) Q .norm env s:=
 G_draw hm hQ fun K E hK hE hEe hI hM=>vAnyI_weak (fun _ _ _=>trivial) _ _ _ _ (plan_go hEe pl [] [] _ env s _ hB trivial (h K E hK hE))
theorem P_heads {K:Env→St→Prop}{E:VV→Env→St→Prop}{fin hs:List Nat}{i:Nat}{sub:List (List Nat)}{r:Plan}{hist:List (Env×St)}{env:Env}{s:St}{ops:List Oper}
  (h:∀Kh:Env→St→Prop,
   @Kof (fun env1 s1=>vEa P N all i (fun e s'=>heldH P all ((env1,s1)::hist) sub s'∧vPl P N all K E fin r ((env1,s1)::hist) e s') E env1 s1) Kh →
   vops P N all Kh F0 ops env s) (hp:pickL all hs=ops:=by(simp only[pick0,pick1,pick2,List.getElem?_cons_zero,List.getElem?_cons_succ]<;>rfl)):vPl P N all K E fin ((hs,i,sub)::r) hist env s:=by
 subst hp;exact h
theorem P_fin {K:Env→St→Prop}{E:VV→Env→St→Prop}{fin:List Nat}{hist:List (Env×St)}{env:Env}{s:St}{ops:List Oper}
  (h:∀Kh:Env→St→Prop,@Kof K Kh→vops P N all Kh F0 ops env s) (hp:pickL all fin=ops:=by(simp only[pick0,pick1,pick2,List.getElem?_cons_zero,List.getElem?_cons_succ]<;>rfl)):vPl P N all K E fin [] hist env s:=by
 subst hp;exact h
theorem P_each {i:Nat}{R:Env→St→Prop}{E:VV→Env→St→Prop}{env1:Env}{s1:St}{o:Oper}(h:∀K':Env→St→Prop,@Kof R K'→vops P N all K' E [o] env1 s1)(ho:all[i]?=some o:=by(simp only[List.getElem?_cons_zero,List.getElem?_cons_succ]<;>rfl)) :
  vEa P N all i R E env1 s1:=⟨o,ho,h⟩
theorem heldH_cons {e:Env}{s s':St}{hr:List (Env×St)}{is:List Nat}{sr:List (List Nat)}:heldH P all ((e,s)::hr) (is::sr) s'=(heldH P all hr sr s'∧heldL P all e s (pickL all is) s'):=rfl
theorem heldH_nil {s':St}:heldH P all [] [] s'=True:=rfl
theorem heldL_nil {e:Env}{s s':St}:heldL P all e s [] s'=True:=rfl
attribute [go_sem] heldH_cons heldH_nil heldL_nil List.length_map
theorem P_next {hist:List (Env×St)}{sub:List (List Nat)}{s':St}{q:Prop}(h:q)
  (hh:heldH P all hist sub s':=by first
   |(simp only[heldH_cons,heldH_nil,heldL_nil,pick0,and_true];done)
   |(simp(disch:=first|assumption|omega) only[go_sem,seval,pick0,pick1,pick2,heldL,heldG,heldO,heldB, *];done)):heldH P all hist sub s'∧q:=⟨hh,h⟩
end
theorem eqE_i {a b:Int}:(a=b)=((a=b)=True):=propext ⟨eq_true,of_eq_true⟩
theorem eqE_n {a b:Nat}:(a=b)=((a=b)=True):=propext ⟨eq_true,of_eq_true⟩
theorem eqE_u {a b:UInt8}:(a=b)=((a=b)=True):=propext ⟨eq_true,of_eq_true⟩
theorem eqE_s {a b:List UInt8}:(a=b)=((a=b)=True):=propext ⟨eq_true,of_eq_true⟩
section
variable {P : Program} {N : Nat} {D : List Deferred} {k : List Itm} {Q : Pst} {env : Env} {s : St} {all rest : List Oper} {K : Env → St → Prop} {E : VV → Env → St → Prop}
theorem W_cond {c:Operand}{x y:Code}{b:Bool}{p q:Prop}(h1:p→Kp P N D (.code x::k) Q .norm env s)(h2:q→Kp P N D (.code y::k) Q .norm env s)
  (hb:rd env c=.bool b:=by((try simp(disch:=first|assumption|omega) only[go_sem,seval, *])<;>rfl))
  (hp:(b=true)=p:=by((try simp only[decide_eq_true_eq,decide_eq_false_iff_not,Bool.not_eq_true',Bool.not_eq_false',Bool.not_eq_true,Bool.not_eq_false,Int.ofNat_lt,Int.ofNat_le,Int.natCast_inj,bne_iff_ne,ne_eq,beq_iff_eq,reduceCtorEq,Bool.true_eq_false,Bool.false_eq_true,decide_not,not_false_eq_true,not_true_eq_false]);first|exact eqE_i|exact eqE_n|exact eqE_u|exact eqE_s|rfl))
  (hq:(b=false)=q:=by((try simp only[decide_eq_true_eq,decide_eq_false_iff_not,Bool.not_eq_true',Bool.not_eq_false',Bool.not_eq_true,Bool.not_eq_false,Int.ofNat_lt,Int.ofNat_le,Int.natCast_inj,bne_iff_ne,ne_eq,beq_iff_eq,reduceCtorEq,Bool.true_eq_false,Bool.false_eq_true,decide_not,not_false_eq_true,not_true_eq_false]);first|exact eqE_i|exact eqE_n|exact eqE_u|exact eqE_s|rfl)) :
  Kp P N D (.code (.cond c x y)::k) Q .norm env s:=G_cond hb (fun h=>h1 (hp ▸ h)) (fun h=>h2 (hq ▸ h))
theorem W_gd {b want:Bool}{d:Option Tmp}{op:Op}{ty:TypeId}{pl:String}{af:Array Edge}{p q:Prop}
  (h1:p→vgd P N all K E (.bool true) want d op ty pl af rest env s) (h2:q→vgd P N all K E (.bool false) want d op ty pl af rest env s)
  (hp:(b=true)=p:=by((try simp only[decide_eq_true_eq,decide_eq_false_iff_not,Bool.not_eq_true',Bool.not_eq_false',Bool.not_eq_true,Bool.not_eq_false,Int.ofNat_lt,Int.ofNat_le,Int.natCast_inj,bne_iff_ne,ne_eq,beq_iff_eq,reduceCtorEq,Bool.true_eq_false,Bool.false_eq_true,decide_not,not_false_eq_true,not_true_eq_false]);first|exact eqE_i|exact eqE_n|exact eqE_u|exact eqE_s|rfl))
  (hq:(b=false)=q:=by((try simp only[decide_eq_true_eq,decide_eq_false_iff_not,Bool.not_eq_true',Bool.not_eq_false',Bool.not_eq_true,Bool.not_eq_false,Int.ofNat_lt,Int.ofNat_le,Int.natCast_inj,bne_iff_ne,ne_eq,beq_iff_eq,reduceCtorEq,Bool.true_eq_false,Bool.false_eq_true,decide_not,not_false_eq_true,not_true_eq_false]);first|exact eqE_i|exact eqE_n|exact eqE_u|exact eqE_s|rfl)) :
  vgd P N all K E (.bool b) want d op ty pl af rest env s:=G_gd (fun h=>h1 (hp ▸ h)) (fun h=>h2 (hq ▸ h))
theorem W_if {d:Option Tmp}{c:Prop}[Decidable c]{x:Option VV}(h2:vput P N all K E d rest env s x)
  (h:c:=by first|assumption|omega|(simp(disch:=first|assumption|omega) only[go_sem,seval, *];done)):vput P N all K E d rest env s (if c then x else none):=G_if h h2
theorem W_ifS {d:Option Tmp}{c:Prop}[Decidable c]{x:Option St}(h2:vputS P N all K E d rest env x)
  (h:c:=by first|assumption|omega|(simp(disch:=first|assumption|omega) only[go_sem,seval, *];done)):vputS P N all K E d rest env (if c then x else none):=G_ifS h h2
theorem W_and {a b:Prop}(h:b)(ha:a:=by first|assumption|omega|trivial|(simp(disch:=first|assumption|omega) only[go_sem,seval, *];done)):a∧b:=⟨ha,h⟩
theorem W_fresh {p' q:Nat→Prop}(h:∀b,p' b→q b)(hp:∀b,(s b=.free)=p' b:=by(intro b;(try simp(disch:=first|assumption|omega) only[go_sem,seval, *]);(try simp only[set_free_o,set_free_v,set_free_m,ite_free_o,ite_free_v,ite_free_m,set_free_p,ite_free_p,set_free_r,ite_free_r]);rfl)):∀b,New s b→q b:=
 fun b hb=>h b (hp b ▸ hb.1)
theorem W_app {k:VV→St→Prop}{e:TypeId}{q:QI}{xs ys:List (List VV)}{o:Own}{p':Own→Prop}(h:∀o',p' o'→k (.lst (xs++ys) o') ((s.disown o).own o' e q.sz (xs.length+ys.length)))
  (ho:Owned s o e q.sz xs.length:=by(simp(disch:=first|assumption|omega) only[go_sem,seval, *]))
  (hb:(xs.length+ys.length) * q.bt≤140737488355328:=by((try simp only[go_sem, *]);omega))
  (hm:xs.length+ys.length≤9223372036854775807:=by((try simp only[go_sem, *]);omega))
  (hy:∀y,y∈ys→y.length=q.sz:=by first|assumption|(intro y hy;simp only[List.mem_singleton]at hy;subst hy;first|rfl|(simp only[go_sem];done)|(simp;done)))
  (hz:q.zok=true:=by rfl)
  (hp:∀o',OwnOk (s.disown o) o' (xs.length+ys.length)=p' o':=by(intro o';(try simp(disch:=assumption) only[disown_set,disown_own,ownok_o,ownok_m,List.length_map,List.length_cons,List.length_nil,Nat.zero_add]);rfl)) :
  vappend k e q xs ys o s:=append_gen _ _ rfl rfl ho hb hm hy hz fun o' h'=>h o' (hp o' ▸ h')
end
section
variable {P : Program} {N : Nat} {all : List Oper}
def Agree (s s':St):Prop:=∀x,s x≠.free→s' x=s x
theorem Agree.refl (s:St):Agree s s:=fun _ _=>rfl
theorem Agree.set {s s':St}(h:Agree s s'){b:Nat}(hb:s b=.free)(c:Cell):Agree s (s'.set b c):=fun x hx=>by
 by_cases he:x=b
 ·subst he;exact absurd hb hx
 ·rw[St.set_other _ _ he];exact h x hx
end
end Go.Proofs.YtohnaepcgnbaiaaGreatDoor
set_option maxRecDepth 100000
namespace Go.Proofs.YtohnaepcgnbaiaaGreatDoor
open Go.RowKit
theorem Sim.frzO {w0 w:World}{G:Gh}{s:St}(h:Sim w0 G w s){b:Nat}{T:TypeId}{xs:List VV}(hb:s b=.obj T xs) :
  ∃G',G.le G'∧Sim w0 G' w (s.set b .free)∧∀(i:Nat) (y:VV),xs[i]?=some y→y.one=true∧∃v,G'.K b i=some v∧R G' v y:=by
 have hok:=h.ok b
 rw[hb]at hok
 obtain⟨hB,hn,c,hh,hs,hx⟩:=hok
 have hle:G.le ⟨fun b' i=>if b'=b then c[i]? else G.K b' i,G.cap⟩:=⟨fun b' i v hv=>by
  by_cases e:b'=b
  ·subst e;rw[hn i]at hv;cases hv
  ·simp only[if_neg e];exact hv,fun _ _ hc=>hc⟩
 refine⟨_,hle,⟨h.below,fun b' i v hv=>?_,h.cap,fun b'=>?_,h.gl,?_⟩,fun i y hy=>?_⟩
 ·by_cases e:b'=b
  ·subst e
   simp only[if_true]at hv
   simp[World.cell?,hh,hv]
  ·simp only[if_neg e]at hv
   exact h.K _ _ _ hv
 ·by_cases e:b'=b
  ·subst e;rw[St.set_same];trivial
  ·rw[St.set_other _ _ e]
   exact CellOk.keep (h.ok b') rfl hle (fun i=>if_neg e)
 ·refine Rows.keep h.rows hle (Nat.le_refl _) (fun g hg hs=>?_) (fun b' T' xs' rs hb'=>?_)
  ·have hne:g≠b:=by rintro rfl;rw[hb]at hs;cases hs
   exact⟨by rw[St.set_other _ _ hne];exact hs,rfl,fun i=>if_neg hne⟩
  ·have hne:b'≠b:=by rintro rfl;rw[St.set_same]at hb';cases hb'
   rw[St.set_other _ _ hne]at hb'
   exact⟨xs',rs,hb',fun r hr=>⟨hr,rfl,fun c hc=>⟨c,hc,rfl⟩⟩⟩
 ·obtain⟨h1,v,hv,hr⟩:=hx i y hy
  exact⟨h1,v,by simp only[if_true];exact hv,hr.mono hle⟩
section
variable {P : Program} {N : Nat} {D : List Deferred} {c : Code} {k : List Itm} {Q : Pst} {env : Env} {s : St}
theorem Kp_frz (t b n:Nat){T:TypeId}{xs:List VV}(hb:s b=.obj T xs)(ht:env t=.msl b n)(hn:xs.length=n)
  (h:Kp P N D (.code c::k) Q .norm (upd env t (.lst (xs.map fun y=>[y]) .no)) (s.set b .free)):Kp P N D (.code c::k) Q .norm env s:=by
 intro w0 G w a hfr hD hS
 obtain⟨G',hle,hS',hK⟩:=hS.frzO hb
 refine wp_mono (h w0 G' w a ⟨hfr.size,fun i=>?_⟩ hD hS') fun e a w=>Up.back hle
 by_cases e:i=t
 ·subst e
  have hr:=hfr.rel i
  rw[ht]at hr
  simp only[upd,if_true]
  generalize a.tmps.getD i undef=v at hr
  cases hr
  rcases Nat.eq_zero_or_pos n with h0|hpos
  ·subst h0
   have:xs=[]:=List.eq_nil_of_length_eq_zero hn
   subst this
   exact .emp _ _ _ (.inl rfl)
  ·have hv:∀i,i<n→∃v,G'.K b i=some v∧∀y,xs[i]?=some y→R G' v y:=fun i hi=>by
    obtain⟨_,v,h1,h2⟩:=hK i xs[i] (List.getElem?_eq_getElem (by omega))
    exact⟨v,h1,fun y hy=>by rw[List.getElem?_eq_getElem (by omega)]at hy;injection hy with hy;exact hy ▸ h2⟩
   refine .lst b 0 n n 1 _ .no (fun i _=>(G'.K b i).getD default) (by rw[List.length_map];exact hn) (Nat.le_refl _) ?_ ?_ ?_ ?_ (.inl rfl)
   ·intro x hx
    obtain⟨y,_,rfl⟩:=List.mem_map.1 hx
    rfl
   ·intro x hx y hy
    obtain⟨z,hz,rfl⟩:=List.mem_map.1 hx
    rw[List.mem_singleton]at hy
    subst hy
    obtain⟨i,hi⟩:=List.mem_iff_getElem?.1 hz
    exact(hK i y hi).1
   ·intro i j hi hj
    obtain⟨v,h1,_⟩:=hv i hi
    have:j=0:=by omega
    subst this
    simp[h1]
   ·intro i j x y hx hy
    rw[List.getElem?_map]at hx
    obtain⟨z,hz,rfl⟩:=Option.map_eq_some_iff.1 hx
    have hi:i<n:=by have:=(List.getElem?_eq_some_iff.1 hz).1;omega
    obtain⟨v,h1,h2⟩:=hv i hi
    have hj:j=0:=by
     have:=(List.getElem?_eq_some_iff.1 hy).1
     simp at this;exact this
    subst hj
    simp at hy
    subst hy
    rw[h1]
    exact h2 z hz
 ·simp only[upd,if_neg e]
  exact(hfr.rel i).mono hle
def ints (l:List Int):List VV:=l.map fun n=>VV.int .i64 n
theorem ints_len {l:List Int}:(ints l).length=l.length:=by simp[ints]
theorem ints_set {l:List Int}{i:Nat}{n:Int}(h:i<l.length):splice (ints l) i [.int .i64 n]=ints (l.set i n):=by
 simp only[splice,ints,List.map_set]
 rw[List.set_eq_take_append_cons_drop,if_pos (by rw[List.length_map];exact h)]
 simp
def intsL (l:List Int):List (List VV):=l.map fun n=>[VV.int .i64 n]
theorem ints_frz {l:List Int}:(ints l).map (fun y=>[y])=intsL l:=by simp[ints,intsL]
theorem intsL_len {l:List Int}:(intsL l).length=l.length:=by simp[intsL]
theorem intsL_at {l:List Int}{i:Nat}{n:Int}(h:l[i]?=some n):(intsL l)[i]?=some [.int .i64 n]:=by simp[intsL,h]
end
theorem Sim.world {w0 w w':World}{G:Gh}{s:St}(h:Sim w0 G w s)(hb:Below w.heap.size w w'):Sim w0 G w' s:=by
 have hs:∀b,s b≠.free→b<w.heap.size:=fun b e=>h.lt e
 refine⟨h.below.trans (hb.mono h.size_le),fun b i v hk=>?_,fun b c hc=>Nat.lt_of_lt_of_le (h.cap b c hc) hb.size,fun b=>?_,h.gl,h.rows.keep' (Gh.le.refl G) hb.size (fun g hl hg=>⟨hg,hb.block g hl,fun _=>rfl⟩) (fun x T xs rs hx=>⟨hx,hb.block x (h.lt (by rw[hx];simp))⟩)⟩
 ·exact(hb.cell (p:=⟨b,i,none⟩) (h.K_lt hk)).trans (h.K b i v hk)
 ·rcases Nat.lt_or_ge b w.heap.size with e|e
  ·exact(h.ok b).keep (hb.block b e) (Gh.le.refl G) (fun _=>rfl)
  ·have hf:s b=.free:=by
    cases hc:s b with
    |free=>rfl
    |_=>exact absurd (hs b (by rw[hc];simp)) (by omega)
   rw[hf]
   trivial
def strs (l:List (List UInt8)):List (List VV):=l.map fun x=>[.str x]
theorem RL_two {G:Gh}{vs:Array Value}{x y:VV}(h:RL G vs [x,y]):∃a b,vs=#[a,b]∧R G a x∧R G b y:=by
 obtain⟨hs,hr⟩:=h
 obtain⟨l⟩:=vs
 match l,hs,hr with
 |[a,b],_,hr=>exact⟨a,b,rfl,hr 0 a x rfl rfl,hr 1 b y rfl rfl⟩
inductive PT where
 |fin (hs:List Nat)
 |one (hs:List Nat) (i:Nat) (sub:List (List Nat)) (r:PT)
 |two (hs:List Nat) (i:Nat) (subi:List (List Nat)) (ri:PT) (j:Nat) (subj:List (List Nat)) (rj:PT)
section
variable {P : Program} {N : Nat} {all : List Oper}
def vPt (P:Program)(N:Nat)(all:List Oper)(K:Env→St→Prop)(E:VV→Env→St→Prop):PT→List (Env×St)→Env→St→Prop
 |.fin hs,_,env,s=>∀Kh:Env→St→Prop,@Kof K Kh→vops P N all Kh F0 (pickL all hs) env s
 |.one hs i sub r,hist,env,s=>∀Kh:Env→St→Prop,
   @Kof (fun env1 s1=>vEa P N all i (fun e s'=>heldH P all ((env1,s1)::hist) sub s'∧vPt P N all K E r ((env1,s1)::hist) e s') E env1 s1) Kh →
   vops P N all Kh F0 (pickL all hs) env s
 |.two hs i subi ri j subj rj,hist,env,s=>∀Kh:Env→St→Prop,
   @Kof (fun env1 s1=>vEa P N all i (fun e s'=>heldH P all ((env1,s1)::hist) subi s'∧vPt P N all K E ri ((env1,s1)::hist) e s') E env1 s1 ∧
    vEa P N all j (fun e s'=>heldH P all ((env1,s1)::hist) subj s'∧vPt P N all K E rj ((env1,s1)::hist) e s') E env1 s1) Kh →
   vops P N all Kh F0 (pickL all hs) env s
def ptNext (all:List Oper)(hs:List Nat)(gr:List (List Nat))(l:Array Bool)(i:Nat)(sub:List (List Nat)):Bool:=
 decide ((hs::gr).map (fun g=>g.filter fun k=>freeOf all k ((markAll hs l).setIfInBounds i true))=sub) && (all[i]?).isSome
def ptB (all:List Oper)(keep:List Nat):PT→List (List Nat)→Array Bool→Nat→Bool
 |.fin hs,_,listed,f=>decide (f=hs.length) && closedB all listed && headB all keep hs listed (markAll hs listed) && decide (Region.ready .any all.toArray (markAll hs listed)=[])
 |.one hs i sub r,gr,listed,f=>decide (hs.length+1≤f) && closedB all listed && headB all keep hs listed (markAll hs listed) && decide (Region.ready .any all.toArray (markAll hs listed)=[i]) &&
   ptNext all hs gr listed i sub && ptB all keep r (hs::gr) ((markAll hs listed).setIfInBounds i true) (f - hs.length - 1)
 |.two hs i subi ri j subj rj,gr,listed,f=>decide (hs.length+1≤f) && closedB all listed && headB all keep hs listed (markAll hs listed) && decide (Region.ready .any all.toArray (markAll hs listed)=[i,j]) &&
   ptNext all hs gr listed i subi && ptNext all hs gr listed j subj &&
   ptB all keep ri (hs::gr) ((markAll hs listed).setIfInBounds i true) (f - hs.length - 1) && ptB all keep rj (hs::gr) ((markAll hs listed).setIfInBounds j true) (f - hs.length - 1)
theorem pt_go {K:Env→St→Prop}{E:VV→Env→St→Prop}{keep:List Nat}(hE:EOk N keep E) :
  ∀(pl:PT) (gr:List (List Nat)) (hist:List (Env×St)) (listed:Array Bool) (env:Env) (s:St) (f:Nat),ptB all keep pl gr listed f=true→histI P all gr hist listed s →
   vPt P N all K E pl hist env s→vAnyI P N all (histI P all gr hist) K E f listed env s
 |.fin hs,gr,hist,listed,env,s,f,hB,hI,h=>by
  simp only[ptB,Bool.and_eq_true,decide_eq_true_eq]at hB
  obtain⟨⟨⟨hf,hcl⟩,hh⟩,hr⟩:=hB
  refine G_head hE hs (f:=0) (markAll hs listed) rfl hh hcl (by omega) hI (histI_HM gr hist) fun Kh hKh=>?_
  exact h Kh fun envf s' hk=>hKh envf s' fun _ _=>⟨hr,hk⟩
 |.one hs i sub r,gr,hist,listed,env,s,f,hB,hI,h=>by
  simp only[ptB,ptNext,Bool.and_eq_true,decide_eq_true_eq]at hB
  obtain⟨⟨⟨⟨⟨hf,hcl⟩,hh⟩,hr⟩,hsub,hso⟩,hB⟩:=hB
  refine G_head hE hs (f:=f - hs.length - 1+1) (markAll hs listed) rfl hh hcl (by omega) hI (histI_HM gr hist) fun Kh hKh=>?_
  refine h Kh fun env1 s1 hk=>hKh env1 s1 fun hI1 hM1=>?_
  obtain⟨o,ho,hk⟩:=hk
  refine G_each [(i,(markAll hs listed).setIfInBounds i true)] (by simpa using hr) (by simp) ⟨⟨rfl,fun K' hK'=>⟨o,ho,hk K' fun e s' hq=>hK' e s' ?_⟩⟩,trivial⟩
  obtain⟨hq1,hq2⟩:=hq
  have hI2:histI P all (hs::gr) ((env1,s1)::hist) ((markAll hs listed).setIfInBounds i true) s':=histI_of (by rw[hsub];exact hq1)
  exact⟨hI2,fun _=>pt_go hE r (hs::gr) ((env1,s1)::hist) _ e s' _ hB hI2 hq2⟩
 |.two hs i subi ri j subj rj,gr,hist,listed,env,s,f,hB,hI,h=>by
  simp only[ptB,ptNext,Bool.and_eq_true,decide_eq_true_eq]at hB
  obtain⟨⟨⟨⟨⟨⟨⟨hf,hcl⟩,hh⟩,hr⟩,hsubi,hsoi⟩,hsubj,hsoj⟩,hBi⟩,hBj⟩:=hB
  refine G_head hE hs (f:=f - hs.length - 1+1) (markAll hs listed) rfl hh hcl (by omega) hI (histI_HM gr hist) fun Kh hKh=>?_
  refine h Kh fun env1 s1 hk=>hKh env1 s1 fun hI1 hM1=>?_
  obtain⟨⟨o,ho,hk⟩,⟨o2,ho2,hk2⟩⟩:=hk
  refine G_each [(i,(markAll hs listed).setIfInBounds i true),(j,(markAll hs listed).setIfInBounds j true)] (by simpa using hr) (by simp)
   ⟨⟨rfl,fun K' hK'=>⟨o,ho,hk K' fun e s' hq=>hK' e s' ?_⟩⟩,⟨rfl,fun K' hK'=>⟨o2,ho2,hk2 K' fun e s' hq=>hK' e s' ?_⟩⟩,trivial⟩
  ·obtain⟨hq1,hq2⟩:=hq
   have hI2:histI P all (hs::gr) ((env1,s1)::hist) ((markAll hs listed).setIfInBounds i true) s':=histI_of (by rw[hsubi];exact hq1)
   exact⟨hI2,fun _=>pt_go hE ri (hs::gr) ((env1,s1)::hist) _ e s' _ hBi hI2 hq2⟩
  ·obtain⟨hq1,hq2⟩:=hq
   have hI2:histI P all (hs::gr) ((env1,s1)::hist) ((markAll hs listed).setIfInBounds j true) s':=histI_of (by rw[hsubj];exact hq1)
   exact⟨hI2,fun _=>pt_go hE rj (hs::gr) ((env1,s1)::hist) _ e s' _ hBj hI2 hq2⟩
theorem G_planT {D:List Deferred}{k:List Itm}{Q:Pst}{env:Env}{s:St}(id:Nat){ops:List Oper}{keep:List Nat}(pl:PT)(hQ:EOk N keep (fun x=>Q (.panic x)))
  (h:∀(K:Env→St→Prop) (E:VV→Env→St→Prop),@Kof (Kp P N D k Q .norm) K→@Eof (fun x=>Q (.panic x)) E→vPt P N ops K E pl [] env s)
  (hm:P.follows .mixedOrders=true:=by decide +kernel) (hB:ptB ops keep pl [] (Array.replicate ops.length false) ops.length=true:=by decide +kernel) :
  Kp P N D (.code (.region id ops.toArray true)::k) Q .norm env s:=
 G_draw hm hQ fun K E hK hE hEe hI hM=>vAnyI_weak (fun _ _ _=>trivial) _ _ _ _ (pt_go hEe pl [] [] _ env s _ hB trivial (h K E hK hE))
theorem T_heads {K:Env→St→Prop}{E:VV→Env→St→Prop}{hs:List Nat}{i:Nat}{sub:List (List Nat)}{r:PT}{hist:List (Env×St)}{env:Env}{s:St}{ops:List Oper}
  (h:∀Kh:Env→St→Prop,
   @Kof (fun env1 s1=>vEa P N all i (fun e s'=>heldH P all ((env1,s1)::hist) sub s'∧vPt P N all K E r ((env1,s1)::hist) e s') E env1 s1) Kh →
   vops P N all Kh F0 ops env s) (hp:pickL all hs=ops:=by(simp only[pick0,pick1,pick2,List.getElem?_cons_zero,List.getElem?_cons_succ]<;>rfl)):vPt P N all K E (.one hs i sub r) hist env s:=by
 subst hp;exact h
theorem T_two {K:Env→St→Prop}{E:VV→Env→St→Prop}{hs:List Nat}{i j:Nat}{subi subj:List (List Nat)}{ri rj:PT}{hist:List (Env×St)}{env:Env}{s:St}{ops:List Oper}
  (h:∀Kh:Env→St→Prop,
   @Kof (fun env1 s1=>vEa P N all i (fun e s'=>heldH P all ((env1,s1)::hist) subi s'∧vPt P N all K E ri ((env1,s1)::hist) e s') E env1 s1 ∧
    vEa P N all j (fun e s'=>heldH P all ((env1,s1)::hist) subj s'∧vPt P N all K E rj ((env1,s1)::hist) e s') E env1 s1) Kh →
   vops P N all Kh F0 ops env s) (hp:pickL all hs=ops:=by(simp only[pick0,pick1,pick2,List.getElem?_cons_zero,List.getElem?_cons_succ]<;>rfl)):vPt P N all K E (.two hs i subi ri j subj rj) hist env s:=by
 subst hp;exact h
theorem T_fin {K:Env→St→Prop}{E:VV→Env→St→Prop}{fin:List Nat}{hist:List (Env×St)}{env:Env}{s:St}{ops:List Oper}
  (h:∀Kh:Env→St→Prop,@Kof K Kh→vops P N all Kh F0 ops env s) (hp:pickL all fin=ops:=by(simp only[pick0,pick1,pick2,List.getElem?_cons_zero,List.getElem?_cons_succ]<;>rfl)):vPt P N all K E (.fin fin) hist env s:=by
 subst hp;exact h
theorem T_both {i j:Nat}{R R2:Env→St→Prop}{E:VV→Env→St→Prop}{env1:Env}{s1:St}{o o2:Oper}(h:∀K':Env→St→Prop,@Kof R K'→vops P N all K' E [o] env1 s1)(h2:∀K':Env→St→Prop,@Kof R2 K'→vops P N all K' E [o2] env1 s1)
  (ho:all[i]?=some o:=by(simp only[List.getElem?_cons_zero,List.getElem?_cons_succ]<;>rfl)) (ho2:all[j]?=some o2:=by(simp only[List.getElem?_cons_zero,List.getElem?_cons_succ]<;>rfl)) :
  vEa P N all i R E env1 s1∧vEa P N all j R2 E env1 s1:=⟨⟨o,ho,h⟩,⟨o2,ho2,h2⟩⟩
end
def StopQ (p:Prop):Prop:=p
theorem Kp_atQ {P:Program}{N:Nat}{D:List Deferred}{k:List Itm}{Q:Pst}{env:Env}{s:St}(r:Nat){os:Array Oper}{fl:Bool}(h:StopQ (Kp P N D (.code (.region r os fl)::k) Q .norm env s)):Kp P N D (.code (.region r os fl)::k) Q .norm env s:=h
theorem Kp_nameQ {P:Program}{N:Nat}{D:List Deferred}{k:List Itm}{Q:Pst}{env:Env}{s:St}(h:∀s',s'=s→Kp P N D k Q .norm env s'):Kp P N D k Q .norm env s:=h s rfl
def GhW (w:World):Gh:=⟨fun b i=>w.cell? ⟨b,i,none⟩,fun _=>none⟩
def S0:St:=fun _=>.free
theorem Sim.start (w:World)(hg:GLB w):Sim w (GhW w) w S0:=⟨Below.refl _ _,fun _ _ _ h=>h,fun _ _ h=>(by cases h),fun _=>trivial,hg,fun _ _=>none,fun _ _ _ _ _ h=>(by cases h),fun _ _ _ h=>(by cases h),fun _ _ _ _ _ _ _ h=>(by cases h)⟩
theorem SRet.calls {P:Program}{f:FuncId}{xs:List VV}{vs:Array Value}{w:World}(h:SRet P f xs S0 (.bool true) S0)(hr:RL (GhW w) vs xs)(hg:GLB w:=by exact trivial) :
  Calls P f vs w fun e w'=>e=.returned (.bool true)∧Below w.heap.size w w':=by
 refine Calls.mono (h w (GhW w) w vs (Sim.start w hg) hr) fun e w' hq=>?_
 obtain⟨G',s',x,hG,hS,hE,hx,_⟩:=hq
 subst hx
 refine⟨?_,hS.below⟩
 cases e with
 |returned v=>
  have hv:R G' v (.bool true):=hE
  cases hv
  rfl
 |_=>exact hE.elim
theorem RL.one {G:Gh}{v:Value}{x:VV}(h:R G v x):RL G #[v] [x]:=
 ⟨rfl,fun j v' y hv hy=>by
  cases j with
  |zero=>simp at hv hy;subst hv;subst hy;exact h
  |succ j=>simp at hy⟩
theorem RL.two {G:Gh}{v u:Value}{x y:VV}(h:R G v x)(k:R G u y):RL G #[v,u] [x,y]:=
 ⟨rfl,fun j v' y' hv hy=>by
  match j with
  |0=>simp at hv hy;subst hv;subst hy;exact h
  |1=>simp at hv hy;subst hv;subst hy;exact k
  |j+2=>simp at hy⟩
theorem RL.three {G:Gh}{v u t:Value}{x y z:VV}(h:R G v x)(k:R G u y)(l:R G t z):RL G #[v,u,t] [x,y,z]:=
 ⟨rfl,fun j v' y' hv hy=>by
  match j with
  |0=>simp at hv hy;subst hv;subst hy;exact h
  |1=>simp at hv hy;subst hv;subst hy;exact k
  |2=>simp at hv hy;subst hv;subst hy;exact l
  |j+3=>simp at hy⟩
section
variable {H : Type} {enc : TypeId × Value → H} {P : Program} {w : World}
def CellsR (G:Gh)(cs:List Value)(xs:List VV):Prop:=cs.length=xs.length∧(∀y,y∈xs→y.one=true)∧∀(j:Nat) (v:Value) (y:VV),cs[j]?=some v→xs[j]?=some y→R G v y
theorem CellsR.one {G:Gh}{v:Value}{y:VV}(h:R G v y)(h1:y.one=true):CellsR G [v] [y]:=
 ⟨rfl,fun z hz=>by rw[List.mem_singleton]at hz;subst hz;exact h1,fun j v' y' hv hy=>by
  cases j with
  |zero=>simp at hv hy;subst hv;subst hy;exact h
  |succ j=>simp at hy⟩
def Wt (P:Program)(t:TypeId)(d:DataW H):Prop:=∀n,n∈d.weights P t→n≤reachBytes
theorem Wt.slice {t e:TypeId}{elems spare:List (DataW H)}(ht:P.underlying t=some (.slice e))(h:Wt P t (.slice elems spare)):elems.length * P.bytesOf e≤reachBytes∧∀d,d∈elems→Wt P e d:=by
 have key:∀(l:List (DataW H)) (d:DataW H),d∈l→∀n,n∈d.weights P e→n∈DataW.weightsAll P e l:=by
  intro l
  induction l with
  |nil=>intro d hd;cases hd
  |cons x l ih=>
   intro d hd n hn
   simp only[DataW.weightsAll,List.mem_append]
   rcases List.mem_cons.1 hd with rfl|hd
   ·exact .inl hn
   ·exact .inr (ih d hd n hn)
 unfold Wt at h
 simp only[DataW.weights,ht]at h
 refine⟨?_,fun d hd n hn=>h n (List.mem_cons_of_mem _ (List.mem_append_left _ (key elems d hd n hn)))⟩
 have:=h _ (List.mem_cons_self ..)
 exact Nat.le_trans (Nat.mul_le_mul_right _ (by omega)) this
theorem Wt.str {t:TypeId}{l:List UInt8}(h:Wt P t (.lit (.string l):DataW H)):l.length≤reachBytes:=h _ (by simp[DataW.weights])
theorem rd_slice {t e:TypeId}{sz:Nat}{fuel:Nat}{cs:List Value}{x:DataW H×List MemPlace}{Q:List VV→Prop}(ht:P.underlying t=some (.slice e))(hsz:P.cellsOf e=sz)(hpos:0<sz)(hby:1≤P.bytesOf e)
  (h:DataW.trod enc P w 0 (fun _=>true) true fuel t cs=some x) (hw:Wt P t x.1)
  (hel:∀(n:Nat) (cs':List Value) (y:DataW H×List MemPlace),n<fuel→DataW.trod enc P w 0 (fun _=>true) true n e cs'=some y→Wt P e y.1→∃xs,CellsR (GhW w) cs' xs∧xs.length=sz∧Q xs) :
  ∃xss:List (List VV),CellsR (GhW w) cs [.lst xss .no]∧(∀z,z∈xss→Q z)∧xss.length≤reachBytes:=by
 rcases DataW.trod_slice ht h with ⟨rfl,_⟩|⟨a,len,cap,elems,rest,n,hn,rfl,rfl,_,hl,hm,hlen,hel',_,_⟩
 ·exact⟨[],CellsR.one (.emp none 0 .no (.inl rfl)) rfl,(fun z hz=>by cases hz),by simp⟩
 ·obtain⟨hw1,hw2⟩:=hw.slice ht
  have hle:len≤reachBytes:=by
   rw[List.length_map,hlen]at hw1
   exact Nat.le_trans (Nat.le_mul_of_pos_right _ (by omega)) hw1
  have each:∀i,i<len→∃q:List Value×List VV,w.cells? 0 (a.add (i * sz)) sz=some q.1∧CellsR (GhW w) q.1 q.2∧q.2.length=sz∧Q q.2:=fun i hi=>by
   have h1:=hel' i hi
   rw[hsz,List.getElem?_eq_getElem (by omega)]at h1
   obtain⟨cs',hc,hy⟩:=Option.bind_eq_some_iff.1 h1
   obtain⟨xs,hx1,hx2,hx3⟩:=hel n cs' _ (by omega) hy (hw2 _ (List.mem_map.2 ⟨_,List.getElem_mem _,rfl⟩))
   exact⟨(cs',xs),hc,hx1,hx2,hx3⟩
  obtain⟨F,hF⟩:=Go.Deep.choose_lt each
  rcases Nat.eq_zero_or_pos len with h0|h0
  ·subst h0
   exact⟨[],CellsR.one (.emp _ cap .no (.inl rfl)) rfl,(fun z hz=>by cases hz),by simp⟩
  ·have hspot:a.spot=none:=by
    obtain⟨h1,_⟩:=hF 0 h0
    have h2:=(World.cells?_some h1).2.2 0 (by omega)
    simp only[Nat.zero_mul,Addr.add,if_true]at h2
    have h3:((F 0).1)[0]?=some ((F 0).1)[0]!:=by
     have:0<(F 0).1.length:=by rw[(World.cells?_some h1).2.1];exact hpos
     rw[List.getElem?_eq_getElem this];simp[this]
    rw[h3]at h2
    unfold World.cell? at h2
    cases hs:a.spot with
    |none=>rfl
    |some s=>rw[hs]at h2;split at h2<;>simp at h2
   obtain⟨b,off,spot⟩:=a
   simp only at hspot
   subst hspot
   have hadd:∀k,(Addr.mk b off none).add k=⟨b,off+k,none⟩:=fun k=>by
    unfold Addr.add
    split
    ·rename_i hk;subst hk;rfl
    ·rfl
   have hcell:∀i j,i<len→j<sz→w.cell? ⟨b,off+(i * sz+j),none⟩=some (((F i).1)[j]!):=fun i j hi hj=>by
    obtain⟨h1,_⟩:=hF i hi
    have h2:=(World.cells?_some h1).2.2 j hj
    have hlj:j<(F i).1.length:=by rw[(World.cells?_some h1).2.1];exact hj
    rw[hadd]at h2
    have h4:(Addr.mk b (off+i * sz) none).add j=⟨b,off+(i * sz+j),none⟩:=by
     unfold Addr.add
     split
     ·rename_i hk;subst hk;simp
     ·simp[Nat.add_assoc]
    rw[h4,List.getElem?_eq_getElem hlj]at h2
    rw[h2];simp[hlj]
   refine⟨(List.range len).map fun i=>(F i).2,CellsR.one (.lst b off len cap sz _ .no (fun i j=>((F i).1)[j]!) (by simp) hl ?_ ?_ (fun i j hi hj=>hcell i j hi hj) ?_ (.inl rfl)) rfl,?_,by simpa using hle⟩
   ·intro x hx
    obtain⟨i,hi,rfl⟩:=List.mem_map.1 hx
    exact(hF i (List.mem_range.1 hi)).2.2.1
   ·intro x hx
    obtain⟨i,hi,rfl⟩:=List.mem_map.1 hx
    exact(hF i (List.mem_range.1 hi)).2.1.2.1
   ·intro i j x y hx hy
    rw[List.getElem?_map]at hx
    obtain⟨i',hi',rfl⟩:=Option.map_eq_some_iff.1 hx
    have hlt:i<len:=by
     have:=(List.getElem?_eq_some_iff.1 hi').1
     simpa using this
    have:i'=i:=by
     rw[List.getElem?_range hlt]at hi'
     injection hi' with hi';exact hi'.symm
    subst this
    obtain⟨h1,h2,h3,_⟩:=hF i' hlt
    have hj:j<sz:=by rw[← h3];exact(List.getElem?_eq_some_iff.1 hy).1
    have hlj:j<(F i').1.length:=by rw[(World.cells?_some h1).2.1];exact hj
    exact h2.2.2 j _ y (by rw[List.getElem?_eq_getElem hlj];simp[hlj]) hy
   ·intro z hz
    obtain⟨i,hi,rfl⟩:=List.mem_map.1 hz
    exact(hF i (List.mem_range.1 hi)).2.2.2
end
theorem CellsR.of {G:Gh}{cs:List Value}{xs:List VV}(hl:cs.length=xs.length)(h:∀(j:Nat) (y:VV),xs[j]?=some y→∃v,cs[j]?=some v∧R G v y∧y.one=true):CellsR G cs xs:=by
 refine⟨hl,fun y hy=>?_,fun j v y hv hy=>?_⟩
 ·obtain⟨j,hj,e⟩:=List.mem_iff_getElem.1 hy
  obtain⟨_,_,_,h1⟩:=h j y (by rw[← e];exact List.getElem?_eq_getElem hj)
  exact h1
 ·obtain⟨v',h1,h2,_⟩:=h j y hy
  rw[h1]at hv;injection hv with hv;subst hv;exact h2
theorem reach_le {n:Nat}(h:n≤reachBytes):n≤140737488355328:=Nat.le_trans h (by decide)
theorem list_of {α:Type}{C:α→List VV}{Ok:α→Prop}:∀xss:List (List VV),(∀z,z∈xss→∃s:α,z=C s∧Ok s)→∃l:List α,xss=l.map C∧∀s,s∈l→Ok s
 |[],_=>⟨[],rfl,(fun s hs=>by cases hs)⟩
 |z::r,h=>by
  obtain⟨s,rfl,hs⟩:=h z (by simp)
  obtain⟨l,rfl,hl⟩:=list_of r fun y hy=>h y (by simp[hy])
  exact⟨s::l,rfl,fun u hu=>by
   rcases List.mem_cons.1 hu with rfl|hu
   ·exact hs
   ·exact hl u hu⟩
end Go.Proofs.YtohnaepcgnbaiaaGreatDoor
