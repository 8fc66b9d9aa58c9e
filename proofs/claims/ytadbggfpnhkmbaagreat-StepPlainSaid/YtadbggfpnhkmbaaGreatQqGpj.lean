/- Walks of functions that the claim reaches, and plain facts of them. Conditions: those in the statements. -/
import Derived.Test.YtadbggfpnhkmbaaGreatQqGo
set_option linter.unusedSimpArgs false
set_option linter.unusedVariables false
namespace Go.Proofs.YtadbggfpnhkmbaaGreat
open Go.RowKit
section
variable {P : Program} {N : Nat} {all : List Oper}
def histI (P:Program)(all:List Oper):List (List Nat)→List (Env×St)→Array Bool→St→Prop
 |hs::gr,(e,s)::hr,l,s'=>histI P all gr hr l s'∧heldF P all e s hs l s'
 |_,_,_,_=>True
def heldH (P:Program)(all:List Oper):List (Env×St)→List (List Nat)→St→Prop
 |(e,s)::hr,is::sr,s'=>heldH P all hr sr s'∧heldL P all e s (pickL all is) s'
 |_,_,_=>True
def vEa (P:Program)(N:Nat)(all:List Oper)(i:Nat)(R:Env→St→Prop)(E:VV→Env→St→Prop)(env1:Env)(s1:St):Prop:=
 ∃o,all[i]?=some o∧∀K':Env→St→Prop,@Kof R K'→vops P N all K' E [o] env1 s1
abbrev Plan:=List (List Nat×Nat×List (List Nat))
def vPl (P:Program)(N:Nat)(all:List Oper)(K:Env→St→Prop)(E:VV→Env→St→Prop)(fin:List Nat):Plan→List (Env×St)→Env→St→Prop
 |[],_,env,s=>∀Kh:Env→St→Prop,@Kof K Kh→vops P N all Kh F0 (pickL all fin) env s
 |(hs,i,sub)::r,hist,env,s=>∀Kh:Env→St→Prop,
   @Kof (fun env1 s1=>vEa P N all i (fun e s'=>heldH P all ((env1,s1)::hist) sub s'∧vPl P N all K E fin r ((env1,s1)::hist) e s') E env1 s1) Kh →
   vops P N all Kh F0 (pickL all hs) env s
def markAll:List Nat→Array Bool→Array Bool
 |[],l=>l
 |i::r,l=>markAll r (l.setIfInBounds i true)
def planB (all:List Oper)(keep:List Nat)(fin:List Nat):Plan→List (List Nat)→Array Bool→Nat→Bool
 |[],_,listed,f=>decide (f=fin.length) && closedB all listed && headB all keep fin listed (markAll fin listed) && decide (Region.ready .any all.toArray (markAll fin listed)=[])
 |(hs,i,sub)::r,gr,listed,f=>decide (hs.length+1≤f) && closedB all listed && headB all keep hs listed (markAll hs listed) && decide (Region.ready .any all.toArray (markAll hs listed)=[i]) &&
   decide ((hs::gr).map (fun g=>g.filter fun k=>freeOf all k ((markAll hs listed).setIfInBounds i true))=sub) && (all[i]?).isSome &&
   planB all keep fin r (hs::gr) ((markAll hs listed).setIfInBounds i true) (f - hs.length - 1)
theorem histI_HM:∀(gr:List (List Nat)) (hist:List (Env×St)),HM all (histI P all gr hist)
 |[],_=>fun k hk l s=>by unfold histI;exact Iff.rfl
 |hs::gr,[]=>fun k hk l s=>by unfold histI;exact Iff.rfl
 |hs::gr,(e,s0)::hr=>fun k hk l s=>by
  unfold histI
  rw[histI_HM gr hr k hk l s,heldF_set hk]
theorem histI_of {l:Array Bool}{s':St}:∀{gr:List (List Nat)} {hist:List (Env×St)},heldH P all hist (gr.map fun g=>g.filter fun k=>freeOf all k l) s'→histI P all gr hist l s'
 |[],_,_=>by unfold histI;trivial
 |hs::gr,[],_=>by unfold histI;trivial
 |hs::gr,(e,s0)::hr,h=>⟨histI_of h.1,h.2⟩
theorem plan_go {K:Env→St→Prop}{E:VV→Env→St→Prop}{keep:List Nat}(hE:EOk N keep E){fin:List Nat} :
  ∀(pl:Plan) (gr:List (List Nat)) (hist:List (Env×St)) (listed:Array Bool) (env:Env) (s:St) (f:Nat),planB all keep fin pl gr listed f=true→histI P all gr hist listed s →
   vPl P N all K E fin pl hist env s→vAnyI P N all (histI P all gr hist) K E f listed env s
 |[],gr,hist,listed,env,s,f,hB,hI,h=>by
  simp only[planB,Bool.and_eq_true,decide_eq_true_eq]at hB
  obtain⟨⟨⟨hf,hcl⟩,hh⟩,hr⟩:=hB
  refine G_head hE fin (f:=0) (markAll fin listed) rfl hh hcl (by omega) hI (histI_HM gr hist) fun Kh hKh=>?_
  exact h Kh fun envf s' hk=>hKh envf s' fun _ _=>⟨hr,hk⟩
 |(hs,i,sub)::r,gr,hist,listed,env,s,f,hB,hI,h=>by
  simp only[planB,Bool.and_eq_true,decide_eq_true_eq]at hB
  obtain⟨⟨⟨⟨⟨⟨hf,hcl⟩,hh⟩,hr⟩,hsub⟩,hso⟩,hB⟩:=hB
  refine G_head hE hs (f:=f - hs.length - 1+1) (markAll hs listed) rfl hh hcl (by omega) hI (histI_HM gr hist) fun Kh hKh=>?_
  refine h Kh fun env1 s1 hk=>hKh env1 s1 fun hI1 hM1=>?_
  obtain⟨o,ho,hk⟩:=hk
  refine G_each [(i,(markAll hs listed).setIfInBounds i true)] (by simpa using hr) (by simp) ⟨⟨rfl,fun K' hK'=>⟨o,ho,hk K' fun e s' hq=>hK' e s' ?_⟩⟩,trivial⟩
  obtain⟨hq1,hq2⟩:=hq
  have hI2:histI P all (hs::gr) ((env1,s1)::hist) ((markAll hs listed).setIfInBounds i true) s':=histI_of (by rw[hsub];exact hq1)
  exact⟨hI2,fun _=>plan_go hE r (hs::gr) ((env1,s1)::hist) _ e s' _ hB hI2 hq2⟩
theorem G_plan {D:List Deferred}{k:List Itm}{Q:Pst}{env:Env}{s:St}(id:Nat){ops:List Oper}{keep:List Nat}(pl:Plan)(fin:List Nat)(hQ:EOk N keep (fun x=>Q (.panic x)))
  (h:∀(K:Env→St→Prop) (E:VV→Env→St→Prop),@Kof (Kp P N D k Q .norm) K→@Eof (fun x=>Q (.panic x)) E→vPl P N ops K E fin pl [] env s)
  (hm:P.follows .mixedOrders=true:=by decide +kernel) (hB:planB ops keep fin pl [] (Array.replicate ops.length false) ops.length=true:=by decide +kernel) :
  Kp P N D (.code (.region id ops.toArray true)::k) Q .norm env s:=
 G_draw hm hQ fun K E hK hE hEe hI hM=>vAnyI_weak (fun _ _ _=>trivial) _ _ _ _ (plan_go hEe pl [] [] _ env s _ hB trivial (h K E hK hE))
theorem P_heads {K:Env→St→Prop}{E:VV→Env→St→Prop}{fin hs:List Nat}{i:Nat}{sub:List (List Nat)}{r:Plan}{hist:List (Env×St)}{env:Env}{s:St}{ops:List Oper}
  (h:∀Kh:Env→St→Prop,
   @Kof (fun env1 s1=>vEa P N all i (fun e s'=>heldH P all ((env1,s1)::hist) sub s'∧vPl P N all K E fin r ((env1,s1)::hist) e s') E env1 s1) Kh →
   vops P N all Kh F0 ops env s) (hp:pickL all hs=ops:=by(simp only[pick0,pick1,pick2,List.getElem?_cons_zero,List.getElem?_cons_succ]<;>rfl)):vPl P N all K E fin ((hs,i,sub)::r) hist env s:=by
 subst hp;exact h
theorem P_fin {K:Env→St→Prop}{E:VV→Env→St→Prop}{fin:List Nat}{hist:List (Env×St)}{env:Env}{s:St}{ops:List Oper}
  (h:∀Kh:Env→St→Prop,@Kof K Kh→vops P N all Kh F0 ops env s) (hp:pickL all fin=ops:=by(simp only[pick0,pick1,pick2,List.getElem?_cons_zero,List.getElem?_cons_succ]<;>rfl)):vPl P N all K E fin [] hist env s:=by
 subst hp;exact h
theorem P_each {i:Nat}{R:Env→St→Prop}{E:VV→Env→St→Prop}{env1:Env}{s1:St}{o:Oper}(h:∀K':Env→St→Prop,@Kof R K'→vops P N all K' E [o] env1 s1)(ho:all[i]?=some o:=by(simp only[List.getElem?_cons_zero,List.getElem?_cons_succ]<;>rfl)) :
  vEa P N all i R E env1 s1:=⟨o,ho,h⟩
theorem heldH_cons {e:Env}{s s':St}{hr:List (Env×St)}{is:List Nat}{sr:List (List Nat)}:heldH P all ((e,s)::hr) (is::sr) s'=(heldH P all hr sr s'∧heldL P all e s (pickL all is) s'):=rfl
theorem heldH_nil {s':St}:heldH P all [] [] s'=True:=rfl
theorem heldL_nil {e:Env}{s s':St}:heldL P all e s [] s'=True:=rfl
attribute [go_sem] heldH_cons heldH_nil heldL_nil List.length_map
theorem P_next {hist:List (Env×St)}{sub:List (List Nat)}{s':St}{q:Prop}(h:q)
  (hh:heldH P all hist sub s':=by first
   |(simp only[heldH_cons,heldH_nil,heldL_nil,pick0,and_true];done)
   |(simp(disch:=first|assumption|omega) only[go_sem,seval,pick0,pick1,pick2,heldL,heldG,heldO,heldB, *];done)):heldH P all hist sub s'∧q:=⟨hh,h⟩
end
theorem eqE_i {a b:Int}:(a=b)=((a=b)=True):=propext ⟨eq_true,of_eq_true⟩
theorem eqE_n {a b:Nat}:(a=b)=((a=b)=True):=propext ⟨eq_true,of_eq_true⟩
theorem eqE_u {a b:UInt8}:(a=b)=((a=b)=True):=propext ⟨eq_true,of_eq_true⟩
theorem eqE_s {a b:List UInt8}:(a=b)=((a=b)=True):=propext ⟨eq_true,of_eq_true⟩
section
variable {P : Program} {N : Nat} {D : List Deferred} {k : List Itm} {Q : Pst} {env : Env} {s : St} {all rest : List Oper} {K : Env → St → Prop} {E : VV → Env → St → Prop}
theorem W_cond {c:Operand}{x y:Code}{b:Bool}{p q:Prop}(h1:p→Kp P N D (.code x::k) Q .norm env s)(h2:q→Kp P N D (.code y::k) Q .norm env s)
  (hb:rd env c=.bool b:=by((try simp(disch:=first|assumption|omega) only[go_sem,seval, *])<;>rfl))
  (hp:(b=true)=p:=by((try simp only[decide_eq_true_eq,decide_eq_false_iff_not,Bool.not_eq_true',Bool.not_eq_false',Bool.not_eq_true,Bool.not_eq_false,Int.ofNat_lt,Int.ofNat_le,Int.natCast_inj,bne_iff_ne,ne_eq,beq_iff_eq,reduceCtorEq,Bool.true_eq_false,Bool.false_eq_true,decide_not,not_false_eq_true,not_true_eq_false]);first|exact eqE_i|exact eqE_n|exact eqE_u|exact eqE_s|rfl))
  (hq:(b=false)=q:=by((try simp only[decide_eq_true_eq,decide_eq_false_iff_not,Bool.not_eq_true',Bool.not_eq_false',Bool.not_eq_true,Bool.not_eq_false,Int.ofNat_lt,Int.ofNat_le,Int.natCast_inj,bne_iff_ne,ne_eq,beq_iff_eq,reduceCtorEq,Bool.true_eq_false,Bool.false_eq_true,decide_not,not_false_eq_true,not_true_eq_false]);first|exact eqE_i|exact eqE_n|exact eqE_u|exact eqE_s|rfl)) :
  Kp P N D (.code (.cond c x y)::k) Q .norm env s:=G_cond hb (fun h=>h1 (hp ▸ h)) (fun h=>h2 (hq ▸ h))
theorem W_gd {b want:Bool}{d:Option Tmp}{op:Op}{ty:TypeId}{pl:String}{af:Array Edge}{p q:Prop}
  (h1:p→vgd P N all K E (.bool true) want d op ty pl af rest env s) (h2:q→vgd P N all K E (.bool false) want d op ty pl af rest env s)
  (hp:(b=true)=p:=by((try simp only[decide_eq_true_eq,decide_eq_false_iff_not,Bool.not_eq_true',Bool.not_eq_false',Bool.not_eq_true,Bool.not_eq_false,Int.ofNat_lt,Int.ofNat_le,Int.natCast_inj,bne_iff_ne,ne_eq,beq_iff_eq,reduceCtorEq,Bool.true_eq_false,Bool.false_eq_true,decide_not,not_false_eq_true,not_true_eq_false]);first|exact eqE_i|exact eqE_n|exact eqE_u|exact eqE_s|rfl))
  (hq:(b=false)=q:=by((try simp only[decide_eq_true_eq,decide_eq_false_iff_not,Bool.not_eq_true',Bool.not_eq_false',Bool.not_eq_true,Bool.not_eq_false,Int.ofNat_lt,Int.ofNat_le,Int.natCast_inj,bne_iff_ne,ne_eq,beq_iff_eq,reduceCtorEq,Bool.true_eq_false,Bool.false_eq_true,decide_not,not_false_eq_true,not_true_eq_false]);first|exact eqE_i|exact eqE_n|exact eqE_u|exact eqE_s|rfl)) :
  vgd P N all K E (.bool b) want d op ty pl af rest env s:=G_gd (fun h=>h1 (hp ▸ h)) (fun h=>h2 (hq ▸ h))
theorem W_if {d:Option Tmp}{c:Prop}[Decidable c]{x:Option VV}(h2:vput P N all K E d rest env s x)
  (h:c:=by first|assumption|omega|(simp(disch:=first|assumption|omega) only[go_sem,seval, *];done)):vput P N all K E d rest env s (if c then x else none):=G_if h h2
theorem W_ifS {d:Option Tmp}{c:Prop}[Decidable c]{x:Option St}(h2:vputS P N all K E d rest env x)
  (h:c:=by first|assumption|omega|(simp(disch:=first|assumption|omega) only[go_sem,seval, *];done)):vputS P N all K E d rest env (if c then x else none):=G_ifS h h2
theorem W_and {a b:Prop}(h:b)(ha:a:=by first|assumption|omega|trivial|(simp(disch:=first|assumption|omega) only[go_sem,seval, *];done)):a∧b:=⟨ha,h⟩
theorem W_fresh {p' q:Nat→Prop}(h:∀b,p' b→q b)(hp:∀b,(s b=.free)=p' b:=by(intro b;(try simp(disch:=first|assumption|omega) only[go_sem,seval, *]);(try simp only[set_free_o,set_free_v,set_free_m,ite_free_o,ite_free_v,ite_free_m,set_free_p,ite_free_p,set_free_r,ite_free_r]);rfl)):∀b,New s b→q b:=
 fun b hb=>h b (hp b ▸ hb.1)
theorem W_app {k:VV→St→Prop}{e:TypeId}{q:QI}{xs ys:List (List VV)}{o:Own}{p':Own→Prop}(h:∀o',p' o'→k (.lst (xs++ys) o') ((s.disown o).own o' e q.sz (xs.length+ys.length)))
  (ho:Owned s o e q.sz xs.length:=by(simp(disch:=first|assumption|omega) only[go_sem,seval, *]))
  (hb:(xs.length+ys.length) * q.bt≤140737488355328:=by((try simp only[go_sem, *]);omega))
  (hm:xs.length+ys.length≤9223372036854775807:=by((try simp only[go_sem, *]);omega))
  (hy:∀y,y∈ys→y.length=q.sz:=by first|assumption|(intro y hy;simp only[List.mem_singleton]at hy;subst hy;first|rfl|(simp only[go_sem];done)|(simp;done)))
  (hz:q.zok=true:=by rfl)
  (hp:∀o',OwnOk (s.disown o) o' (xs.length+ys.length)=p' o':=by(intro o';(try simp(disch:=assumption) only[disown_set,disown_own,ownok_o,ownok_m,List.length_map,List.length_cons,List.length_nil,Nat.zero_add]);rfl)) :
  vappend k e q xs ys o s:=append_gen _ _ rfl rfl ho hb hm hy hz fun o' h'=>h o' (hp o' ▸ h')
end
section
variable {P : Program} {N : Nat} {all : List Oper}
def Agree (s s':St):Prop:=∀x,s x≠.free→s' x=s x
theorem Agree.refl (s:St):Agree s s:=fun _ _=>rfl
theorem Agree.set {s s':St}(h:Agree s s'){b:Nat}(hb:s b=.free)(c:Cell):Agree s (s'.set b c):=fun x hx=>by
 by_cases he:x=b
 ·subst he;exact absurd hb hx
 ·rw[St.set_other _ _ he];exact h x hx
theorem set_comm' {s:St}{x y:Nat}{c d:Cell}(h:x≠y):(s.set x c).set y d=(s.set y d).set x c:=by
 funext z
 simp only[St.set]
 by_cases h1:z=x
 ·subst h1;simp[h]
 ·simp[h1]
end
end Go.Proofs.YtadbggfpnhkmbaaGreat
set_option maxRecDepth 100000
namespace Go.Proofs.YtadbggfpnhkmbaaGreat
open Go.RowKit
section
variable {P : Program} {N : Nat} {D : List Deferred} {c : Code} {k : List Itm} {Q : Pst} {env : Env} {s : St}
def intsL (l:List Int):List (List VV):=l.map fun n=>[VV.int .i64 n]
theorem intsL_len {l:List Int}:(intsL l).length=l.length:=by simp[intsL]
theorem intsL_at {l:List Int}{i:Nat}{n:Int}(h:l[i]?=some n):(intsL l)[i]?=some [.int .i64 n]:=by simp[intsL,h]
end
theorem Sim.world {w0 w w':World}{G:Gh}{s:St}(h:Sim w0 G w s)(hb:Below w.heap.size w w'):Sim w0 G w' s:=by
 have hs:∀b,s b≠.free→b<w.heap.size:=fun b e=>h.lt e
 refine⟨h.below.trans (hb.mono h.size_le),fun b i v hk=>?_,fun b c hc=>Nat.lt_of_lt_of_le (h.cap b c hc) hb.size,fun b=>?_,h.gl,h.rows.keep' (Gh.le.refl G) hb.size (fun g hl hg=>⟨hg,hb.block g hl,fun _=>rfl⟩) (fun x T xs rs hx=>⟨hx,hb.block x (h.lt (by rw[hx];simp))⟩)⟩
 ·exact(hb.cell (p:=⟨b,i,none⟩) (h.K_lt hk)).trans (h.K b i v hk)
 ·rcases Nat.lt_or_ge b w.heap.size with e|e
  ·exact(h.ok b).keep (hb.block b e) (Gh.le.refl G) (fun _=>rfl)
  ·have hf:s b=.free:=by
    cases hc:s b with
    |free=>rfl
    |_=>exact absurd (hs b (by rw[hc];simp)) (by omega)
   rw[hf]
   trivial
def strs (l:List (List UInt8)):List (List VV):=l.map fun x=>[.str x]
theorem RL_two {G:Gh}{vs:Array Value}{x y:VV}(h:RL G vs [x,y]):∃a b,vs=#[a,b]∧R G a x∧R G b y:=by
 obtain⟨hs,hr⟩:=h
 obtain⟨l⟩:=vs
 match l,hs,hr with
 |[a,b],_,hr=>exact⟨a,b,rfl,hr 0 a x rfl rfl,hr 1 b y rfl rfl⟩
inductive PT where
 |fin (hs:List Nat)
 |one (hs:List Nat) (i:Nat) (sub:List (List Nat)) (r:PT)
 |two (hs:List Nat) (i:Nat) (subi:List (List Nat)) (ri:PT) (j:Nat) (subj:List (List Nat)) (rj:PT)
section
variable {P : Program} {N : Nat} {all : List Oper}
def vPt (P:Program)(N:Nat)(all:List Oper)(K:Env→St→Prop)(E:VV→Env→St→Prop):PT→List (Env×St)→Env→St→Prop
 |.fin hs,_,env,s=>∀Kh:Env→St→Prop,@Kof K Kh→vops P N all Kh F0 (pickL all hs) env s
 |.one hs i sub r,hist,env,s=>∀Kh:Env→St→Prop,
   @Kof (fun env1 s1=>vEa P N all i (fun e s'=>heldH P all ((env1,s1)::hist) sub s'∧vPt P N all K E r ((env1,s1)::hist) e s') E env1 s1) Kh →
   vops P N all Kh F0 (pickL all hs) env s
 |.two hs i subi ri j subj rj,hist,env,s=>∀Kh:Env→St→Prop,
   @Kof (fun env1 s1=>vEa P N all i (fun e s'=>heldH P all ((env1,s1)::hist) subi s'∧vPt P N all K E ri ((env1,s1)::hist) e s') E env1 s1 ∧
    vEa P N all j (fun e s'=>heldH P all ((env1,s1)::hist) subj s'∧vPt P N all K E rj ((env1,s1)::hist) e s') E env1 s1) Kh →
   vops P N all Kh F0 (pickL all hs) env s
def ptNext (all:List Oper)(hs:List Nat)(gr:List (List Nat))(l:Array Bool)(i:Nat)(sub:List (List Nat)):Bool:=
 decide ((hs::gr).map (fun g=>g.filter fun k=>freeOf all k ((markAll hs l).setIfInBounds i true))=sub) && (all[i]?).isSome
def ptB (all:List Oper)(keep:List Nat):PT→List (List Nat)→Array Bool→Nat→Bool
 |.fin hs,_,listed,f=>decide (f=hs.length) && closedB all listed && headB all keep hs listed (markAll hs listed) && decide (Region.ready .any all.toArray (markAll hs listed)=[])
 |.one hs i sub r,gr,listed,f=>decide (hs.length+1≤f) && closedB all listed && headB all keep hs listed (markAll hs listed) && decide (Region.ready .any all.toArray (markAll hs listed)=[i]) &&
   ptNext all hs gr listed i sub && ptB all keep r (hs::gr) ((markAll hs listed).setIfInBounds i true) (f - hs.length - 1)
 |.two hs i subi ri j subj rj,gr,listed,f=>decide (hs.length+1≤f) && closedB all listed && headB all keep hs listed (markAll hs listed) && decide (Region.ready .any all.toArray (markAll hs listed)=[i,j]) &&
   ptNext all hs gr listed i subi && ptNext all hs gr listed j subj &&
   ptB all keep ri (hs::gr) ((markAll hs listed).setIfInBounds i true) (f - hs.length - 1) && ptB all keep rj (hs::gr) ((markAll hs listed).setIfInBounds j true) (f - hs.length - 1)
theorem pt_go {K:Env→St→Prop}{E:VV→Env→St→Prop}{keep:List Nat}(hE:EOk N keep E) :
  ∀(pl:PT) (gr:List (List Nat)) (hist:List (Env×St)) (listed:Array Bool) (env:Env) (s:St) (f:Nat),ptB all keep pl gr listed f=true→histI P all gr hist listed s →
   vPt P N all K E pl hist env s→vAnyI P N all (histI P all gr hist) K E f listed env s
 |.fin hs,gr,hist,listed,env,s,f,hB,hI,h=>by
  simp only[ptB,Bool.and_eq_true,decide_eq_true_eq]at hB
  obtain⟨⟨⟨hf,hcl⟩,hh⟩,hr⟩:=hB
  refine G_head hE hs (f:=0) (markAll hs listed) rfl hh hcl (by omega) hI (histI_HM gr hist) fun Kh hKh=>?_
  exact h Kh fun envf s' hk=>hKh envf s' fun _ _=>⟨hr,hk⟩
 |.one hs i sub r,gr,hist,listed,env,s,f,hB,hI,h=>by
  simp only[ptB,ptNext,Bool.and_eq_true,decide_eq_true_eq]at hB
  obtain⟨⟨⟨⟨⟨hf,hcl⟩,hh⟩,hr⟩,hsub,hso⟩,hB⟩:=hB
  refine G_head hE hs (f:=f - hs.length - 1+1) (markAll hs listed) rfl hh hcl (by omega) hI (histI_HM gr hist) fun Kh hKh=>?_
  refine h Kh fun env1 s1 hk=>hKh env1 s1 fun hI1 hM1=>?_
  obtain⟨o,ho,hk⟩:=hk
  refine G_each [(i,(markAll hs listed).setIfInBounds i true)] (by simpa using hr) (by simp) ⟨⟨rfl,fun K' hK'=>⟨o,ho,hk K' fun e s' hq=>hK' e s' ?_⟩⟩,trivial⟩
  obtain⟨hq1,hq2⟩:=hq
  have hI2:histI P all (hs::gr) ((env1,s1)::hist) ((markAll hs listed).setIfInBounds i true) s':=histI_of (by rw[hsub];exact hq1)
  exact⟨hI2,fun _=>pt_go hE r (hs::gr) ((env1,s1)::hist) _ e s' _ hB hI2 hq2⟩
 |.two hs i subi ri j subj rj,gr,hist,listed,env,s,f,hB,hI,h=>by
  simp only[ptB,ptNext,Bool.and_eq_true,decide_eq_true_eq]at hB
  obtain⟨⟨⟨⟨⟨⟨⟨hf,hcl⟩,hh⟩,hr⟩,hsubi,hsoi⟩,hsubj,hsoj⟩,hBi⟩,hBj⟩:=hB
  refine G_head hE hs (f:=f - hs.length - 1+1) (markAll hs listed) rfl hh hcl (by omega) hI (histI_HM gr hist) fun Kh hKh=>?_
  refine h Kh fun env1 s1 hk=>hKh env1 s1 fun hI1 hM1=>?_
  obtain⟨⟨o,ho,hk⟩,⟨o2,ho2,hk2⟩⟩:=hk
  refine G_each [(i,(markAll hs listed).setIfInBounds i true),(j,(markAll hs listed).setIfInBounds j true)] (by simpa using hr) (by simp)
   ⟨⟨rfl,fun K' hK'=>⟨o,ho,hk K' fun e s' hq=>hK' e s' ?_⟩⟩,⟨rfl,fun K' hK'=>⟨o2,ho2,hk2 K' fun e s' hq=>hK' e s' ?_⟩⟩,trivial⟩
  ·obtain⟨hq1,hq2⟩:=hq
   have hI2:histI P all (hs::gr) ((env1,s1)::hist) ((markAll hs listed).setIfInBounds i true) s':=histI_of (by rw[hsubi];exact hq1)
   exact⟨hI2,fun _=>pt_go hE ri (hs::gr) ((env1,s1)::hist) _ e s' _ hBi hI2 hq2⟩
  ·obtain⟨hq1,hq2⟩:=hq
   have hI2:histI P all (hs::gr) ((env1,s1)::hist) ((markAll hs listed).setIfInBounds j true) s':=histI_of (by rw[hsubj];exact hq1)
   exact⟨hI2,fun _=>pt_go hE rj (hs::gr) ((env1,s1)::hist) _ e s' _ hBj hI2 hq2⟩
theorem G_planT {D:List Deferred}{k:List Itm}{Q:Pst}{env:Env}{s:St}(id:Nat){ops:List Oper}{keep:List Nat}(pl:PT)(hQ:EOk N keep (fun x=>Q (.panic x)))
  (h:∀(K:Env→St→Prop) (E:VV→Env→St→Prop),@Kof (Kp P N D k Q .norm) K→@Eof (fun x=>Q (.panic x)) E→vPt P N ops K E pl [] env s)
  (hm:P.follows .mixedOrders=true:=by decide +kernel) (hB:ptB ops keep pl [] (Array.replicate ops.length false) ops.length=true:=by decide +kernel) :
  Kp P N D (.code (.region id ops.toArray true)::k) Q .norm env s:=
 G_draw hm hQ fun K E hK hE hEe hI hM=>vAnyI_weak (fun _ _ _=>trivial) _ _ _ _ (pt_go hEe pl [] [] _ env s _ hB trivial (h K E hK hE))
theorem T_heads {K:Env→St→Prop}{E:VV→Env→St→Prop}{hs:List Nat}{i:Nat}{sub:List (List Nat)}{r:PT}{hist:List (Env×St)}{env:Env}{s:St}{ops:List Oper}
  (h:∀Kh:Env→St→Prop,
   @Kof (fun env1 s1=>vEa P N all i (fun e s'=>heldH P all ((env1,s1)::hist) sub s'∧vPt P N all K E r ((env1,s1)::hist) e s') E env1 s1) Kh →
   vops P N all Kh F0 ops env s) (hp:pickL all hs=ops:=by(simp only[pick0,pick1,pick2,List.getElem?_cons_zero,List.getElem?_cons_succ]<;>rfl)):vPt P N all K E (.one hs i sub r) hist env s:=by
 subst hp;exact h
theorem T_two {K:Env→St→Prop}{E:VV→Env→St→Prop}{hs:List Nat}{i j:Nat}{subi subj:List (List Nat)}{ri rj:PT}{hist:List (Env×St)}{env:Env}{s:St}{ops:List Oper}
  (h:∀Kh:Env→St→Prop,
   @Kof (fun env1 s1=>vEa P N all i (fun e s'=>heldH P all ((env1,s1)::hist) subi s'∧vPt P N all K E ri ((env1,s1)::hist) e s') E env1 s1 ∧
    vEa P N all j (fun e s'=>heldH P all ((env1,s1)::hist) subj s'∧vPt P N all K E rj ((env1,s1)::hist) e s') E env1 s1) Kh →
   vops P N all Kh F0 ops env s) (hp:pickL all hs=ops:=by(simp only[pick0,pick1,pick2,List.getElem?_cons_zero,List.getElem?_cons_succ]<;>rfl)):vPt P N all K E (.two hs i subi ri j subj rj) hist env s:=by
 subst hp;exact h
theorem T_fin {K:Env→St→Prop}{E:VV→Env→St→Prop}{fin:List Nat}{hist:List (Env×St)}{env:Env}{s:St}{ops:List Oper}
  (h:∀Kh:Env→St→Prop,@Kof K Kh→vops P N all Kh F0 ops env s) (hp:pickL all fin=ops:=by(simp only[pick0,pick1,pick2,List.getElem?_cons_zero,List.getElem?_cons_succ]<;>rfl)):vPt P N all K E (.fin fin) hist env s:=by
 subst hp;exact h
theorem T_both {i j:Nat}{R R2:Env→St→Prop}{E:VV→Env→St→Prop}{env1:Env}{s1:St}{o o2:Oper}(h:∀K':Env→St→Prop,@Kof R K'→vops P N all K' E [o] env1 s1)(h2:∀K':Env→St→Prop,@Kof R2 K'→vops P N all K' E [o2] env1 s1)
  (ho:all[i]?=some o:=by(simp only[List.getElem?_cons_zero,List.getElem?_cons_succ]<;>rfl)) (ho2:all[j]?=some o2:=by(simp only[List.getElem?_cons_zero,List.getElem?_cons_succ]<;>rfl)) :
  vEa P N all i R E env1 s1∧vEa P N all j R2 E env1 s1:=⟨⟨o,ho,h⟩,⟨o2,ho2,h2⟩⟩
end
def GhW (w:World):Gh:=⟨fun b i=>w.cell? ⟨b,i,none⟩,fun _=>none⟩
def S0:St:=fun _=>.free
theorem Sim.start (w:World)(hg:GLB w):Sim w (GhW w) w S0:=⟨Below.refl _ _,fun _ _ _ h=>h,fun _ _ h=>(by cases h),fun _=>trivial,hg,fun _ _=>none,fun _ _ _ _ _ h=>(by cases h),fun _ _ _ h=>(by cases h),fun _ _ _ _ _ _ _ h=>(by cases h)⟩
theorem SRet.calls {P:Program}{f:FuncId}{xs:List VV}{vs:Array Value}{w:World}(h:SRet P f xs S0 (.bool true) S0)(hr:RL (GhW w) vs xs)(hg:GLB w:=by exact trivial) :
  Calls P f vs w fun e w'=>e=.returned (.bool true)∧Below w.heap.size w w':=by
 refine Calls.mono (h w (GhW w) w vs (Sim.start w hg) hr) fun e w' hq=>?_
 obtain⟨G',s',x,hG,hS,hE,hx,_⟩:=hq
 subst hx
 refine⟨?_,hS.below⟩
 cases e with
 |returned v=>
  have hv:R G' v (.bool true):=hE
  cases hv
  rfl
 |_=>exact hE.elim
theorem RL.one {G:Gh}{v:Value}{x:VV}(h:R G v x):RL G #[v] [x]:=
 ⟨rfl,fun j v' y hv hy=>by
  cases j with
  |zero=>simp at hv hy;subst hv;subst hy;exact h
  |succ j=>simp at hy⟩
theorem RL.two {G:Gh}{v u:Value}{x y:VV}(h:R G v x)(k:R G u y):RL G #[v,u] [x,y]:=
 ⟨rfl,fun j v' y' hv hy=>by
  match j with
  |0=>simp at hv hy;subst hv;subst hy;exact h
  |1=>simp at hv hy;subst hv;subst hy;exact k
  |j+2=>simp at hy⟩
end Go.Proofs.YtadbggfpnhkmbaaGreat
