/- Walks of functions that the claim reaches, and plain facts of them. Conditions: those in the statements. -/
import Derived.Test.YtgdbgfjhenobdaaGreatDoorJmGo
import Derived.Test.YtgdbgfjhenobdaaGreatDoorJmShelf
import Derived.Deep.Slices
import Derived.SizedLaws
import Derived.DataShut
set_option linter.unusedSimpArgs false
set_option linter.unusedVariables false
namespace Go.Proofs.YtgdbgfjhenobdaaGreatDoor
open Go.RowKit
section
variable {P : Program} {N : Nat} {all : List Oper}
def histI (P:Program)(all:List Oper):List (List Nat)→List (Env×St)→Array Bool→St→Prop
 |hs::gr,(e,s)::hr,l,s'=>histI P all gr hr l s'∧heldF P all e s hs l s'
 |_,_,_,_=>True
def heldH (P:Program)(all:List Oper):List (Env×St)→List (List Nat)→St→Prop
 |(e,s)::hr,is::sr,s'=>heldH P all hr sr s'∧heldL P all e s (pickL all is) s'
 |_,_,_=>True
def vEa (P:Program)(N:Nat)(all:List Oper)(i:Nat)(R:Env→St→Prop)(E:VV→Env→St→Prop)(env1:Env)(s1:St):Prop:=
 ∃o,all[i]?=some o∧∀K':Env→St→Prop,@Kof R K'→vops P N all K' E [o] env1 s1
abbrev Plan:=List (List Nat×Nat×List (List Nat))
def vPl (P:Program)(N:Nat)(all:List Oper)(K:Env→St→Prop)(E:VV→Env→St→Prop)(fin:List Nat):Plan→List (Env×St)→Env→St→Prop
 |[],_,env,s=>∀Kh:Env→St→Prop,@Kof K Kh→vops P N all Kh F0 (pickL all fin) env s
 |(hs,i,sub)::r,hist,env,s=>∀Kh:Env→St→Prop,
   @Kof (fun env1 s1=>vEa P N all i (fun e s'=>heldH P all ((env1,s1)::hist) sub s'∧vPl P N all K E fin r ((env1,s1)::hist) e s') E env1 s1) Kh →
   vops P N all Kh F0 (pickL all hs) env s
def markAll:List Nat→Array Bool→Array Bool
 |[],l=>l
 |i::r,l=>markAll r (l.setIfInBounds i true)
def planB (all:List Oper)(keep:List Nat)(fin:List Nat):Plan→List (List Nat)→Array Bool→Nat→Bool
 |[],_,listed,f=>decide (f=fin.length) && closedB all listed && headB all keep fin listed (markAll fin listed) && decide (Region.ready .any all.toArray (markAll fin listed)=[])
 |(hs,i,sub)::r,gr,listed,f=>decide (hs.length+1≤f) && closedB all listed && headB all keep hs listed (markAll hs listed) && decide (Region.ready .any all.toArray (markAll hs listed)=[i]) &&
   decide ((hs::gr).map (fun g=>g.filter fun k=>freeOf all k ((markAll hs listed).setIfInBounds i true))=sub) && (all[i]?).isSome &&
   planB all keep fin r (hs::gr) ((markAll hs listed).setIfInBounds i true) (f - hs.length - 1)
theorem histI_HM:∀(gr:List (List Nat)) (hist:List (Env×St)),HM all (histI P all gr hist)
 |[],_=>fun k hk l s=>by unfold histI;exact Iff.rfl
 |hs::gr,[]=>fun k hk l s=>by unfold histI;exact Iff.rfl
 |hs::gr,(e,s0)::hr=>fun k hk l s=>by
  unfold histI
  rw[histI_HM gr hr k hk l s,heldF_set hk]
theorem histI_of {l:Array Bool}{s':St}:∀{gr:List (List Nat)} {hist:List (Env×St)},heldH P all hist (gr.map fun g=>g.filter fun k=>freeOf all k l) s'→histI P all gr hist l s'
 |[],_,_=>by unfold histI;trivial
 |hs::gr,[],_=>by unfold histI;trivial
 |hs::gr,(e,s0)::hr,h=>⟨histI_of h.1,h.2⟩
theorem plan_go {K:Env→St→Prop}{E:VV→Env→St→Prop}{keep:List Nat}(hE:EOk N keep E){fin:List Nat} :
  ∀(pl:Plan) (gr:List (List Nat)) (hist:List (Env×St)) (listed:Array Bool) (env:Env) (s:St) (f:Nat),planB all keep fin pl gr listed f=true→histI P all gr hist listed s →
   vPl P N all K E fin pl hist env s→vAnyI P N all (histI P all gr hist) K E f listed env s
 |[],gr,hist,listed,env,s,f,hB,hI,h=>by
  simp only[planB,Bool.and_eq_true,decide_eq_true_eq]at hB
  obtain⟨⟨⟨hf,hcl⟩,hh⟩,hr⟩:=hB
  refine G_head hE fin (f:=0) (markAll fin listed) rfl hh hcl (by omega) hI (histI_HM gr hist) fun Kh hKh=>?_
  exact h Kh fun envf s' hk=>hKh envf s' fun _ _=>⟨hr,hk⟩
 |(hs,i,sub)::r,gr,hist,listed,env,s,f,hB,hI,h=>by
  simp only[planB,Bool.and_eq_true,decide_eq_true_eq]at hB
  obtain⟨⟨⟨⟨⟨⟨hf,hcl⟩,hh⟩,hr⟩,hsub⟩,hso⟩,hB⟩:=hB
  refine G_head hE hs (f:=f - hs.length - 1+1) (markAll hs listed) rfl hh hcl (by omega) hI (histI_HM gr hist) fun Kh hKh=>?_
  refine h Kh fun env1 s1 hk=>hKh env1 s1 fun hI1 hM1=>?_
  obtain⟨o,ho,hk⟩:=hk
  refine G_each [(i,(markAll hs listed).setIfInBounds i true)] (by simpa using hr) (by simp) ⟨⟨rfl,fun K' hK'=>⟨o,ho,hk K' fun e s' hq=>hK' e s' ?_⟩⟩,trivial⟩
  obtain⟨hq1,hq2⟩:=hq
  have hI2:histI P all (hs::gr) ((env1,s1)::hist) ((markAll hs listed).setIfInBounds i true) s':=histI_of (by rw[hsub];exact hq1)
  exact⟨hI2,fun _=>plan_go hE r (hs::gr) ((env1,s1)::hist) _ e s' _ hB hI2 hq2⟩
theorem G_plan {D:List Deferred}{k:List Itm}{Q:Pst}{env:Env}{s:St}(id:Nat){ops:List Oper}{keep:List Nat}(pl:Plan)(fin:List Nat)(hQ:EOk N keep (fun x=>Q (.panic x)))
  (h:∀(K:Env→St→Prop) (E:VV→Env→St→Prop),@Kof (Kp P N D k Q .norm) K→@Eof (fun x=>Q (.panic x)) E→vPl P N ops K E fin pl [] env s)
  (hm:P.follows .mixedOrders=true:=by decide +kernel) (hB:planB ops keep fin pl [] (Array.replicate ops.length false) ops.length=true:=by decide +kernel) :
  Kp P N D (.code (.region id ops.toArray true)::k) Q .norm env s:=
 G_draw hm hQ fun K E hK hE hEe hI hM=>vAnyI_weak (fun _ _ _=>trivial) _ _ _ _ (plan_go hEe pl [] [] _ env s _ hB trivial (h K E hK hE))
theorem P_heads {K:Env→St→Prop}{E:VV→Env→St→Prop}{fin hs:List Nat}{i:Nat}{sub:List (List Nat)}{r:Plan}{hist:List (Env×St)}{env:Env}{s:St}{ops:List Oper}
  (h:∀Kh:Env→St→Prop,
   @Kof (fun env1 s1=>vEa P N all i (fun e s'=>heldH P all ((env1,s1)::hist) sub s'∧vPl P N all K E fin r ((env1,s1)::hist) e s') E env1 s1) Kh →
   vops P N all Kh F0 ops env s) (hp:pickL all hs=ops:=by(simp only[pick0,pick1,pick2,List.getElem?_cons_zero,List.getElem?_cons_succ]<;>rfl)):vPl P N all K E fin ((hs,i,sub)::r) hist env s:=by
 subst hp;exact h
theorem P_fin {K:Env→St→Prop}{E:VV→Env→St→Prop}{fin:List Nat}{hist:List (Env×St)}{env:Env}{s:St}{ops:List Oper}
  (h:∀Kh:Env→St→Prop,@Kof K Kh→vops P N all Kh F0 ops env s) (hp:pickL all fin=ops:=by(simp only[pick0,pick1,pick2,List.getElem?_cons_zero,List.getElem?_cons_succ]<;>rfl)):vPl P N all K E fin [] hist env s:=by
 subst hp;exact h
theorem P_each {i:Nat}{R:Env→St→Prop}{E:VV→Env→St→Prop}{env1:Env}{s1:St}{o:Oper}(h:∀K':Env→St→Prop,@Kof R K'→vops P N all K' E [o] env1 s1)(ho:all[i]?=some o:=by(simp only[List.getElem?_cons_zero,List.getElem?_cons_succ]<;>rfl)) :
  vEa P N all i R E env1 s1:=⟨o,ho,h⟩
theorem heldH_cons {e:Env}{s s':St}{hr:List (Env×St)}{is:List Nat}{sr:List (List Nat)}:heldH P all ((e,s)::hr) (is::sr) s'=(heldH P all hr sr s'∧heldL P all e s (pickL all is) s'):=rfl
theorem heldH_nil {s':St}:heldH P all [] [] s'=True:=rfl
theorem heldL_nil {e:Env}{s s':St}:heldL P all e s [] s'=True:=rfl
attribute [go_sem] heldH_cons heldH_nil heldL_nil List.length_map
theorem P_next {hist:List (Env×St)}{sub:List (List Nat)}{s':St}{q:Prop}(h:q)
  (hh:heldH P all hist sub s':=by first
   |(simp only[heldH_cons,heldH_nil,heldL_nil,pick0,and_true];done)
   |(simp(disch:=first|assumption|omega) only[go_sem,seval,pick0,pick1,pick2,heldL,heldG,heldO,heldB, *];done)):heldH P all hist sub s'∧q:=⟨hh,h⟩
end
theorem eqE_i {a b:Int}:(a=b)=((a=b)=True):=propext ⟨eq_true,of_eq_true⟩
theorem eqE_n {a b:Nat}:(a=b)=((a=b)=True):=propext ⟨eq_true,of_eq_true⟩
theorem eqE_u {a b:UInt8}:(a=b)=((a=b)=True):=propext ⟨eq_true,of_eq_true⟩
theorem eqE_s {a b:List UInt8}:(a=b)=((a=b)=True):=propext ⟨eq_true,of_eq_true⟩
section
variable {P : Program} {N : Nat} {D : List Deferred} {k : List Itm} {Q : Pst} {env : Env} {s : St} {all rest : List Oper} {K : Env → St → Prop} {E : VV → Env → St → Prop}
theorem W_cond {c:Operand}{x y:Code}{b:Bool}{p q:Prop}(h1:p→Kp P N D (.code x::k) Q .norm env s)(h2:q→Kp P N D (.code y::k) Q .norm env s)
  (hb:rd env c=.bool b:=by((try simp(disch:=first|assumption|omega) only[go_sem,seval, *])<;>rfl))
  (hp:(b=true)=p:=by((try simp only[decide_eq_true_eq,decide_eq_false_iff_not,Bool.not_eq_true',Bool.not_eq_false',Bool.not_eq_true,Bool.not_eq_false,Int.ofNat_lt,Int.ofNat_le,Int.natCast_inj,bne_iff_ne,ne_eq,beq_iff_eq,reduceCtorEq,Bool.true_eq_false,Bool.false_eq_true,decide_not,not_false_eq_true,not_true_eq_false]);first|exact eqE_i|exact eqE_n|exact eqE_u|exact eqE_s|rfl))
  (hq:(b=false)=q:=by((try simp only[decide_eq_true_eq,decide_eq_false_iff_not,Bool.not_eq_true',Bool.not_eq_false',Bool.not_eq_true,Bool.not_eq_false,Int.ofNat_lt,Int.ofNat_le,Int.natCast_inj,bne_iff_ne,ne_eq,beq_iff_eq,reduceCtorEq,Bool.true_eq_false,Bool.false_eq_true,decide_not,not_false_eq_true,not_true_eq_false]);first|exact eqE_i|exact eqE_n|exact eqE_u|exact eqE_s|rfl)) :
  Kp P N D (.code (.cond c x y)::k) Q .norm env s:=G_cond hb (fun h=>h1 (hp ▸ h)) (fun h=>h2 (hq ▸ h))
theorem W_gd {b want:Bool}{d:Option Tmp}{op:Op}{ty:TypeId}{pl:String}{af:Array Edge}{p q:Prop}
  (h1:p→vgd P N all K E (.bool true) want d op ty pl af rest env s) (h2:q→vgd P N all K E (.bool false) want d op ty pl af rest env s)
  (hp:(b=true)=p:=by((try simp only[decide_eq_true_eq,decide_eq_false_iff_not,Bool.not_eq_true',Bool.not_eq_false',Bool.not_eq_true,Bool.not_eq_false,Int.ofNat_lt,Int.ofNat_le,Int.natCast_inj,bne_iff_ne,ne_eq,beq_iff_eq,reduceCtorEq,Bool.true_eq_false,Bool.false_eq_true,decide_not,not_false_eq_true,not_true_eq_false]);first|exact eqE_i|exact eqE_n|exact eqE_u|exact eqE_s|rfl))
  (hq:(b=false)=q:=by((try simp only[decide_eq_true_eq,decide_eq_false_iff_not,Bool.not_eq_true',Bool.not_eq_false',Bool.not_eq_true,Bool.not_eq_false,Int.ofNat_lt,Int.ofNat_le,Int.natCast_inj,bne_iff_ne,ne_eq,beq_iff_eq,reduceCtorEq,Bool.true_eq_false,Bool.false_eq_true,decide_not,not_false_eq_true,not_true_eq_false]);first|exact eqE_i|exact eqE_n|exact eqE_u|exact eqE_s|rfl)) :
  vgd P N all K E (.bool b) want d op ty pl af rest env s:=G_gd (fun h=>h1 (hp ▸ h)) (fun h=>h2 (hq ▸ h))
theorem W_if {d:Option Tmp}{c:Prop}[Decidable c]{x:Option VV}(h2:vput P N all K E d rest env s x)
  (h:c:=by first|assumption|omega|(simp(disch:=first|assumption|omega) only[go_sem,seval, *];done)):vput P N all K E d rest env s (if c then x else none):=G_if h h2
theorem W_ifS {d:Option Tmp}{c:Prop}[Decidable c]{x:Option St}(h2:vputS P N all K E d rest env x)
  (h:c:=by first|assumption|omega|(simp(disch:=first|assumption|omega) only[go_sem,seval, *];done)):vputS P N all K E d rest env (if c then x else none):=G_ifS h h2
theorem W_and {a b:Prop}(h:b)(ha:a:=by first|assumption|omega|trivial|(simp(disch:=first|assumption|omega) only[go_sem,seval, *];done)):a∧b:=⟨ha,h⟩
theorem W_fresh {p' q:Nat→Prop}(h:∀b,p' b→q b)(hp:∀b,(s b=.free)=p' b:=by(intro b;(try simp(disch:=first|assumption|omega) only[go_sem,seval, *]);(try simp only[set_free_o,set_free_v,set_free_m,ite_free_o,ite_free_v,ite_free_m,set_free_p,ite_free_p,set_free_r,ite_free_r]);rfl)):∀b,New s b→q b:=
 fun b hb=>h b (hp b ▸ hb.1)
theorem W_app {k:VV→St→Prop}{e:TypeId}{q:QI}{xs ys:List (List VV)}{o:Own}{p':Own→Prop}(h:∀o',p' o'→k (.lst (xs++ys) o') ((s.disown o).own o' e q.sz (xs.length+ys.length)))
  (ho:Owned s o e q.sz xs.length:=by(simp(disch:=first|assumption|omega) only[go_sem,seval, *]))
  (hb:(xs.length+ys.length) * q.bt≤140737488355328:=by((try simp only[go_sem, *]);omega))
  (hm:xs.length+ys.length≤9223372036854775807:=by((try simp only[go_sem, *]);omega))
  (hy:∀y,y∈ys→y.length=q.sz:=by first|assumption|(intro y hy;simp only[List.mem_singleton]at hy;subst hy;first|rfl|(simp only[go_sem];done)|(simp;done)))
  (hz:q.zok=true:=by rfl)
  (hp:∀o',OwnOk (s.disown o) o' (xs.length+ys.length)=p' o':=by(intro o';(try simp(disch:=assumption) only[disown_set,disown_own,ownok_o,ownok_m,List.length_map,List.length_cons,List.length_nil,Nat.zero_add]);rfl)) :
  vappend k e q xs ys o s:=append_gen _ _ rfl rfl ho hb hm hy hz fun o' h'=>h o' (hp o' ▸ h')
end
section
variable {P : Program} {N : Nat} {all : List Oper}
theorem set_comm' {s:St}{x y:Nat}{c d:Cell}(h:x≠y):(s.set x c).set y d=(s.set y d).set x c:=by
 funext z
 simp only[St.set]
 by_cases h1:z=x
 ·subst h1;simp[h]
 ·simp[h1]
end
theorem Sim.world {w0 w w':World}{G:Gh}{s:St}(h:Sim w0 G w s)(hb:Below w.heap.size w w'):Sim w0 G w' s:=by
 have hs:∀b,s b≠.free→b<w.heap.size:=fun b e=>h.lt e
 refine⟨h.below.trans (hb.mono h.size_le),fun b i v hk=>?_,fun b c hc=>Nat.lt_of_lt_of_le (h.cap b c hc) hb.size,fun b=>?_,h.gl,h.rows.keep' (Gh.le.refl G) hb.size (fun g hl hg=>⟨hg,hb.block g hl,fun _=>rfl⟩) (fun x T xs rs hx=>⟨hx,hb.block x (h.lt (by rw[hx];simp))⟩)⟩
 ·exact(hb.cell (p:=⟨b,i,none⟩) (h.K_lt hk)).trans (h.K b i v hk)
 ·rcases Nat.lt_or_ge b w.heap.size with e|e
  ·exact(h.ok b).keep (hb.block b e) (Gh.le.refl G) (fun _=>rfl)
  ·have hf:s b=.free:=by
    cases hc:s b with
    |free=>rfl
    |_=>exact absurd (hs b (by rw[hc];simp)) (by omega)
   rw[hf]
   trivial
def strs (l:List (List UInt8)):List (List VV):=l.map fun x=>[.str x]
theorem RL_two {G:Gh}{vs:Array Value}{x y:VV}(h:RL G vs [x,y]):∃a b,vs=#[a,b]∧R G a x∧R G b y:=by
 obtain⟨hs,hr⟩:=h
 obtain⟨l⟩:=vs
 match l,hs,hr with
 |[a,b],_,hr=>exact⟨a,b,rfl,hr 0 a x rfl rfl,hr 1 b y rfl rfl⟩
end Go.Proofs.YtgdbgfjhenobdaaGreatDoor
set_option maxRecDepth 100000
namespace Go.Proofs.YtgdbgfjhenobdaaGreatDoor
open Go.RowKit
section
variable {P : Program} {N : Nat} {D : List Deferred} {c : Code} {k : List Itm} {Q : Pst} {env : Env} {s : St}
def intsL (l:List Int):List (List VV):=l.map fun n=>[VV.int .i64 n]
theorem intsL_len {l:List Int}:(intsL l).length=l.length:=by simp[intsL]
theorem intsL_at {l:List Int}{i:Nat}{n:Int}(h:l[i]?=some n):(intsL l)[i]?=some [.int .i64 n]:=by simp[intsL,h]
end
noncomputable def eqB {α:Type}(a b:α):Bool:=@decide (a=b) (Classical.propDecidable _)
theorem eqB_t {α:Type}{a b:α}(h:a=b):eqB a b=true:=@decide_eq_true _ (Classical.propDecidable _) h
theorem eqB_f {α:Type}{a b:α}(h:¬ a=b):eqB a b=false:=@decide_eq_false _ (Classical.propDecidable _) h
theorem eqB_i {α:Type}{a b:α}:eqB a b=true↔a=b:=⟨fun h=>@of_decide_eq_true _ (Classical.propDecidable _) h,eqB_t⟩
theorem take_eq {α:Type}{a b:List α}(hl:a.length=b.length)(h:a.take a.length=b.take a.length):a=b:=by
 rw[List.take_length,hl,List.take_length]at h
 exact h
theorem take_eq_succ {α:Type}{a b:List α}{i:Nat}{x y:α}(ha:a[i]?=some x)(hb:b[i]?=some y)(h:a.take i=b.take i)(he:x=y):a.take (i+1)=b.take (i+1):=by
 rw[List.take_add_one,List.take_add_one,ha,hb,h,he]
theorem ne_at {α:Type}{a b:List α}{i:Nat}{x y:α}(ha:a[i]?=some x)(hb:b[i]?=some y)(he:¬ x=y):¬ a=b:=by
 rintro rfl
 rw[ha]at hb
 injection hb with hb
 exact he hb
theorem eqB_self {α:Type}{a:α}:eqB a a=true:=eqB_t rfl
theorem beqT {b:Bool}:(b == true)=b:=by cases b<;>rfl
theorem beqF {b:Bool}:(b == false)=!b:=by cases b<;>rfl
theorem Repeat_S (x:List UInt8)(n:Nat)(hn:n≤9223372036854775807)(hl:x.length * n≤140737488355328)(s:St) :
  SRet Tryz.prog 176 [.str x,.int .i64 (n:Int)] s (.str (Lib.repeatL x n)) s:=by
 intro w0 G w vs hS hA
 obtain⟨a,b,rfl,ha,hb⟩:=RL_two hA
 cases ha with
 |str a=>
  cases hb with
  |int k m=>
   refine Calls.mono (Tryz.strings_Repeat ⟨a⟩ n w hn (by simpa [ByteArray.size]using hl)) fun e w' h=>?_
   obtain⟨rfl,hw⟩:=h
   exact⟨G,s,.ret (.str (Lib.repeatL a.toList n)),Gh.le.refl G,hS.world hw,by
    have:=R.str (G:=G) (Lib.repeatL a.toList n).toArray
    simpa [RE]using this,rfl,rfl⟩
theorem Join_S (xs:List (List UInt8))(o:Own)(sep:List UInt8)(hl:(Lib.join xs sep).length≤140737488355328)(hN:xs.length≤140737488355328)(s:St) :
  SRet Tryz.prog 177 [.lst (strs xs) o,.str sep] s (.str (Lib.join xs sep)) s:=by
 intro w0 G w vs hS hA
 obtain⟨a,b,rfl,ha,hb⟩:=RL_two hA
 cases hb with
 |str sepa=>
  generalize hys:strs xs=ys at ha
  cases ha with
  |emp ad cap o ho=>
   have hx:xs=[]:=by cases xs<;>simp_all [strs]
   subst hx
   refine Calls.mono (Tryz.strings_Join_none ad cap ⟨sepa⟩ w) fun e w' h=>?_
   obtain⟨rfl,rfl⟩:=h
   exact⟨G,s,.ret (.str []),Gh.le.refl G,hS,by
    have:=R.str (G:=G) #[]
    simpa [RE]using this,by simp[Lib.join_nil],rfl⟩
  |lst bk off len cap sz xs' o f hlen hc hz h1 hK hR ho=>
   subst hys
   have hlen':len=xs.length:=by rw[← hlen];simp[strs]
   subst hlen'
   have hcell:∀(j:Nat) (x:List UInt8),xs[j]?=some x→w.cell? ⟨bk,off+j,none⟩=some (.string ⟨x.toArray⟩):=by
    intro j x hj
    have hlt:j<xs.length:=(List.getElem?_eq_some_iff.1 hj).1
    have hx1:(strs xs)[j]?=some [.str x]:=by simp[strs,hj]
    have hsz:sz=1:=by
     have:=hz [.str x] (List.mem_of_getElem? hx1)
     simpa using this.symm
    subst hsz
    have h2:=hS.K _ _ _ (hK j 0 hlt (by omega))
    have h3:=hR j 0 [.str x] (.str x) hx1 rfl
    generalize f j 0=v at h2 h3
    cases h3 with
    |str q=>simpa using h2
   rcases Nat.eq_zero_or_pos xs.length with h0|h0
   ·have hx:xs=[]:=List.length_eq_zero_iff.1 h0
    subst hx
    refine Calls.mono (Tryz.strings_Join_none (some ⟨bk,off,none⟩) cap ⟨sepa⟩ w) fun e w' h=>?_
    obtain⟨rfl,rfl⟩:=h
    exact⟨G,s,.ret (.str []),Gh.le.refl G,hS,by
     have:=R.str (G:=G) #[]
     simpa [RE]using this,by simp[Lib.join_nil],rfl⟩
   ·obtain⟨x0,hx0⟩:∃x0,xs[0]?=some x0:=⟨xs[0],by simp[h0]⟩
    have hbk:bk<w.heap.size:=World.block_lt_of_cell? w ⟨bk,off+0,none⟩ (hcell 0 x0 hx0)
    have hmap:(xs.map fun l=>(⟨l.toArray⟩:ByteArray)).map (fun x=>x.data.toList)=xs:=by
     rw[List.map_map]
     conv=>rhs;rw[← List.map_id xs]
     exact List.map_congr_left fun _ _=>by simp
    have key:=Tryz.strings_Join bk off cap (xs.map fun l=>(⟨l.toArray⟩:ByteArray)) ⟨sepa⟩ w (by
     intro j x hj
     rw[List.getElem?_map]at hj
     obtain⟨y,hy,rfl⟩:=Option.map_eq_some_iff.1 hj
     exact hcell j y hy) hbk (by simpa using hN) (by simpa using hc) (by rw[hmap];exact hl)
    rw[hmap]at key
    simp only[List.length_map]at key
    refine Calls.mono key fun e w' h=>?_
    obtain⟨rfl,hw⟩:=h
    exact⟨G,s,.ret (.str (Lib.join xs sepa.toList)),Gh.le.refl G,hS.world hw,by
     have:=R.str (G:=G) (Lib.join xs sepa.toList).toArray
     simpa [RE]using this,rfl,rfl⟩
def StopQ (p:Prop):Prop:=p
theorem Kp_atQ {P:Program}{N:Nat}{D:List Deferred}{k:List Itm}{Q:Pst}{env:Env}{s:St}(r:Nat){os:Array Oper}{fl:Bool}(h:StopQ (Kp P N D (.code (.region r os fl)::k) Q .norm env s)):Kp P N D (.code (.region r os fl)::k) Q .norm env s:=h
def GhW (w:World):Gh:=⟨fun b i=>w.cell? ⟨b,i,none⟩,fun _=>none⟩
def S0:St:=fun _=>.free
theorem Sim.start (w:World)(hg:GLB w):Sim w (GhW w) w S0:=⟨Below.refl _ _,fun _ _ _ h=>h,fun _ _ h=>(by cases h),fun _=>trivial,hg,fun _ _=>none,fun _ _ _ _ _ h=>(by cases h),fun _ _ _ h=>(by cases h),fun _ _ _ _ _ _ _ h=>(by cases h)⟩
theorem SRet.calls {P:Program}{f:FuncId}{xs:List VV}{vs:Array Value}{w:World}(h:SRet P f xs S0 (.bool true) S0)(hr:RL (GhW w) vs xs)(hg:GLB w:=by exact trivial) :
  Calls P f vs w fun e w'=>e=.returned (.bool true)∧Below w.heap.size w w':=by
 refine Calls.mono (h w (GhW w) w vs (Sim.start w hg) hr) fun e w' hq=>?_
 obtain⟨G',s',x,hG,hS,hE,hx,_⟩:=hq
 subst hx
 refine⟨?_,hS.below⟩
 cases e with
 |returned v=>
  have hv:R G' v (.bool true):=hE
  cases hv
  rfl
 |_=>exact hE.elim
theorem RL.one {G:Gh}{v:Value}{x:VV}(h:R G v x):RL G #[v] [x]:=
 ⟨rfl,fun j v' y hv hy=>by
  cases j with
  |zero=>simp at hv hy;subst hv;subst hy;exact h
  |succ j=>simp at hy⟩
section
variable {H : Type} {enc : TypeId × Value → H} {P : Program} {w : World}
def CellsR (G:Gh)(cs:List Value)(xs:List VV):Prop:=cs.length=xs.length∧(∀y,y∈xs→y.one=true)∧∀(j:Nat) (v:Value) (y:VV),cs[j]?=some v→xs[j]?=some y→R G v y
theorem CellsR.one {G:Gh}{v:Value}{y:VV}(h:R G v y)(h1:y.one=true):CellsR G [v] [y]:=
 ⟨rfl,fun z hz=>by rw[List.mem_singleton]at hz;subst hz;exact h1,fun j v' y' hv hy=>by
  cases j with
  |zero=>simp at hv hy;subst hv;subst hy;exact h
  |succ j=>simp at hy⟩
def Wt (P:Program)(t:TypeId)(d:DataW H):Prop:=∀n,n∈d.weights P t→n≤reachBytes
theorem Wt.slice {t e:TypeId}{elems spare:List (DataW H)}(ht:P.underlying t=some (.slice e))(h:Wt P t (.slice elems spare)):elems.length * P.bytesOf e≤reachBytes∧∀d,d∈elems→Wt P e d:=by
 have key:∀(l:List (DataW H)) (d:DataW H),d∈l→∀n,n∈d.weights P e→n∈DataW.weightsAll P e l:=by
  intro l
  induction l with
  |nil=>intro d hd;cases hd
  |cons x l ih=>
   intro d hd n hn
   simp only[DataW.weightsAll,List.mem_append]
   rcases List.mem_cons.1 hd with rfl|hd
   ·exact .inl hn
   ·exact .inr (ih d hd n hn)
 unfold Wt at h
 simp only[DataW.weights,ht]at h
 refine⟨?_,fun d hd n hn=>h n (List.mem_cons_of_mem _ (List.mem_append_left _ (key elems d hd n hn)))⟩
 have:=h _ (List.mem_cons_self ..)
 exact Nat.le_trans (Nat.mul_le_mul_right _ (by omega)) this
theorem Wt.str {t:TypeId}{l:List UInt8}(h:Wt P t (.lit (.string l):DataW H)):l.length≤reachBytes:=h _ (by simp[DataW.weights])
theorem rd_str {t:TypeId}{fuel:Nat}{cs:List Value}{x:DataW H×List MemPlace}(G:Gh)(ht:P.underlying t=some .string)(h:DataW.trod enc P w 0 (fun _=>true) true fuel t cs=some x)(hw:Wt P t x.1) :
  ∃l:List UInt8,CellsR G cs [.str l]∧l.length≤reachBytes:=by
 obtain⟨s,rfl,rfl,_⟩:=DataW.trod_string ht h
 obtain⟨a⟩:=s
 exact⟨a.toList,CellsR.one (.str a) rfl,hw.str⟩
theorem rd_i64 {t:TypeId}{fuel:Nat}{cs:List Value}{x:DataW H×List MemPlace}(G:Gh)(ht:P.underlying t=some (.int .i64))(h:DataW.trod enc P w 0 (fun _=>true) true fuel t cs=some x):∃n:Int,CellsR G cs [.int .i64 n]∧-9223372036854775808≤n∧n≤9223372036854775807:=by
 obtain⟨n,rfl,_,hwf⟩:=DataW.trod_int ht h
 rw[Lit.wf_int_iff]at hwf
 exact⟨n,CellsR.one (.int .i64 n) rfl,hwf⟩
theorem rd_slice {t e:TypeId}{sz:Nat}{fuel:Nat}{cs:List Value}{x:DataW H×List MemPlace}{Q:List VV→Prop}(ht:P.underlying t=some (.slice e))(hsz:P.cellsOf e=sz)(hpos:0<sz)(hby:1≤P.bytesOf e)
  (h:DataW.trod enc P w 0 (fun _=>true) true fuel t cs=some x) (hw:Wt P t x.1)
  (hel:∀(n:Nat) (cs':List Value) (y:DataW H×List MemPlace),n<fuel→DataW.trod enc P w 0 (fun _=>true) true n e cs'=some y→Wt P e y.1→∃xs,CellsR (GhW w) cs' xs∧xs.length=sz∧Q xs) :
  ∃xss:List (List VV),CellsR (GhW w) cs [.lst xss .no]∧(∀z,z∈xss→Q z)∧xss.length≤reachBytes:=by
 rcases DataW.trod_slice ht h with ⟨rfl,_⟩|⟨a,len,cap,elems,rest,n,hn,rfl,rfl,_,hl,hm,hlen,hel',_,_⟩
 ·exact⟨[],CellsR.one (.emp none 0 .no (.inl rfl)) rfl,(fun z hz=>by cases hz),by simp⟩
 ·obtain⟨hw1,hw2⟩:=hw.slice ht
  have hle:len≤reachBytes:=by
   rw[List.length_map,hlen]at hw1
   exact Nat.le_trans (Nat.le_mul_of_pos_right _ (by omega)) hw1
  have each:∀i,i<len→∃q:List Value×List VV,w.cells? 0 (a.add (i * sz)) sz=some q.1∧CellsR (GhW w) q.1 q.2∧q.2.length=sz∧Q q.2:=fun i hi=>by
   have h1:=hel' i hi
   rw[hsz,List.getElem?_eq_getElem (by omega)]at h1
   obtain⟨cs',hc,hy⟩:=Option.bind_eq_some_iff.1 h1
   obtain⟨xs,hx1,hx2,hx3⟩:=hel n cs' _ (by omega) hy (hw2 _ (List.mem_map.2 ⟨_,List.getElem_mem _,rfl⟩))
   exact⟨(cs',xs),hc,hx1,hx2,hx3⟩
  obtain⟨F,hF⟩:=Go.Deep.choose_lt each
  rcases Nat.eq_zero_or_pos len with h0|h0
  ·subst h0
   exact⟨[],CellsR.one (.emp _ cap .no (.inl rfl)) rfl,(fun z hz=>by cases hz),by simp⟩
  ·have hspot:a.spot=none:=by
    obtain⟨h1,_⟩:=hF 0 h0
    have h2:=(World.cells?_some h1).2.2 0 (by omega)
    simp only[Nat.zero_mul,Addr.add,if_true]at h2
    have h3:((F 0).1)[0]?=some ((F 0).1)[0]!:=by
     have:0<(F 0).1.length:=by rw[(World.cells?_some h1).2.1];exact hpos
     rw[List.getElem?_eq_getElem this];simp[this]
    rw[h3]at h2
    unfold World.cell? at h2
    cases hs:a.spot with
    |none=>rfl
    |some s=>rw[hs]at h2;split at h2<;>simp at h2
   obtain⟨b,off,spot⟩:=a
   simp only at hspot
   subst hspot
   have hadd:∀k,(Addr.mk b off none).add k=⟨b,off+k,none⟩:=fun k=>by
    unfold Addr.add
    split
    ·rename_i hk;subst hk;rfl
    ·rfl
   have hcell:∀i j,i<len→j<sz→w.cell? ⟨b,off+(i * sz+j),none⟩=some (((F i).1)[j]!):=fun i j hi hj=>by
    obtain⟨h1,_⟩:=hF i hi
    have h2:=(World.cells?_some h1).2.2 j hj
    have hlj:j<(F i).1.length:=by rw[(World.cells?_some h1).2.1];exact hj
    rw[hadd]at h2
    have h4:(Addr.mk b (off+i * sz) none).add j=⟨b,off+(i * sz+j),none⟩:=by
     unfold Addr.add
     split
     ·rename_i hk;subst hk;simp
     ·simp[Nat.add_assoc]
    rw[h4,List.getElem?_eq_getElem hlj]at h2
    rw[h2];simp[hlj]
   refine⟨(List.range len).map fun i=>(F i).2,CellsR.one (.lst b off len cap sz _ .no (fun i j=>((F i).1)[j]!) (by simp) hl ?_ ?_ (fun i j hi hj=>hcell i j hi hj) ?_ (.inl rfl)) rfl,?_,by simpa using hle⟩
   ·intro x hx
    obtain⟨i,hi,rfl⟩:=List.mem_map.1 hx
    exact(hF i (List.mem_range.1 hi)).2.2.1
   ·intro x hx
    obtain⟨i,hi,rfl⟩:=List.mem_map.1 hx
    exact(hF i (List.mem_range.1 hi)).2.1.2.1
   ·intro i j x y hx hy
    rw[List.getElem?_map]at hx
    obtain⟨i',hi',rfl⟩:=Option.map_eq_some_iff.1 hx
    have hlt:i<len:=by
     have:=(List.getElem?_eq_some_iff.1 hi').1
     simpa using this
    have:i'=i:=by
     rw[List.getElem?_range hlt]at hi'
     injection hi' with hi';exact hi'.symm
    subst this
    obtain⟨h1,h2,h3,_⟩:=hF i' hlt
    have hj:j<sz:=by rw[← h3];exact(List.getElem?_eq_some_iff.1 hy).1
    have hlj:j<(F i').1.length:=by rw[(World.cells?_some h1).2.1];exact hj
    exact h2.2.2 j _ y (by rw[List.getElem?_eq_getElem hlj];simp[hlj]) hy
   ·intro z hz
    obtain⟨i,hi,rfl⟩:=List.mem_map.1 hz
    exact(hF i (List.mem_range.1 hi)).2.2.2
theorem rd_fields {t:TypeId}{fs:Array Field}{fuel:Nat}{cs:List Value}{x:DataW H×List MemPlace}(ht:P.underlying t=some (.struct fs))(hk:P.cellsOf t=fs.size)(hf:∀(j:Nat) (f:Field),fs[j]?=some f→f.offset=j∧P.cellsOf f.type=1)
  (h:DataW.trod enc P w 0 (fun _=>true) true fuel t cs=some x) (hw:Wt P t x.1) :
  ∃n,n<fuel∧cs.length=fs.size∧∀(j:Nat) (f:Field),fs[j]?=some f→∃(v:Value) (y:DataW H×List MemPlace),cs[j]?=some v∧DataW.trod enc P w 0 (fun _=>true) true n f.type [v]=some y∧Wt P f.type y.1:=by
 obtain⟨xs,n,hn,rfl,hl,hlen,hel⟩:=DataW.trod_struct ht h
 refine⟨n,by omega,by rw[hl,hk],fun j f hj=>?_⟩
 have hjs:j<fs.size:=(Array.getElem?_eq_some_iff.1 hj).1
 obtain⟨h1,h2⟩:=hf j f hj
 have h3:=hel j f hj
 rw[h1,h2]at h3
 have hjc:j<cs.length:=by rw[hl,hk];exact hjs
 have hjx:j<xs.length:=by omega
 rw[List.drop_eq_getElem_cons hjc,List.take_succ_cons,List.take_zero,List.getElem?_eq_getElem hjx]at h3
 refine⟨cs[j],xs[j],List.getElem?_eq_getElem hjc,h3,fun m hm=>hw m ?_⟩
 simp only[DataW.weights,ht]
 refine DataW.weights_mem_each (j:=j) (t:=f.type) (d:=(xs[j]).1) ?_ ?_ m hm
 ·rw[List.getElem?_map,Array.getElem?_toList,hj];rfl
 ·rw[List.getElem?_map,List.getElem?_eq_getElem hjx];rfl
def fieldsOk (P:Program)(fs:Array Field):Bool:=(List.range fs.size).all fun j=>match fs[j]? with|some f=>f.offset == j && P.cellsOf f.type == 1|none=>true
theorem fieldsOk_spec {P:Program}{fs:Array Field}(h:fieldsOk P fs=true):∀(j:Nat) (f:Field),fs[j]?=some f→f.offset=j∧P.cellsOf f.type=1:=by
 intro j f hj
 have hjs:j<fs.size:=(Array.getElem?_eq_some_iff.1 hj).1
 have:=List.all_eq_true.1 h j (List.mem_range.2 hjs)
 rw[hj]at this
 simpa using this
end
theorem CellsR.get1 {G:Gh}{v:Value}{y:VV}(h:CellsR G [v] [y]):R G v y∧y.one=true:=⟨h.2.2 0 v y rfl rfl,h.2.1 y (by simp)⟩
theorem CellsR.of {G:Gh}{cs:List Value}{xs:List VV}(hl:cs.length=xs.length)(h:∀(j:Nat) (y:VV),xs[j]?=some y→∃v,cs[j]?=some v∧R G v y∧y.one=true):CellsR G cs xs:=by
 refine⟨hl,fun y hy=>?_,fun j v y hv hy=>?_⟩
 ·obtain⟨j,hj,e⟩:=List.mem_iff_getElem.1 hy
  obtain⟨_,_,_,h1⟩:=h j y (by rw[← e];exact List.getElem?_eq_getElem hj)
  exact h1
 ·obtain⟨v',h1,h2,_⟩:=h j y hy
  rw[h1]at hv;injection hv with hv;subst hv;exact h2
theorem reach_le {n:Nat}(h:n≤reachBytes):n≤140737488355328:=Nat.le_trans h (by decide)
theorem list_of {α:Type}{C:α→List VV}{Ok:α→Prop}:∀xss:List (List VV),(∀z,z∈xss→∃s:α,z=C s∧Ok s)→∃l:List α,xss=l.map C∧∀s,s∈l→Ok s
 |[],_=>⟨[],rfl,(fun s hs=>by cases hs)⟩
 |z::r,h=>by
  obtain⟨s,rfl,hs⟩:=h z (by simp)
  obtain⟨l,rfl,hl⟩:=list_of r fun y hy=>h y (by simp[hy])
  exact⟨s::l,rfl,fun u hu=>by
   rcases List.mem_cons.1 hu with rfl|hu
   ·exact hs
   ·exact hl u hu⟩
end Go.Proofs.YtgdbgfjhenobdaaGreatDoor
