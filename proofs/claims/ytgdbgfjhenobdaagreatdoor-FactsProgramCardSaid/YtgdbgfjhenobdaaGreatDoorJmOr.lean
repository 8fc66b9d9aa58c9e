/- Walks of functions that the claim reaches, and plain facts of them. Conditions: those in the statements. -/
import Derived.Test.YtgdbgfjhenobdaaGreatDoorJmBldj
import Derived.Test.YtgdbgfjhenobdaaGreatDoorJmOoGj
set_option linter.unusedSimpArgs false
set_option linter.unusedVariables false
set_option maxRecDepth 100000
namespace Go.Proofs.YtgdbgfjhenobdaaGreatDoor
open Go.RowKit
def TxOk (l:List (List UInt8)):Prop:=l.length≤140737488355328∧∀x,x∈l→x.length≤140737488355328
mutual
def StmOk:Stm→Prop
 |.mk _ d s c m ar o t=>(d.length≤140737488355328∧s.length≤140737488355328∧c.length≤140737488355328∧m.length≤140737488355328)∧TxOk ar ∧
   (o.length≤140737488355328∧StmsOk o)∧(t.length≤140737488355328∧StmsOk t)
def StmsOk:List Stm→Prop
 |[]=>True
 |x::l=>StmOk x∧StmsOk l
end
theorem StmsOk.get {l:List Stm}(h:StmsOk l):∀{i:Nat} {x:Stm},l[i]?=some x→StmOk x:=by
 induction l with
 |nil=>intro i x hx;simp at hx
 |cons y l ih=>
  intro i x hx
  cases i with
  |zero=>simp at hx;subst hx;exact h.1
  |succ i=>exact ih h.2 (by simpa using hx)
def needL (k:Int)(d s c m:List UInt8):List (List UInt8):=
 if k=1 then [d,m] else if k=2 then [d,s] else if k=3 then [d,s,m] else if k=4 then [d,s,m] else if k=5 then [s,m] else if k=6 then [c,m] else if k=7 then [s] else []
theorem needL_len (k:Int)(d s c m:List UInt8):(needL k d s c m).length≤9223372036854775000:=by
 unfold needL
 repeat(split<;>first|(simp;done)|skip)
theorem strs_C {l:List (List UInt8)}:l.map strC=strs l:=rfl
def mayB:Stm→Bool
  |.mk k d s c m ar o t=>
    if k=8 then d.isEmpty && s.isEmpty && c.isEmpty && m.isEmpty && ar.isEmpty
    else if k=9 then d.isEmpty && s.isEmpty && c.isEmpty && m.isEmpty && ar.isEmpty && t.isEmpty
    else o.isEmpty && t.isEmpty && (needL k d s c m).all isNameB &&
      (if k = 1 then s.isEmpty && c.isEmpty && ar.isEmpty
       else if k=2 then c.isEmpty && m.isEmpty && ar.isEmpty
       else if k=3 then c.isEmpty && ar.isEmpty
       else if k=4 then c.isEmpty && ar.isEmpty
       else if k=5 then c.isEmpty && (d.isEmpty || isNameB d) && namesB ar
       else if k=6 then s.isEmpty && (d.isEmpty || isNameB d) && namesB ar
       else if k=7 then d.isEmpty && c.isEmpty && m.isEmpty && ar.isEmpty
       else false)
theorem len0 {α:Type}{l:List α}:((l.length:Int)=0)=(l=[]):=by cases l<;>simp<;>omega
theorem nil0 {l:List UInt8}:(([]:List UInt8)=l)=(l=[]):=by cases l<;>simp
theorem iz0 {n:Nat}:((n:Int)=((0:Nat):Int))=((n:Int)=0):=rfl
theorem dec_nil {α:Type}{l:List α}[Decidable (l=[])]:decide (l=[])=l.isEmpty:=by cases l<;>simp
set_option maxHeartbeats 4000000 in
theorem may_S (x:Stm)(hx:StmOk x)(s:St):SRet Tryz.prog 185 [.agg (stC x)] s (.bool (mayB x)) s:=by
 obtain⟨k,d,sr,c,m,ar,o,t⟩:=x
 simp only[StmOk,TxOk]at hx
 obtain⟨⟨hd,hs,hc,hm⟩,⟨_,har0⟩,⟨_,_⟩,⟨_,_⟩⟩:=hx
 have har:∀x,x∈ar→x.length≤9223372036854775000:=fun x hx=>Nat.le_trans (har0 x hx) (by omega)
 have hnd:∀x,x∈needL k d sr c m→x.length≤9223372036854775000:=by
  intro x hx
  unfold needL at hx
  have:x=d∨x=sr∨x=c∨x=m:=by
   repeat(split at hx<;>first|(simp at hx;grind)|skip)
  rcases this with rfl|rfl|rfl|rfl<;>omega
 have hcf:=fun s=>fMay_S (needL k d sr c m) .full hnd (needL_len _ _ _ _ _) s
 have hcf0:=fun s=>fMay_S (needL k d sr c m) .no hnd (needL_len _ _ _ _ _) s
 clear har0 hnd
 refine G_enter Tryz.func185 rfl Tryz.ntmps185 rfl fun Q hQ hQe=>?_
 simp only[stC]
 have hk:k=1∨k=2∨k=3∨k=4∨k=5∨k=6∨k=7∨k=8∨k=9∨(¬ k=1∧¬ k=2∧¬ k=3∧¬ k=4∧¬ k=5∧¬ k=6∧¬ k=7∧¬ k=8∧¬ k=9):=by omega
 rcases hk with rfl|rfl|rfl|rfl|rfl|rfl|rfl|rfl|rfl|⟨_,_,_,_,_,_,_,_,_⟩
 all_goals
  simp only[needL,seval,if_pos,if_neg,strs,List.map_cons,List.map_nil,not_false_eq_true, *]at hcf hcf0
 all_goals(repeat'(first|refine Ctl ?_|(with_reducible first|(refine Kof.use hK ?_;clear hK hE K E)|(refine Kof.use hKh ?_;clear hKh Kh)|(refine Kof.use hKb (P_next ?_);clear hKb Kb)|refine G_plan 7 [([0,1,2,3,4,5,6,7,8,9,10],11,[[7,8]]),([12],13,[[],[]])] [] hQe fun K E hK hE=>?_|refine G_plan 9 [([0,1,2,3,4,5,6,7,8,9,10],11,[[7,8]]),([12],13,[[],[]])] [] hQe fun K E hK hE=>?_|refine G_plan 12 [([0,1,2,3,4,5,6,7,8,9,10,11,12,13,14],15,[[9,10,11,12]]),([16],17,[[],[11,12]]),([18],19,[[],[],[]])] [] hQe fun K E hK hE=>?_|refine G_plan 14 [([0,1,2,3,4,5,6,7,8,9,10,11,12],13,[[7,8,9,10]]),([14],15,[[],[9,10]]),([16],17,[[],[],[]])] [18] hQe fun K E hK hE=>?_|refine G_plan 16 [([0,1,2,3,4,5,6,7,8,9,10,11,12],13,[[7,8,9,10]]),([14],15,[[],[9,10]]),([16],17,[[],[],[]])] [18] hQe fun K E hK hE=>?_|refine G_plan 18 [([0,1,2,3,4,5,6],7,[[]])] [] hQe fun K E hK hE=>?_)|((with_reducible refine W_cond (fun h=>?_) (fun h=>?_))<;>(try(exfalso;assumption)))|((first|(with_reducible first|refine G_region fun K E hK hE=>?_|refine call_ret can183 (hcf _) ?_|refine call_ret can183 (hcf0 _) ?_|refine call_ret can172 (isName_S _ (by omega) _) ?_|refine call_ret can173 (oonames_S _ _ (by assumption) _) ?_|refine P_heads fun Kh hKh=>?_|refine P_fin fun Kh hKh=>?_|refine P_each fun Kb hKb=>?_)|((with_reducible refine W_fresh (fun b hb=>?_));(repeat(obtain⟨_,hb⟩:=hb)))|((with_reducible refine W_gd (fun h=>?_) (fun h=>?_))))<;>(try simp(disch:=omega) only[go_sem,seval,nil0,iz0,len0,splice,strsV,strs_C, *]))))
 all_goals(refine W_ret res185 hQ ?_)
 all_goals(refine⟨_,_,Wk.of_eq ?_,?_,rfl,rfl⟩)
 all_goals first|(exact z_fg)|skip
 all_goals
  clear hcf hcf0 har
  refine congrArg VV.bool ?_
  (simp_all [mayB,needL,strs,dec_nil];done)
end Go.Proofs.YtgdbgfjhenobdaaGreatDoor
