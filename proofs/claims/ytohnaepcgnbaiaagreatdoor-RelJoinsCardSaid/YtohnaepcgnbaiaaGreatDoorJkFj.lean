/- Walks of functions that the claim reaches, and plain facts of them. Conditions: those in the statements. -/
import Derived.Test.YtohnaepcgnbaiaaGreatDoorJkEuj
set_option linter.unusedSimpArgs false
set_option linter.unusedVariables false
set_option maxRecDepth 100000
namespace Go.Proofs.YtohnaepcgnbaiaaGreatDoor
open Go.RowKit
attribute [-go_sem] bJ cX bH bG aT cU cT
theorem xb {A:List Par}{f:Par->List Nat}(hf:∀t,(f t).length=2/\∀v,v∈f t->v<4):(br (A.map f)).length<=16:=jG (w:=2) fun t ht=>by obtain⟨p,_,rfl⟩:=A_.1 ht;exact hf p
theorem gw {T:List (List Nat)}{w:Nat}(hw:w<=3)(hT:∀t,t∈T->t.length=w/\∀v,v∈t->v<4):dL (br T):=by
 have h1:=jG hT
 have h2:4 ^ w<=4 ^ 3:=Nat.pow_le_pow_right (by omega) hw
 refine⟨by omega,fun r hr=>?_⟩
 obtain⟨t,ht,rfl⟩:=nY.1 hr
 have:=(hT t ht).1
 simp[eE]
 omega
theorem iI (A:List Par):∀t,t∈A.map pN->t.length=2/\∀v,v∈t->v<4:=fun t ht=>by obtain⟨p,_,rfl⟩:=A_.1 ht;exact sP p
end Go.Proofs.YtohnaepcgnbaiaaGreatDoor
