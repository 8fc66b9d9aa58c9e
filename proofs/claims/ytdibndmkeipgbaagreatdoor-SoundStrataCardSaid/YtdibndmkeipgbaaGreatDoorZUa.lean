/- What is proved: What the reader of package rule hands back. Conditions: those that stand in the statements. -/
import Derived.Test.YtdibndmkeipgbaaGreatDoorZOoj
import Derived.Test.YtdibndmkeipgbaaGreatDoorZLexP
import Derived.Test.YtdibndmkeipgbaaGreatDoorZGpj
set_option linter.unusedSimpArgs false
set_option linter.unusedVariables false
set_option maxRecDepth 100000
namespace Go.Proofs.YtdibndmkeipgbaaGreatDoor
open Go.RowKit

/-- What a reader's method comes to: a value, and the signs that are left; or a stop. -/
abbrev PU (α : Type) := Except (Nat × Nat) (α × List Sgn)
def bu {α β : Type} (x : PU α) (k : α → List Sgn → PU β) : PU β :=
  match x with
  | .ok (a, L) => k a L
  | .error y => .error y
theorem bu_ok {α β : Type} {a : α} {L : List Sgn} {k : α → List Sgn → PU β} : bu (.ok (a, L)) k = k a L := rfl
section
variable {P : Program} {N : Nat} {all rest : List Oper} {K : Env → St → Prop} {E : VV → Env → St → Prop} {d : Option Tmp} {env : Env} {f : FuncId} {xs : List VV} {α ι κ : Type} {enc : α → VV} {s s0 : St} {r e : Nat} {x : PU α}
end
def mustU (e : Nat) (L : List Sgn) (t : List UInt8) : PU Unit := if isT L 0 t then .ok ((), L.tail) else .error (place e L, 110)
def roomU (e : Nat) (L : List Sgn) (hv mst : Nat) (b : Bool) : PU Unit := if mst ≤ hv ∧ b = true then .error (place e L, 2) else .ok ((), L)
def kindU (e : Nat) (L : List Sgn) (k : Nat) : PU (List UInt8) :=
  match L with
  | [] => .error (e, 110)
  | x :: L' => if x.kind = k then .ok (x.text, L') else .error (x.at_, 110)
def nameU (e : Nat) (L : List Sgn) : PU (List UInt8) := kindU e L 1
end Go.Proofs.YtdibndmkeipgbaaGreatDoor
