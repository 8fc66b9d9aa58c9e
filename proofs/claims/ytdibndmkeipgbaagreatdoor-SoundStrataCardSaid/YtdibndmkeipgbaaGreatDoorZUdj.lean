/- What is proved: Atoms, as they are read; Rules, as they are read. Conditions: those that stand in the statements. -/
import Derived.Test.YtdibndmkeipgbaaGreatDoorZUbj
set_option linter.unusedSimpArgs false
set_option linter.unusedVariables false
set_option maxRecDepth 100000
namespace Go.Proofs.YtdibndmkeipgbaaGreatDoor
open Go.RowKit
end Go.Proofs.YtdibndmkeipgbaaGreatDoor
set_option maxRecDepth 100000
namespace Go.Proofs.YtdibndmkeipgbaaGreatDoor
open Go.RowKit
structure Rul where
  head : Atm
  body : List Atm
def rulC (x : Rul) : List VV := [.bool x.head.not, .str x.head.rel, .lst (x.head.ts.map trmC) .no, .lst (x.body.map atmC) .no]
def bodyGo (e : Nat) : Nat → List Atm → List Sgn → PU (List Atm)
  | 0, _, _ => .error (0, 0)
  | f + 1, out, L => bu (roomU e L out.length 8 (nextB [1] L || isT L 0 [33])) fun _ L => bu (atomU e (if isT L 0 [33] = true then L.tail else L) (isT L 0 [33])) fun a L => if isT L 0 [44] = true then bodyGo e f (out ++ [a]) L.tail else .ok (out ++ [a], L)
def ruleU (e : Nat) (L : List Sgn) : PU Rul :=
  bu (atomU e L false) fun h L => bu (if isT L 0 [58, 45] = true then bodyGo e (L.length + 1) [] L.tail else .ok ([], L)) fun b L => bu (mustU e L [46]) fun _ L => .ok (⟨h, b⟩, L)
end Go.Proofs.YtdibndmkeipgbaaGreatDoor
