/- What is proved: A declaration's domains, as they are read; An item of a program, as it is read. Conditions: those that stand in the statements. -/
import Derived.Test.YtdibndmkeipgbaaGreatDoorZUdj
import Derived.Test.YtdibndmkeipgbaaGreatDoorZPk
import Derived.Test.YtdibndmkeipgbaaGreatDoorZJoin
set_option linter.unusedSimpArgs false
set_option linter.unusedVariables false
set_option maxRecDepth 100000
namespace Go.Proofs.YtdibndmkeipgbaaGreatDoor
open Go.RowKit
structure Dm where
  name : List UInt8
  size : Int
def dmC (d : Dm) : List VV := [.str d.name, .int .i64 d.size]
structure Dcl where
  name : List UInt8
  doms : List (List UInt8)
def dclC (d : Dcl) : List VV := [.str d.name, .lst (strs d.doms) .no]
structure Pgm where
  doms : List Dm
  decls : List Dcl
  rules : List Rul
def pgC (x : Pgm) : List VV := [.lst (x.doms.map dmC) .no, .lst (x.decls.map dclC) .no, .lst (x.rules.map rulC) .no]
abbrev rsP : List (Nat × TypeId × Nat) := [(0, 42, 2), (1, 44, 2), (2, 50, 4)]
def domU (e : Nat) (x : Pgm) (L : List Sgn) : PU Pgm :=
  bu (roomU e L x.doms.length 32 true) fun _ L => bu (mustU e L [100, 111, 109]) fun _ L => bu (nameU e L) fun n L => bu (numU e L) fun z L => bu (mustU e L [46]) fun _ L => .ok (⟨x.doms ++ [⟨n, (z : Nat)⟩], x.decls, x.rules⟩, L)
def relU (e : Nat) (x : Pgm) (L : List Sgn) : PU Pgm :=
  bu (roomU e L x.decls.length 32 true) fun _ L => bu (mustU e L [114, 101, 108]) fun _ L => bu (nameU e L) fun n L => bu (listU e (nameU e) [1] L) fun ds L => bu (mustU e L [46]) fun _ L => .ok (⟨x.doms, x.decls ++ [⟨n, ds⟩], x.rules⟩, L)
def rulU (e : Nat) (x : Pgm) (L : List Sgn) : PU Pgm :=
  bu (roomU e L x.rules.length 64 (nextB [1] L)) fun _ L => bu (ruleU e L) fun y L => .ok (⟨x.doms, x.decls, x.rules ++ [y]⟩, L)
def itemU (e : Nat) (x : Pgm) (L : List Sgn) : PU Pgm := if isT L 0 [100, 111, 109] = true then domU e x L else if isT L 0 [114, 101, 108] = true then relU e x L else rulU e x L
theorem WkL.refl : ∀ x : List VV, WkL x x
  | [] => .nil
  | x :: xs => .same x (WkL.refl xs)
theorem own_base {s : St} {o o2 : Own} {T sz n m : Nat} (h : OwnOk (s.own o2 T sz n) o m) : OwnOk s o m := by
  cases o with
  | at_ x => simp only [OwnOk, own_fr] at h; exact h.2
  | _ => exact h
end Go.Proofs.YtdibndmkeipgbaaGreatDoor
set_option maxRecDepth 100000
namespace Go.Proofs.YtdibndmkeipgbaaGreatDoor
open Go.RowKit
end Go.Proofs.YtdibndmkeipgbaaGreatDoor
