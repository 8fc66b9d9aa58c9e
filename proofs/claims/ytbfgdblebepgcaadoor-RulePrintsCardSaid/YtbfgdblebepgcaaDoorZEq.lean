/- What is proved: Lists held against each other, part by part: plain facts. Conditions: those that stand in the statements. -/
import Derived.Test.YtbfgdblebepgcaaDoorZGq
set_option linter.unusedSimpArgs false
set_option linter.unusedVariables false
set_option maxRecDepth 100000
namespace Go.Proofs.YtbfgdblebepgcaaDoor
open Go.RowKit

noncomputable def eqB {α : Type} (a b : α) : Bool := @decide (a = b) (Classical.propDecidable _)
theorem eqB_t {α : Type} {a b : α} (h : a = b) : eqB a b = true := @decide_eq_true _ (Classical.propDecidable _) h
theorem eqB_f {α : Type} {a b : α} (h : ¬ a = b) : eqB a b = false := @decide_eq_false _ (Classical.propDecidable _) h
theorem eqB_i {α : Type} {a b : α} : eqB a b = true ↔ a = b := ⟨fun h => @of_decide_eq_true _ (Classical.propDecidable _) h, eqB_t⟩
theorem take_eq {α : Type} {a b : List α} (hl : a.length = b.length) (h : a.take a.length = b.take a.length) : a = b := by
  rw [List.take_length, hl, List.take_length] at h
  exact h
theorem take_eq_succ {α : Type} {a b : List α} {i : Nat} {x y : α} (ha : a[i]? = some x) (hb : b[i]? = some y) (h : a.take i = b.take i) (he : x = y) : a.take (i + 1) = b.take (i + 1) := by
  rw [List.take_add_one, List.take_add_one, ha, hb, h, he]
theorem ne_at {α : Type} {a b : List α} {i : Nat} {x y : α} (ha : a[i]? = some x) (hb : b[i]? = some y) (he : ¬ x = y) : ¬ a = b := by
  rintro rfl
  rw [ha] at hb
  injection hb with hb
  exact he hb

theorem eqB_self {α : Type} {a : α} : eqB a a = true := eqB_t rfl
theorem beqT {b : Bool} : (b == true) = b := by cases b <;> rfl
theorem beqF {b : Bool} : (b == false) = !b := by cases b <;> rfl
theorem eqB_and {α β : Type} {a a' : α} {b b' : β} : (eqB a a' && eqB b b') = eqB (a, b) (a', b') := by
  rw [Bool.eq_iff_iff, Bool.and_eq_true, eqB_i, eqB_i, eqB_i]; simp
end Go.Proofs.YtbfgdblebepgcaaDoor
