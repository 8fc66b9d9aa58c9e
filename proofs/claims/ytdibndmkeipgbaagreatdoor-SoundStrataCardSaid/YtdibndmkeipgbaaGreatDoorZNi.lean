/- What is proved: The law RuleAgain, walked. Conditions: a text of fewer than 2^63 bytes. Conditions: those that stand in the statements. -/
import Derived.Test.YtdibndmkeipgbaaGreatDoorZNh
import Derived.Test.YtdibndmkeipgbaaGreatDoorZNej
set_option linter.unusedSimpArgs false
set_option linter.unusedVariables false
set_option maxRecDepth 100000
namespace Go.Proofs.YtdibndmkeipgbaaGreatDoor
open Go.RowKit

theorem dm_ok {d : Dm} (h : dmB d = true) : DmOk d := by
  have := dm_small h
  exact ⟨by omega, by omega, by omega⟩
theorem dcl_ok {d : Dcl} (h : dclB d = true) : DclOk d := by
  have h1 := dcl_small h
  simp only [dclB, Bool.and_eq_true, decide_eq_true_eq, List.all_eq_true] at h
  exact ⟨by omega, by omega, fun t ht => by have := nameB_len (h.2 t ht); omega⟩
theorem atm_ok {a : Atm} (h : atmB a = true) : AtmOk a := by
  simp only [atmB, Bool.and_eq_true, decide_eq_true_eq, List.all_eq_true] at h
  obtain ⟨⟨⟨h1, h2⟩, h3⟩, h4⟩ := h
  have h5 := nameB_len h2
  refine ⟨by omega, by omega, fun t ht => ?_⟩
  have h6 := h1 t ht
  unfold trmB at h6
  split at h6
  · simp only [Bool.and_eq_true, decide_eq_true_eq] at h6
    have := nameB_len h6.1
    exact ⟨by omega, by omega, by omega⟩
  · simp only [Bool.and_eq_true, decide_eq_true_eq] at h6
    rw [h6.1.1]
    exact ⟨by simp, by omega, by omega⟩
theorem pgm_ok {x : Pgm} (h : pgmB x = true) : PgmOk x := by
  obtain ⟨l1, l2, l3, h1, h2, h3⟩ := pgmB_to h
  refine ⟨by omega, by omega, by omega, fun d hd => dm_ok (h1 d hd), fun d hd => dcl_ok (h2 d hd), fun y hy => ?_⟩
  have h4 := h3 y hy
  simp only [rulB, Bool.and_eq_true, decide_eq_true_eq, List.all_eq_true] at h4
  obtain ⟨⟨⟨⟨⟨g1, g2⟩, g3⟩, g4⟩, g5⟩, g6⟩ := h4
  exact ⟨atm_ok g1, by omega, fun a ha => atm_ok (g6 a ha)⟩
end Go.Proofs.YtdibndmkeipgbaaGreatDoor
