/- What is proved: The digits of a number, and their sign: plain facts; The signs of a printed program: plain facts; What is read of a printed program's signs: plain facts. Conditions: those that stand in the statements. -/
import Derived.Test.YtdibndmkeipgbaaGreatDoorZTaj
import Derived.Test.YtdibndmkeipgbaaGreatDoorZUoj
set_option linter.unusedSimpArgs false
set_option linter.unusedVariables false
set_option maxRecDepth 100000
namespace Go.Proofs.YtdibndmkeipgbaaGreatDoor
open Go.RowKit

theorem dig_of : ∀ d : Nat, d < 10 → digB (UInt8.ofNat (48 + d)) = true ∧ Lib.digitVal (UInt8.ofNat (48 + d)) = some d ∧ (UInt8.ofNat (48 + d) = 48 → d = 0) := by decide
theorem dd_small {u : Nat} (h : u < 10) : Lib.decDigits u = [UInt8.ofNat (48 + u)] := by rw [Lib.decDigits, dif_pos h]
theorem dd_big {u : Nat} (h : ¬ u < 10) : Lib.decDigits u = Lib.decDigits (u / 10) ++ [UInt8.ofNat (48 + u % 10)] := by rw [Lib.decDigits, dif_neg h]
theorem dd_all (u : Nat) : ∀ c, c ∈ Lib.decDigits u → digB c = true := by
  induction u using Nat.strongRecOn with
  | ind u ih =>
    intro c hc
    by_cases h : u < 10
    · rw [dd_small h, List.mem_singleton] at hc; subst hc; exact (dig_of u h).1
    · rw [dd_big h, List.mem_append, List.mem_singleton] at hc
      rcases hc with hc | hc
      · exact ih (u / 10) (by omega) c hc
      · subst hc; exact (dig_of (u % 10) (by omega)).1
theorem dd_head (u : Nat) : ∃ c t, Lib.decDigits u = c :: t ∧ (c = 48 → t = []) := by
  suffices H : ∃ c t, Lib.decDigits u = c :: t ∧ (c = 48 → u = 0) by
    obtain ⟨c, t, h1, h2⟩ := H
    refine ⟨c, t, h1, fun e => ?_⟩
    have := h2 e
    subst this
    rw [dd_small (by omega)] at h1
    injection h1 with _ h1
    exact h1.symm
  induction u using Nat.strongRecOn with
  | ind u ih =>
    by_cases h : u < 10
    · exact ⟨_, [], dd_small h, (dig_of u h).2.2⟩
    · obtain ⟨c, t, h1, h2⟩ := ih (u / 10) (by omega)
      exact ⟨c, t ++ [UInt8.ofNat (48 + u % 10)], by rw [dd_big h, h1]; rfl, fun e => by have := h2 e; omega⟩
theorem dd_len : ∀ (k u : Nat), u < 10 ^ (k + 1) → (Lib.decDigits u).length ≤ k + 1
  | 0, u, h => by rw [dd_small (by simpa using h)]; simp
  | k + 1, u, h => by
    by_cases h1 : u < 10
    · rw [dd_small h1]; simp
    · rw [dd_big h1, List.length_append]
      have := dd_len k (u / 10) (by rw [Nat.pow_succ] at h; omega)
      simp only [List.length_cons, List.length_nil]; omega
theorem ito_nat (u : Nat) : Lib.itoa (u : Int) = Lib.decDigits u := by unfold Lib.itoa; rw [if_neg (by omega)]; simp
theorem digB_part {c : UInt8} (h : digB c = true) : partB c = true := by simp [partB, h]
theorem runN_digs : ∀ (t r : List UInt8), (∀ c, c ∈ t → digB c = true) → NP r → runN digB (t ++ r) = t.length
  | [], r, _, hr => by
    cases r with
    | nil => rfl
    | cons c s =>
      rw [List.nil_append, runN_cons]
      have := hr c s rfl
      cases hd : digB c with
      | false => rfl
      | true => rw [digB_part hd] at this; cases this
  | c :: t, r, h, hr => by
    rw [List.cons_append, runN_cons, h c (by simp), if_pos rfl, runN_digs t r (fun x hx => h x (by simp [hx])) hr]
    rfl
theorem one_num {u : Nat} (hu : u ≤ 9999999999) {r : List UInt8} (hr : NP r) : oneK (Lib.decDigits u ++ r) = (2, (Lib.decDigits u).length) := by
  obtain ⟨c, t, h1, h2⟩ := dd_head u
  have h3 := runN_digs (Lib.decDigits u) r (dd_all u) hr
  have h4 := dd_len 9 u (by omega)
  have h5 := dd_all u c (by rw [h1]; simp)
  rw [h1] at h3 h4 ⊢
  rw [List.cons_append] at h3 ⊢
  simp only [oneK, h5, if_true, h3]
  rw [if_neg]
  rintro (h | ⟨h, e⟩)
  · omega
  · rw [h2 e] at h; simp at h
theorem LexN.num {n : Int} (h0 : 0 ≤ n) (h1 : n ≤ 9999999999) : LexN (Lib.itoa n) [Lib.itoa n] := by
  obtain ⟨u, rfl⟩ := Int.eq_ofNat_of_zero_le h0
  rw [show ((u : Nat) : Int) = (u : Int) from rfl, ito_nat]
  have hu : u ≤ 9999999999 := by omega
  intro r a out L hr e
  obtain ⟨c, t, g1, _⟩ := dd_head u
  refine lex_one (k := 2) (by rw [g1]; simp) (fun c' s' e' => ?_) (one_num hu hr) ?_ e
  · exact part_plain (digB_part (dd_all u c' (by rw [e']; simp)))
  · have := one_num hu NP.nil
    rwa [List.append_nil] at this
end Go.Proofs.YtdibndmkeipgbaaGreatDoor
set_option maxRecDepth 100000
namespace Go.Proofs.YtdibndmkeipgbaaGreatDoor
open Go.RowKit

end Go.Proofs.YtdibndmkeipgbaaGreatDoor
set_option maxRecDepth 100000
namespace Go.Proofs.YtdibndmkeipgbaaGreatDoor
open Go.RowKit

end Go.Proofs.YtdibndmkeipgbaaGreatDoor
