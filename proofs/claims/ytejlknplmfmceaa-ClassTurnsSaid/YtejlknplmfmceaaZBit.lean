/- What is proved: Low bits of a number, and numbers turned round: plain facts. Conditions: those that stand in the statements. -/
import Derived.Test.YtejlknplmfmceaaZRun
set_option linter.unusedSimpArgs false
set_option linter.unusedVariables false
namespace Go.Proofs.Ytejlknplmfmceaa
open Go.RowKit

theorem bAnd_low (x : Int) (j : Nat) (hj : j ≤ 62) : bAnd .i64 x (2 ^ j - 1) = x % 2 ^ j := by
  have hp : (2 : Int) ^ j = ((2 ^ j : Nat) : Int) := by simp
  have hle : 2 ^ j ≤ 2 ^ 62 := Nat.pow_le_pow_right (by omega) hj
  have hpos : 0 < 2 ^ j := Nat.pow_pos (by omega)
  have h1 : (BitVec.ofInt IntKind.i64.bits x &&& BitVec.ofInt IntKind.i64.bits (2 ^ j - 1)).toNat = (x % 2 ^ j).toNat := by
    rw [BitVec.toNat_and, BitVec.toNat_ofInt, BitVec.toNat_ofInt]
    have e2 : ((2 : Int) ^ j - 1) % ((2 ^ IntKind.i64.bits : Nat) : Int) = ((2 ^ j - 1 : Nat) : Int) := by
      rw [show ((2 : Int) ^ j - 1) = ((2 ^ j - 1 : Nat) : Int) by omega]
      exact Int.emod_eq_of_lt (by omega) (by
        have : (2 ^ 62 : Nat) < 2 ^ IntKind.i64.bits := by decide
        omega)
    rw [e2]
    show _ &&& (2 ^ j - 1) = _
    rw [Nat.and_two_pow_sub_one_eq_mod]
    have hd : ((2 ^ IntKind.i64.bits : Nat) : Int) = 2 ^ j * ((2 ^ (64 - j) : Nat) : Int) := by
      rw [hp, ← Int.natCast_mul, ← Nat.pow_add, show j + (64 - j) = 64 by omega]; rfl
    have h0 : 0 ≤ x % ((2 ^ IntKind.i64.bits : Nat) : Int) := Int.emod_nonneg _ (by decide)
    have : (((x % ((2 ^ IntKind.i64.bits : Nat) : Int)).toNat % 2 ^ j : Nat) : Int) = ((x % 2 ^ j).toNat : Int) := by
      rw [Int.natCast_emod, Int.toNat_of_nonneg h0, Int.toNat_of_nonneg (Int.emod_nonneg _ (by omega)), ← hp, hd]
      exact Int.emod_emod_of_dvd _ ⟨_, rfl⟩
    exact Int.ofNat.inj this
  unfold bAnd
  rw [h1, Int.toNat_of_nonneg (Int.emod_nonneg _ (by omega))]
  have h3 := Int.emod_lt_of_pos x (show (0 : Int) < 2 ^ j by omega)
  have h4 := Int.emod_nonneg x (show (2 : Int) ^ j ≠ 0 by omega)
  exact wrap_i64 (by omega) (by omega)
end Go.Proofs.Ytejlknplmfmceaa
