/- What is proved: Signs of a text, step by step: plain facts. Conditions: those that stand in the statements. -/
import Derived.Test.YtejlknplmfmceaaZLexj
import Derived.Lib.IndexAny
set_option linter.unusedSimpArgs false
set_option linter.unusedVariables false
namespace Go.Proofs.Ytejlknplmfmceaa
open Go.RowKit

theorem blankB_mem (c : UInt8) : blankB c = decide (c = 32 ∨ c = 9 ∨ c = 10 ∨ c = 13) := by
  unfold blankB
  rw [← Lib.contains_iff_indexByte]
  simp
theorem lexGo_fuel : ∀ (f f' : Nat) (l : List UInt8) (at_ : Nat) (out : List Sgn), l.length < f → l.length < f' → lexGo f l at_ out = lexGo f' l at_ out
  | 0, _, _, _, _, h, _ => by omega
  | _, 0, _, _, _, _, h => by omega
  | f + 1, f' + 1, l, at_, out, h, h' => by
    simp only [lexGo]
    have hb := runN_le blankB l
    generalize hd : l.drop (runN blankB l) = d
    have hdl : d.length = l.length - runN blankB l := by rw [← hd, List.length_drop]
    cases d with
    | nil => rfl
    | cons c r =>
      simp only [List.length_cons] at hdl
      simp only
      split
      · rename_i hc
        have h1 : 1 ≤ runN noLine (c :: r) := by
          rw [runN_cons]
          rw [if_pos (by simp [noLine]; omega)]
          omega
        exact lexGo_fuel f f' _ _ _ (by rw [List.length_drop]; simp only [List.length_cons]; omega) (by rw [List.length_drop]; simp only [List.length_cons]; omega)
      · split
        · rfl
        · split
          · rfl
          · rename_i h0 _
            have h1 : 1 ≤ (oneK (c :: r)).2 := by omega
            exact lexGo_fuel f f' _ _ _ (by rw [List.length_drop]; simp only [List.length_cons]; omega) (by rw [List.length_drop]; simp only [List.length_cons]; omega)
/-- The signs of a text from a place on, behind others. -/
def lexR (l : List UInt8) (at_ : Nat) (out : List Sgn) : Except (Nat × Nat) (List Sgn) := lexGo (l.length + 1) l at_ out
theorem lexR_nil (at_ : Nat) (out : List Sgn) : lexR [] at_ out = .ok out := rfl
theorem lexR_blank {c : UInt8} (h : blankB c = true) (r : List UInt8) (at_ : Nat) (out : List Sgn) : lexR (c :: r) at_ out = lexR r (at_ + 1) out := by
  unfold lexR
  rw [lexGo_fuel (r.length + 1) ((c :: r).length + 1) r (at_ + 1) out (by omega) (by simp; omega)]
  simp only [lexGo]
  have h1 : runN blankB (c :: r) = runN blankB r + 1 := by rw [runN_cons, if_pos h]
  rw [h1]
  simp only [List.drop_succ_cons]
  rw [show at_ + (runN blankB r + 1) = at_ + 1 + runN blankB r by omega]
theorem lexR_hash {c : UInt8} (h : c.toNat = 35) (r : List UInt8) (at_ : Nat) (out : List Sgn) : lexR (c :: r) at_ out = lexR ((c :: r).drop (runN noLine (c :: r))) (at_ + runN noLine (c :: r)) out := by
  have hc : c = 35 := UInt8.toNat_inj.1 h
  subst hc
  have h0 : runN blankB ((35 : UInt8) :: r) = 0 := by rw [runN_cons, blankB_mem]; rfl
  have h1 : 1 ≤ runN noLine ((35 : UInt8) :: r) := by rw [runN_cons]; rw [if_pos (by decide)]; omega
  conv => lhs; unfold lexR
  simp only [lexGo, h0, List.drop_zero, Nat.add_zero]
  rw [if_pos h]
  unfold lexR
  refine lexGo_fuel _ _ _ _ _ ?_ (by omega)
  rw [List.length_drop]; simp only [List.length_cons]; omega
theorem lexR_sign {c : UInt8} (hb : blankB c = false) (h : ¬ c.toNat = 35) (r : List UInt8) (at_ : Nat) (out : List Sgn) : lexR (c :: r) at_ out =
    if (oneK (c :: r)).2 = 0 then .error (at_, 100) else if 4096 ≤ out.length then .error (at_, 2)
    else lexR ((c :: r).drop (oneK (c :: r)).2) (at_ + (oneK (c :: r)).2) (out ++ [⟨(oneK (c :: r)).1, (c :: r).take (oneK (c :: r)).2, at_⟩]) := by
  have h0 : runN blankB (c :: r) = 0 := by rw [runN_cons, hb]; rfl
  conv => lhs; unfold lexR
  simp only [lexGo, h0, List.drop_zero, Nat.add_zero]
  rw [if_neg h]
  split
  · rfl
  · split
    · rfl
    · unfold lexR
      refine lexGo_fuel _ _ _ _ _ ?_ (by omega)
      rw [List.length_drop]; simp only [List.length_cons]; omega
theorem lexR_noline {c : UInt8} (h : noLine c = true) (r : List UInt8) (at_ : Nat) (out : List Sgn) :
    lexR ((c :: r).drop (runN noLine (c :: r))) (at_ + runN noLine (c :: r)) out = lexR (r.drop (runN noLine r)) (at_ + 1 + runN noLine r) out := by
  have h1 : runN noLine (c :: r) = runN noLine r + 1 := by rw [runN_cons, if_pos h]
  rw [h1, List.drop_succ_cons, show at_ + (runN noLine r + 1) = at_ + 1 + runN noLine r by omega]
end Go.Proofs.Ytejlknplmfmceaa
