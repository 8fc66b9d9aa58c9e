/- What is proved: What SoundNames hands back. Conditions: what fits a memory. Conditions: those that stand in the statements. -/
import Derived.Test.YtdibndmkeipgbaaDoorZYrj
import Derived.Test.YtdibndmkeipgbaaDoorZYv
set_option linter.unusedSimpArgs false
set_option linter.unusedVariables false
set_option maxRecDepth 100000
namespace Go.Proofs.YtdibndmkeipgbaaDoor
open Go.RowKit

attribute [local go_sem] disown_fl owned_fl own_fl
theorem GS.wkobj {s : St} {b : Nat} {T : TypeId} {xs ys : List VV} (hb : s b = .obj T xs) (hl : ys.length = xs.length)
    (hw : ∀ (j : Nat) (y : VV), ys[j]? = some y → ∃ x, xs[j]? = some x ∧ Wk x y ∧ (x.one = true → y.one = true)) : GS s (s.set b (.obj T ys)) := by
  intro w0 G w h
  have hob := h.ok b
  rw [hb] at hob
  obtain ⟨hB, hn, c, hc, hsz, hx⟩ := hob
  refine ⟨h.below, h.K, h.cap, fun x => ?_, h.gl, h.rows.keep' (Gh.le.refl G) (Nat.le_refl _) (fun g _ hg => ⟨?_, rfl, fun _ => rfl⟩) (fun b' T' xs' rs' hb' => ?_)⟩
  · by_cases e : x = b
    · subst e
      rw [St.set_same]
      refine ⟨hB, hn, c, hc, hsz.trans hl.symm, fun i y hy => ?_⟩
      obtain ⟨x0, h0, h1, h2⟩ := hw i y hy
      obtain ⟨h3, v, hv, hR⟩ := hx i x0 h0
      exact ⟨h2 h3, v, hv, h1 G v hR⟩
    · rw [St.set_other _ _ e]; exact h.ok x
  · rw [St.set_other _ _ (by rintro rfl; rw [hb] at hg; cases hg)]; exact hg
  · have hne : b' ≠ b := by rintro rfl; rw [St.set_same] at hb'; cases hb'
    rw [St.set_other _ _ hne] at hb'
    exact ⟨hb', rfl⟩
theorem Wk.rows {l l' : List (List VV)} {o : Own} (hl : l'.length = l.length) (hw : ∀ (i : Nat) (x' : List VV), l'[i]? = some x' → ∃ x, l[i]? = some x ∧ WkL x x') : Wk (.lst l o) (.lst l' o) :=
  fun _ _ h => h.wkrow hl hw
theorem rows_last {l : List (List VV)} {a b : List VV} (h : WkL a b) (i : Nat) (x' : List VV) (hx : (l ++ [b])[i]? = some x') : ∃ x, (l ++ [a])[i]? = some x ∧ WkL x x' := by
  by_cases hi : i < l.length
  · rw [List.getElem?_append_left hi] at hx ⊢
    exact ⟨x', hx, WkL.refl _⟩
  · rw [List.getElem?_append_right (by omega)] at hx ⊢
    cases hj : i - l.length with
    | zero => rw [hj] at hx; simp at hx; subst hx; exact ⟨a, by simp, h⟩
    | succ k => rw [hj] at hx; simp at hx
end Go.Proofs.YtdibndmkeipgbaaDoor
