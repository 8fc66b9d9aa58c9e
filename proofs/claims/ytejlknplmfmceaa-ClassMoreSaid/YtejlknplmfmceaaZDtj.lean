/- What is proved: The law ClassTurns, walked. Conditions: lists and texts of at most 2^47 parts; The law ClassOwners, walked. Conditions: lists and texts of at most 2^47 parts. Conditions: those that stand in the statements. -/
import Derived.Test.YtejlknplmfmceaaZCz
import Derived.Test.YtejlknplmfmceaaZMf
import Derived.Test.YtejlknplmfmceaaZBit
import Derived.Test.YtejlknplmfmceaaZCbj
set_option linter.unusedSimpArgs false
set_option linter.unusedVariables false
set_option maxRecDepth 100000
namespace Go.Proofs.Ytejlknplmfmceaa
open Go.RowKit

attribute [local go_sem] disown_fl owned_fl own_fl
theorem SCalls.wk16 {P : Program} {f : FuncId} {xs ys : List VV} {s : St} {Q : SEnd → St → Prop} (h : SCalls P f ys s Q) (hl : xs.length = ys.length) (hw : ∀ (j : Nat) (x y : VV), xs[j]? = some x → ys[j]? = some y → Wk x y) : SCalls P f xs s Q :=
  fun w0 G w vs hS hr => h w0 G w vs hS ⟨hr.1.trans hl, fun j v y hv hy => by
    have hj : j < xs.length := by rw [hl]; exact (List.getElem?_eq_some_iff.1 hy).1
    exact hw j xs[j] y (List.getElem?_eq_getElem hj) hy G v (hr.2 j v xs[j] hv (List.getElem?_eq_getElem hj))⟩
end Go.Proofs.Ytejlknplmfmceaa
set_option maxRecDepth 100000
namespace Go.Proofs.Ytejlknplmfmceaa
open Go.RowKit

theorem pairs_len (x : List Cls) : (pairsM x).length = mcount x := by
  unfold pairsM mcount
  rw [List.length_flatten, List.map_map]
  congr 1
  apply List.map_congr_left
  intro c _
  simp
theorem pairs_sz : ∀ (ps : List (Cls × Mth)) (q : Nms), (∀ p, p ∈ ps → p.2.pars.length ≤ 8 ∧ LOk argOk p.2.body ∧ (preL p.2.body).length ≤ 1024) → szA (ps.foldl pairQ q) ≤ szA q + ps.length * 420000000
  | [], q, _ => by simp
  | p :: ps, q, h => by
    have h1 := pairs_sz ps (pairQ q p) (fun y hy => h y (by simp [hy]))
    obtain ⟨a1, a2, a3⟩ := h p (by simp)
    have h2 : szA (pairQ q p) ≤ szA q + 420000000 := mthN_sz p.1 q p.2 a1 a2 a3
    simp only [List.foldl_cons, List.length_cons]
    rw [Nat.add_mul]
    omega
theorem names_sz {x : List Cls} (h : checkB x = true) : szA (namesN x) ≤ 430080000000 := by
  have hb := Bnd.of h
  have h1 := pairs_sz (pairsM x) nms0 (fun p hp => by
    obtain ⟨h1, h2⟩ := pairs_mem hp
    exact ⟨hb.pars _ h1 _ h2, hb.body _ h1 _ h2, body_len h _ h1 _ h2⟩)
  have h2 := mcount_le x hb.mths
  have h3 := hb.cls
  have h4 : mcount x ≤ 1024 := by omega
  rw [pairs_len] at h1
  rw [names_pairs]
  have h5 : mcount x * 420000000 ≤ 1024 * 420000000 := Nat.mul_le_mul_right _ h4
  have h6 : szA nms0 = 0 := rfl
  rw [h6, Nat.zero_add] at h1
  exact Nat.le_trans h1 h5
end Go.Proofs.Ytejlknplmfmceaa
