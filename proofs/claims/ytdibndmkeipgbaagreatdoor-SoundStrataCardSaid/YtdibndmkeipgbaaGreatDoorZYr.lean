/- What is proved: What SoundStages hands back. Conditions: what fits a memory. Conditions: those that stand in the statements. -/
import Derived.Test.YtdibndmkeipgbaaGreatDoorZYpj
import Derived.Test.YtdibndmkeipgbaaGreatDoorZNaj
set_option linter.unusedSimpArgs false
set_option linter.unusedVariables false
set_option maxRecDepth 100000
namespace Go.Proofs.YtdibndmkeipgbaaGreatDoor
open Go.RowKit

theorem sound_bad {x : Pgm} (h : (soundP x).2.1 ≠ 0) : (soundP x).2.2 = [] := by
  unfold soundP at h ⊢
  by_cases hr : readE x = 0
  · rw [if_neg (by simp [hr])] at h ⊢
    cases hb : badR x 0 x.rules with
    | some q => rfl
    | none =>
      rw [hb] at h
      simp only at h ⊢
      cases hs : stgP x with
      | none => rfl
      | some l => rw [hs] at h; exact absurd rfl h
  · rw [if_pos hr]
theorem badR_err {p : Pgm} : ∀ (l : List Rul) (k i : Nat) (e : Int), badR p k l = some (i, e) → e ≠ 0
  | [], _, _, _, h => by cases h
  | a :: l, k, i, e, h => by
    simp only [badR] at h
    cases ha : scopeS p a with
    | error e' => rw [ha] at h; injection h with h; injection h with h1 h2; subst h2; exact scopeS_err ha
    | ok Y => rw [ha] at h; exact badR_err l (k + 1) i e h
theorem sound_ok {x : Pgm} (h : (soundP x).2.1 = 0) : ∃ l, soundP x = (-1, 0, l) ∧ readE x = 0 ∧ badR x 0 x.rules = none ∧ stgP x = some l := by
  unfold soundP at h ⊢
  by_cases hr : readE x = 0
  · rw [if_neg (by simp [hr])] at h ⊢
    cases hb : badR x 0 x.rules with
    | some q => rw [hb] at h; obtain ⟨k, e⟩ := q; exact absurd h (badR_err _ _ _ _ hb)
    | none =>
      rw [hb] at h
      simp only at h ⊢
      cases hs : stgP x with
      | none => rw [hs] at h; cases h
      | some l => exact ⟨l, rfl, hr, trivial, rfl⟩
  · rw [if_pos hr] at h; exact absurd h hr
theorem atomS_z {p : Pgm} {X Y : Scp} {a : Atm} (h : atomS p X a = .ok Y) : relZ p.decls a.rel = (ixR p a.rel : Int) := by
  unfold atomS at h
  unfold ixR relZ
  cases hk : relI p.decls a.rel with
  | none => rw [hk] at h; cases h
  | some k => rfl
theorem atomsS_z {p : Pgm} : ∀ (l : List Atm) {X Y : Scp}, atomsS p X l = .ok Y → ∀ a, a ∈ l → relZ p.decls a.rel = (ixR p a.rel : Int)
  | [], _, _, _, a, ha => by cases ha
  | b :: l, X, Y, h, a, ha => by
    simp only [atomsS] at h
    cases hb : atomS p X b with
    | error e => rw [hb] at h; cases h
    | ok Z =>
      rw [hb, eb_ok] at h
      rcases List.mem_cons.1 ha with rfl | ha
      · exact atomS_z hb
      · exact atomsS_z l h a ha
theorem scopeS_z {p : Pgm} {r : Rul} {Y : Scp} (h : scopeS p r = .ok Y) : relZ p.decls r.head.rel = (ixR p r.head.rel : Int) ∧ ∀ a, a ∈ r.body → relZ p.decls a.rel = (ixR p a.rel : Int) := by
  unfold scopeS at h
  cases h1 : atomS p ⟨[], []⟩ r.head with
  | error e => rw [h1] at h; cases h
  | ok X =>
    rw [h1, eb_ok] at h
    cases h2 : atomsS p X r.body with
    | error e => rw [h2] at h; cases h
    | ok Z => exact ⟨atomS_z h1, atomsS_z _ h2⟩
theorem sound_rel {x : Pgm} (h : badR x 0 x.rules = none) {r : Rul} (hr : r ∈ x.rules) :
    (ixR x r.head.rel < x.decls.length ∧ relZ x.decls r.head.rel = (ixR x r.head.rel : Int)) ∧ ∀ a, a ∈ r.body → ixR x a.rel < x.decls.length ∧ relZ x.decls a.rel = (ixR x a.rel : Int) := by
  obtain ⟨Y, hY⟩ := badR_all _ _ h r hr
  have h1 := scopeS_rel hY
  have h2 := scopeS_z hY
  exact ⟨⟨h1.1, h2.1⟩, fun a ha => ⟨h1.2 a ha, h2.2 a ha⟩⟩
def iL (l : List Nat) : List (List VV) := intsL (List.map (fun n : Nat => (n : Int)) l)
theorem iL_len {l : List Nat} : (iL l).length = l.length := by simp [iL, intsL]
theorem iL_at {l : List Nat} {i : Nat} (h : i < l.length) : (iL l)[i]? = some [.int .i64 (gt l i : Int)] := by
  have := gt_eq h
  simp [iL, intsL, this]
end Go.Proofs.YtdibndmkeipgbaaGreatDoor
