/- What is proved: What SoundStages hands back. Conditions: what fits a memory; What a program without some of its rules comes to, once it is sound: plain facts. Conditions: those that stand in the statements. -/
import Derived.Test.YtdibndmkeipgbaaDoorZYpj
import Derived.Test.YtdibndmkeipgbaaDoorZNaj
set_option linter.unusedSimpArgs false
set_option linter.unusedVariables false
set_option maxRecDepth 100000
namespace Go.Proofs.YtdibndmkeipgbaaDoor
open Go.RowKit

theorem sound_bad {x : Pgm} (h : (soundP x).2.1 ≠ 0) : (soundP x).2.2 = [] := by
  unfold soundP at h ⊢
  by_cases hr : readE x = 0
  · rw [if_neg (by simp [hr])] at h ⊢
    cases hb : badR x 0 x.rules with
    | some q => rfl
    | none =>
      rw [hb] at h
      simp only at h ⊢
      cases hs : stgP x with
      | none => rfl
      | some l => rw [hs] at h; exact absurd rfl h
  · rw [if_pos hr]
theorem badR_err {p : Pgm} : ∀ (l : List Rul) (k i : Nat) (e : Int), badR p k l = some (i, e) → e ≠ 0
  | [], _, _, _, h => by cases h
  | a :: l, k, i, e, h => by
    simp only [badR] at h
    cases ha : scopeS p a with
    | error e' => rw [ha] at h; injection h with h; injection h with h1 h2; subst h2; exact scopeS_err ha
    | ok Y => rw [ha] at h; exact badR_err l (k + 1) i e h
theorem sound_ok {x : Pgm} (h : (soundP x).2.1 = 0) : ∃ l, soundP x = (-1, 0, l) ∧ readE x = 0 ∧ badR x 0 x.rules = none ∧ stgP x = some l := by
  unfold soundP at h ⊢
  by_cases hr : readE x = 0
  · rw [if_neg (by simp [hr])] at h ⊢
    cases hb : badR x 0 x.rules with
    | some q => rw [hb] at h; obtain ⟨k, e⟩ := q; exact absurd h (badR_err _ _ _ _ hb)
    | none =>
      rw [hb] at h
      simp only at h ⊢
      cases hs : stgP x with
      | none => rw [hs] at h; cases h
      | some l => exact ⟨l, rfl, hr, trivial, rfl⟩
  · rw [if_pos hr] at h; exact absurd h hr
theorem atomS_z {p : Pgm} {X Y : Scp} {a : Atm} (h : atomS p X a = .ok Y) : relZ p.decls a.rel = (ixR p a.rel : Int) := by
  unfold atomS at h
  unfold ixR relZ
  cases hk : relI p.decls a.rel with
  | none => rw [hk] at h; cases h
  | some k => rfl
theorem atomsS_z {p : Pgm} : ∀ (l : List Atm) {X Y : Scp}, atomsS p X l = .ok Y → ∀ a, a ∈ l → relZ p.decls a.rel = (ixR p a.rel : Int)
  | [], _, _, _, a, ha => by cases ha
  | b :: l, X, Y, h, a, ha => by
    simp only [atomsS] at h
    cases hb : atomS p X b with
    | error e => rw [hb] at h; cases h
    | ok Z =>
      rw [hb, eb_ok] at h
      rcases List.mem_cons.1 ha with rfl | ha
      · exact atomS_z hb
      · exact atomsS_z l h a ha
theorem scopeS_z {p : Pgm} {r : Rul} {Y : Scp} (h : scopeS p r = .ok Y) : relZ p.decls r.head.rel = (ixR p r.head.rel : Int) ∧ ∀ a, a ∈ r.body → relZ p.decls a.rel = (ixR p a.rel : Int) := by
  unfold scopeS at h
  cases h1 : atomS p ⟨[], []⟩ r.head with
  | error e => rw [h1] at h; cases h
  | ok X =>
    rw [h1, eb_ok] at h
    cases h2 : atomsS p X r.body with
    | error e => rw [h2] at h; cases h
    | ok Z => exact ⟨atomS_z h1, atomsS_z _ h2⟩
theorem sound_rel {x : Pgm} (h : badR x 0 x.rules = none) {r : Rul} (hr : r ∈ x.rules) :
    (ixR x r.head.rel < x.decls.length ∧ relZ x.decls r.head.rel = (ixR x r.head.rel : Int)) ∧ ∀ a, a ∈ r.body → ixR x a.rel < x.decls.length ∧ relZ x.decls a.rel = (ixR x a.rel : Int) := by
  obtain ⟨Y, hY⟩ := badR_all _ _ h r hr
  have h1 := scopeS_rel hY
  have h2 := scopeS_z hY
  exact ⟨⟨h1.1, h2.1⟩, fun a ha => ⟨h1.2 a ha, h2.2 a ha⟩⟩
def iL (l : List Nat) : List (List VV) := intsL (List.map (fun n : Nat => (n : Int)) l)
theorem iL_len {l : List Nat} : (iL l).length = l.length := by simp [iL, intsL]
theorem iL_at {l : List Nat} {i : Nat} (h : i < l.length) : (iL l)[i]? = some [.int .i64 (gt l i : Int)] := by
  have := gt_eq h
  simp [iL, intsL, this]
end Go.Proofs.YtdibndmkeipgbaaDoor
set_option maxRecDepth 100000
namespace Go.Proofs.YtdibndmkeipgbaaDoor
open Go.RowKit

theorem atomS_same {p q : Pgm} (h1 : q.doms = p.doms) (h2 : q.decls = p.decls) (X : Scp) (a : Atm) : atomS q X a = atomS p X a := by
  unfold atomS; rw [h1, h2]
theorem atomsS_same {p q : Pgm} (h1 : q.doms = p.doms) (h2 : q.decls = p.decls) : ∀ (l : List Atm) (X : Scp), atomsS q X l = atomsS p X l
  | [], X => rfl
  | a :: l, X => by
    simp only [atomsS]
    rw [atomS_same h1 h2]
    cases atomS p X a with
    | error e => rfl
    | ok Y => exact atomsS_same h1 h2 l Y
theorem scopeS_same {p q : Pgm} (h1 : q.doms = p.doms) (h2 : q.decls = p.decls) (r : Rul) : scopeS q r = scopeS p r := by
  unfold scopeS
  rw [atomS_same h1 h2]
  cases atomS p ⟨[], []⟩ r.head with
  | error e => rfl
  | ok Y => simp only [eb_ok]; rw [atomsS_same h1 h2]
theorem badR_none {p : Pgm} : ∀ (l : List Rul) (k : Nat), (∀ r, r ∈ l → ∃ Y, scopeS p r = .ok Y) → badR p k l = none
  | [], _, _ => rfl
  | a :: l, k, h => by
    obtain ⟨Y, hY⟩ := h a (by simp)
    simp only [badR]
    rw [hY]
    exact badR_none l (k + 1) fun r hr => h r (by simp [hr])
theorem edgR_same {p q : Pgm} (h2 : q.decls = p.decls) (r : Rul) : edgR q r = edgR p r := by
  unfold edgR ixR; rw [h2]
theorem edgP_mem {p : Pgm} {e : Edg} (h : e ∈ edgP p) : ∃ r, r ∈ p.rules ∧ e ∈ edgR p r := by
  unfold edgP at h
  obtain ⟨l, hl, he⟩ := List.mem_flatten.1 h
  obtain ⟨r, hr, rfl⟩ := List.mem_map.1 hl
  exact ⟨r, hr, he⟩
theorem edgP_of {p : Pgm} {e : Edg} {r : Rul} (hr : r ∈ p.rules) (he : e ∈ edgR p r) : e ∈ edgP p :=
  List.mem_flatten.2 ⟨_, List.mem_map.2 ⟨r, hr, rfl⟩, he⟩
theorem edgP_InE {p : Pgm} (h : badR p 0 p.rules = none) : InE p.decls.length (edgP p) := by
  intro e he
  obtain ⟨r, hr, he⟩ := edgP_mem he
  obtain ⟨⟨h1, _⟩, h2⟩ := sound_rel h hr
  unfold edgR at he
  obtain ⟨a, ha, rfl⟩ := List.mem_map.1 he
  exact ⟨h1, (h2 a ha).1⟩
theorem pgmB_sub {x : Pgm} (h : pgmB x = true) {rs : List Rul} (hs : ∀ r, r ∈ rs → r ∈ x.rules) (hl : rs.length ≤ x.rules.length) : pgmB ⟨x.doms, x.decls, rs⟩ = true := by
  simp only [pgmB, Bool.and_eq_true, decide_eq_true_eq, List.all_eq_true] at h ⊢
  obtain ⟨⟨⟨⟨⟨h1, h2⟩, h3⟩, h4⟩, h5⟩, h6⟩ := h
  exact ⟨⟨⟨⟨⟨h1, h2⟩, by omega⟩, h4⟩, h5⟩, fun r hr => h6 r (hs r hr)⟩
theorem readE_sub {x : Pgm} (h : readE x = 0) {rs : List Rul} (hs : ∀ r, r ∈ rs → r ∈ x.rules) (hl : rs.length ≤ x.rules.length) : readE ⟨x.doms, x.decls, rs⟩ = 0 := by
  have hp := pgmB_sub (read_pgm h) hs hl
  have hp0 := read_pgm h
  unfold readE at h ⊢
  rw [hp0] at h
  rw [hp]
  exact h
/-- What is sound stays so without some of its rules, and its stages do not rise. -/
theorem sound_sub {x : Pgm} (h : (soundP x).2.1 = 0) {rs : List Rul} (hs : ∀ r, r ∈ rs → r ∈ x.rules) (hl : rs.length ≤ x.rules.length) :
    ∃ l m, soundP x = (-1, 0, l) ∧ soundP ⟨x.doms, x.decls, rs⟩ = (-1, 0, m) ∧ l.length = x.decls.length ∧ m.length = x.decls.length ∧ (∀ i, gt m i ≤ gt l i) ∧ (∀ i, i < x.decls.length → gt l i < x.decls.length) ∧ x.decls.length ≤ 32 := by
  obtain ⟨l, h1, hr, hb, hst⟩ := sound_ok h
  have hL := stg_least hst
  have hb' : badR ⟨x.doms, x.decls, rs⟩ 0 rs = none := badR_none _ _ fun r hr => by
    obtain ⟨Y, hY⟩ := badR_all _ _ hb r (hs r hr)
    exact ⟨Y, by exact (scopeS_same (p := x) (q := ⟨x.doms, x.decls, rs⟩) rfl rfl r).trans hY⟩
  have hsub : ∀ e, e ∈ edgP ⟨x.doms, x.decls, rs⟩ → e ∈ edgP x := by
    intro e he
    obtain ⟨r, hr, he⟩ := edgP_mem he
    rw [edgR_same (p := x) (q := ⟨x.doms, x.decls, rs⟩) rfl] at he
    exact edgP_of (hs r hr) he
  have hS : Sol (edgP ⟨x.doms, x.decls, rs⟩) (gt l) := sol_sub hL.2.1 hsub
  obtain ⟨m, hM⟩ := least_exists (n := x.decls.length) (fun e he => edgP_InE hb e (hsub e he)) hS hL.2.2.2
  refine ⟨l, m, h1, ?_, hL.1, hM.1, hM.2.2.1 _ hS, hL.2.2.2, (pgm_bd (read_pgm hr)).1⟩
  have hst' : stgP ⟨x.doms, x.decls, rs⟩ = some m := stg_some hM
  unfold soundP
  rw [if_neg (by rw [readE_sub hr hs hl]; simp), hb', hst']
theorem PgmOk.sub {x : Pgm} (h : PgmOk x) {rs : List Rul} (hs : ∀ r, r ∈ rs → r ∈ x.rules) (hl : rs.length ≤ x.rules.length) : PgmOk ⟨x.doms, x.decls, rs⟩ := by
  obtain ⟨h1, h2, h3, h4, h5, h6⟩ := h
  exact ⟨h1, h2, by simp only; omega, h4, h5, fun y hy => h6 y (hs y hy)⟩
end Go.Proofs.YtdibndmkeipgbaaDoor
