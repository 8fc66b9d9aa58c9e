/- What is proved: What is so of the signs of a text: numbers are small; items are read from fewer and fewer signs. Conditions: those that stand in the statements. -/
import Derived.Test.YtbfgdblebepgcaaDoorZUi
set_option linter.unusedSimpArgs false
set_option linter.unusedVariables false
set_option maxRecDepth 100000
namespace Go.Proofs.YtbfgdblebepgcaaDoor
open Go.RowKit

theorem lexGo_all (p : Sgn → Prop) (hone : ∀ c r a, (oneK (c :: r)).2 ≠ 0 → p ⟨(oneK (c :: r)).1, (c :: r).take (oneK (c :: r)).2, a⟩) : ∀ (f : Nat) (l : List UInt8) (a : Nat) (out L : List Sgn), (∀ x, x ∈ out → p x) → out.length ≤ 4096 → lexGo f l a out = .ok L → (∀ x, x ∈ L → p x) ∧ L.length ≤ 4096
  | 0, l, at_, out, L, hg, hl, h => by simp only [lexGo] at h; injection h with h; subst h; exact ⟨hg, hl⟩
  | f + 1, l, at_, out, L, hg, hl, h => by
    simp only [lexGo] at h
    cases hd : l.drop (runN blankB l) with
    | nil => rw [hd] at h; injection h with h; subst h; exact ⟨hg, hl⟩
    | cons c r =>
      rw [hd] at h
      simp only at h
      split at h
      · exact lexGo_all p hone f _ _ _ _ hg hl h
      · split at h
        · cases h
        · rename_i h0
          split at h
          · cases h
          · rename_i hf
            refine lexGo_all p hone f _ _ _ _ ?_ (by simp; omega) h
            intro x hx
            rcases List.mem_append.1 hx with hx | hx
            · exact hg x hx
            · rw [List.mem_singleton] at hx
              subst hx
              exact hone c r _ h0
theorem decFrom_all : ∀ (l : List UInt8) (acc : Nat), (∀ c, c ∈ l → digB c = true) → ∃ n, Lib.decFrom acc l = some n
  | [], acc, _ => ⟨acc, rfl⟩
  | c :: l, acc, h => by
    have hc := h c (by simp)
    simp only [digB, Bool.and_eq_true, decide_eq_true_eq] at hc
    simp only [Lib.decFrom, Lib.digitVal, if_pos hc]
    exact decFrom_all l _ fun d hd => h d (by simp [hd])
theorem atoi_digits {c : UInt8} {l : List UInt8} (h : ∀ d, d ∈ c :: l → digB d = true) : ∃ n : Nat, Lib.atoi (c :: l) = some (n : Int) := by
  have hc := h c (by simp)
  simp only [digB, Bool.and_eq_true, decide_eq_true_eq] at hc
  obtain ⟨n, hn⟩ := decFrom_all (c :: l) 0 h
  refine ⟨n, ?_⟩
  have h1 : ¬ c = 45 := by rintro rfl; exact absurd hc.1 (by decide)
  have h2 : ¬ c = 43 := by rintro rfl; exact absurd hc.1 (by decide)
  simp [Lib.atoi, h1, h2, Lib.decNat, hn]
theorem takeRun {p : UInt8 → Bool} : ∀ (l : List UInt8), ∀ d, d ∈ l.take (runN p l) → p d = true := by
  intro l d hd
  have : l.take (runN p l) = l.takeWhile p := by
    unfold runN
    exact (List.prefix_iff_eq_take.1 (List.takeWhile_prefix p)).symm
  rw [this] at hd
  exact List.all_eq_true.1 List.all_takeWhile d hd
theorem lexSigns_goodU {s : List UInt8} {L : List Sgn} (h : lexSigns s = .ok L) : GoodU L ∧ L.length ≤ 4096 := by
  unfold lexSigns at h
  split at h
  · cases h
  · refine lexGo_all (fun x => x.kind = 2 → ∃ n : Nat, Lib.atoi x.text = some (n : Int) ∧ x.text.length ≤ 18) (fun c r a h0 hk => ?_) _ _ _ _ _ (fun x hx => by cases hx) (by simp) h
    simp only [oneK] at hk h0 ⊢
    split at hk
    · rename_i hd
      rw [if_pos hd] at h0 ⊢
      split at hk
      · exact absurd hk (by decide)
      · rename_i hn
        rw [if_neg hn] at h0 ⊢
        simp only at h0 ⊢
        have hr := takeRun (p := digB) (c :: r)
        obtain ⟨k, hk2⟩ : ∃ k, runN digB (c :: r) = k + 1 := ⟨runN digB (c :: r) - 1, by omega⟩
        rw [hk2] at hr hn ⊢
        rw [List.take_succ_cons] at hr ⊢
        obtain ⟨n, hn2⟩ := atoi_digits hr
        exact ⟨n, hn2, by simp only [List.length_cons, List.length_take]; omega⟩
    · split at hk
      · split at hk
        · exact absurd hk (by decide)
        · exact absurd hk (show ¬ (1 : Nat) = 2 by decide)
      · exact absurd hk (show ¬ (3 : Nat) = 2 by decide)

theorem ruleU_sub {e : Nat} {L L' : List Sgn} {x : Rul} (h : ruleU e L = .ok (x, L')) : L'.length < L.length ∧ ∀ y, y ∈ L' → y ∈ L := by
  unfold ruleU at h
  cases h1 : atomU e L false with
  | error q => rw [h1] at h; cases h
  | ok q =>
    obtain ⟨hd, L1⟩ := q
    obtain ⟨a1, a2⟩ := atomU_sub h1
    rw [h1, bu_ok] at h
    have hb : ∀ (f : Nat) (out : List Atm) (L : List Sgn) (xs : List Atm) (L' : List Sgn), bodyGo e f out L = .ok (xs, L') → L'.length ≤ L.length ∧ ∀ y, y ∈ L' → y ∈ L := by
      intro f
      induction f with
      | zero => intro _ _ _ _ h; cases h
      | succ f ih =>
        intro out L xs L' h
        simp only [bodyGo] at h
        cases h1 : roomU e L out.length 8 (nextB [1] L || isT L 0 [33]) with
        | error q => rw [h1] at h; cases h
        | ok q =>
          obtain ⟨u, L1⟩ := q
          obtain rfl := roomU_inv h1
          rw [h1, bu_ok] at h
          generalize hM : (if isT L1 0 [33] = true then L1.tail else L1) = M at h
          have hMs : M.length ≤ L1.length ∧ ∀ y, y ∈ M → y ∈ L1 := by
            subst hM
            split
            · exact ⟨by simp, fun y hy => List.mem_of_mem_tail hy⟩
            · exact ⟨Nat.le_refl _, fun y hy => hy⟩
          cases h2 : atomU e M (isT L1 0 [33]) with
          | error q => rw [h2] at h; cases h
          | ok q =>
            obtain ⟨x, L2⟩ := q
            obtain ⟨a1, a2⟩ := atomU_sub h2
            rw [h2, bu_ok] at h
            split at h
            · obtain ⟨b1, b2⟩ := ih _ _ _ _ h
              refine ⟨by rw [List.length_tail] at b1; omega, fun y hy => hMs.2 y (a2 y (List.mem_of_mem_tail (b2 y hy)))⟩
            · injection h with h; injection h with _ h; subst h; exact ⟨by omega, fun y hy => hMs.2 y (a2 y hy)⟩
    cases h2 : (if isT L1 0 [58, 45] = true then bodyGo e (L1.length + 1) [] L1.tail else .ok ([], L1)) with
    | error q => rw [h2] at h; cases h
    | ok q =>
      obtain ⟨bd, L2⟩ := q
      have h3 : L2.length ≤ L1.length ∧ ∀ y, y ∈ L2 → y ∈ L1 := by
        split at h2
        · obtain ⟨b1, b2⟩ := hb _ _ _ _ _ h2
          exact ⟨by rw [List.length_tail] at b1; omega, fun y hy => List.mem_of_mem_tail (b2 y hy)⟩
        · injection h2 with h2; injection h2 with _ h2; subst h2; exact ⟨Nat.le_refl _, fun y hy => hy⟩
      rw [h2, bu_ok] at h
      cases h4 : mustU e L2 [46] with
      | error q => rw [h4] at h; cases h
      | ok q =>
        obtain ⟨u, L3⟩ := q
        obtain ⟨rfl, _, c1⟩ := mustU_inv h4
        rw [h4, bu_ok] at h
        injection h with h; injection h with _ h; subst h
        exact ⟨by omega, fun y hy => a2 y (h3.2 y (List.mem_of_mem_tail hy))⟩
theorem itemU_sub {e : Nat} {x y : Pgm} {L L' : List Sgn} (h : itemU e x L = .ok (y, L')) : L'.length < L.length ∧ (∀ z, z ∈ L' → z ∈ L) ∧ y.doms.length ≤ x.doms.length + 1 ∧ y.decls.length ≤ x.decls.length + 1 ∧ y.rules.length ≤ x.rules.length + 1 := by
  unfold itemU at h
  split at h
  · unfold domU at h
    cases h1 : roomU e L x.doms.length 32 true with
    | error q => rw [h1] at h; cases h
    | ok q =>
      obtain ⟨u, L1⟩ := q
      obtain rfl := roomU_inv h1
      rw [h1, bu_ok] at h
      cases h2 : mustU e L1 [100, 111, 109] with
      | error q => rw [h2] at h; cases h
      | ok q =>
        obtain ⟨u, L2⟩ := q
        obtain ⟨rfl, _, c1⟩ := mustU_inv h2
        rw [h2, bu_ok] at h
        cases h3 : nameU e L1.tail with
        | error q => rw [h3] at h; cases h
        | ok q =>
          obtain ⟨n, L3⟩ := q
          obtain ⟨d1, d2⟩ := nameU_sub h3
          rw [h3, bu_ok] at h
          unfold numU at h
          cases h4 : kindU e L3 2 with
          | error q => rw [h4] at h; cases h
          | ok q =>
            obtain ⟨z, L4⟩ := q
            obtain ⟨e1, e2⟩ := nameU_sub h4
            rw [h4, bu_ok, bu_ok] at h
            cases h5 : mustU e L4 [46] with
            | error q => rw [h5] at h; cases h
            | ok q =>
              obtain ⟨u, L5⟩ := q
              obtain ⟨rfl, _, f1⟩ := mustU_inv h5
              rw [h5, bu_ok] at h
              injection h with h; injection h with h1 h; subst h; subst h1
              exact ⟨by omega, fun w hw => List.mem_of_mem_tail (d2 w (e2 w (List.mem_of_mem_tail hw))), by simp, by simp, by simp⟩
  · split at h
    · unfold relU at h
      cases h1 : roomU e L x.decls.length 32 true with
      | error q => rw [h1] at h; cases h
      | ok q =>
        obtain ⟨u, L1⟩ := q
        obtain rfl := roomU_inv h1
        rw [h1, bu_ok] at h
        cases h2 : mustU e L1 [114, 101, 108] with
        | error q => rw [h2] at h; cases h
        | ok q =>
          obtain ⟨u, L2⟩ := q
          obtain ⟨rfl, _, c1⟩ := mustU_inv h2
          rw [h2, bu_ok] at h
          cases h3 : nameU e L1.tail with
          | error q => rw [h3] at h; cases h
          | ok q =>
            obtain ⟨n, L3⟩ := q
            obtain ⟨d1, d2⟩ := nameU_sub h3
            rw [h3, bu_ok] at h
            cases h4 : listU e (nameU e) [1] L3 with
            | error q => rw [h4] at h; cases h
            | ok q =>
              obtain ⟨z, L4⟩ := q
              obtain ⟨e1, e2⟩ := listU_sub (fun L x L' h => nameU_sub h) h4
              rw [h4, bu_ok] at h
              cases h5 : mustU e L4 [46] with
              | error q => rw [h5] at h; cases h
              | ok q =>
                obtain ⟨u, L5⟩ := q
                obtain ⟨rfl, _, f1⟩ := mustU_inv h5
                rw [h5, bu_ok] at h
                injection h with h; injection h with h1 h; subst h; subst h1
                exact ⟨by omega, fun w hw => List.mem_of_mem_tail (d2 w (e2 w (List.mem_of_mem_tail hw))), by simp, by simp, by simp⟩
    · unfold rulU at h
      cases h1 : roomU e L x.rules.length 64 (nextB [1] L) with
      | error q => rw [h1] at h; cases h
      | ok q =>
        obtain ⟨u, L1⟩ := q
        obtain rfl := roomU_inv h1
        rw [h1, bu_ok] at h
        cases h2 : ruleU e L1 with
        | error q => rw [h2] at h; cases h
        | ok q =>
          obtain ⟨z, L2⟩ := q
          obtain ⟨e1, e2⟩ := ruleU_sub h2
          rw [h2, bu_ok] at h
          injection h with h; injection h with h1 h; subst h; subst h1
          exact ⟨e1, e2, by simp, by simp, by simp⟩
end Go.Proofs.YtbfgdblebepgcaaDoor
