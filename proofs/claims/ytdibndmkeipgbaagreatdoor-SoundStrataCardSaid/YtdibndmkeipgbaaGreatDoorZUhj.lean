/- What is proved: An item of a program, as it is read: a relation; An item of a program, as it is read: a rule; and any; What is so of the signs of a text: numbers are small; items are read from fewer and fewer signs. Conditions: those that stand in the statements. -/
import Derived.Test.YtdibndmkeipgbaaGreatDoorZUfj
set_option linter.unusedSimpArgs false
set_option linter.unusedVariables false
set_option maxRecDepth 100000
namespace Go.Proofs.YtdibndmkeipgbaaGreatDoor
open Go.RowKit
theorem owned_other {s : St} {o o2 : Own} {T T' sz sz' n m : Nat} (h : OwnOk (s.own o2 T sz n) o m) (h2 : OwnOk s o2 n) : Owned ((s.own o2 T sz n).own o T' sz' m) o2 T sz n = True := by
  apply eq_true
  cases o2 with
  | no => exact h2
  | full => exact h2
  | at_ y =>
    cases o with
    | at_ x =>
      simp only [OwnOk, own_fr] at h
      simp only [NotOwn] at h
      have h' : ¬ y = x := fun e => h.1 e.symm
      simp [Owned, St.own, St.set, h']
    | _ => simp [Owned, St.own, St.set]
attribute [local go_sem] owned_other disown_other
end Go.Proofs.YtdibndmkeipgbaaGreatDoor
set_option maxRecDepth 100000
namespace Go.Proofs.YtdibndmkeipgbaaGreatDoor
open Go.RowKit
end Go.Proofs.YtdibndmkeipgbaaGreatDoor
set_option maxRecDepth 100000
namespace Go.Proofs.YtdibndmkeipgbaaGreatDoor
open Go.RowKit

theorem lexGo_all (p : Sgn → Prop) (hone : ∀ c r a, (oneK (c :: r)).2 ≠ 0 → p ⟨(oneK (c :: r)).1, (c :: r).take (oneK (c :: r)).2, a⟩) : ∀ (f : Nat) (l : List UInt8) (a : Nat) (out L : List Sgn), (∀ x, x ∈ out → p x) → out.length ≤ 4096 → lexGo f l a out = .ok L → (∀ x, x ∈ L → p x) ∧ L.length ≤ 4096
  | 0, l, at_, out, L, hg, hl, h => by simp only [lexGo] at h; injection h with h; subst h; exact ⟨hg, hl⟩
  | f + 1, l, at_, out, L, hg, hl, h => by
    simp only [lexGo] at h
    cases hd : l.drop (runN blankB l) with
    | nil => rw [hd] at h; injection h with h; subst h; exact ⟨hg, hl⟩
    | cons c r =>
      rw [hd] at h
      simp only at h
      split at h
      · exact lexGo_all p hone f _ _ _ _ hg hl h
      · split at h
        · cases h
        · rename_i h0
          split at h
          · cases h
          · rename_i hf
            refine lexGo_all p hone f _ _ _ _ ?_ (by simp; omega) h
            intro x hx
            rcases List.mem_append.1 hx with hx | hx
            · exact hg x hx
            · rw [List.mem_singleton] at hx
              subst hx
              exact hone c r _ h0
theorem decFrom_all : ∀ (l : List UInt8) (acc : Nat), (∀ c, c ∈ l → digB c = true) → ∃ n, Lib.decFrom acc l = some n
  | [], acc, _ => ⟨acc, rfl⟩
  | c :: l, acc, h => by
    have hc := h c (by simp)
    simp only [digB, Bool.and_eq_true, decide_eq_true_eq] at hc
    simp only [Lib.decFrom, Lib.digitVal, if_pos hc]
    exact decFrom_all l _ fun d hd => h d (by simp [hd])
theorem atoi_digits {c : UInt8} {l : List UInt8} (h : ∀ d, d ∈ c :: l → digB d = true) : ∃ n : Nat, Lib.atoi (c :: l) = some (n : Int) := by
  have hc := h c (by simp)
  simp only [digB, Bool.and_eq_true, decide_eq_true_eq] at hc
  obtain ⟨n, hn⟩ := decFrom_all (c :: l) 0 h
  refine ⟨n, ?_⟩
  have h1 : ¬ c = 45 := by rintro rfl; exact absurd hc.1 (by decide)
  have h2 : ¬ c = 43 := by rintro rfl; exact absurd hc.1 (by decide)
  simp [Lib.atoi, h1, h2, Lib.decNat, hn]
theorem takeRun {p : UInt8 → Bool} : ∀ (l : List UInt8), ∀ d, d ∈ l.take (runN p l) → p d = true := by
  intro l d hd
  have : l.take (runN p l) = l.takeWhile p := by
    unfold runN
    exact (List.prefix_iff_eq_take.1 (List.takeWhile_prefix p)).symm
  rw [this] at hd
  exact List.all_eq_true.1 List.all_takeWhile d hd
theorem lexSigns_goodU {s : List UInt8} {L : List Sgn} (h : lexSigns s = .ok L) : GoodU L ∧ L.length ≤ 4096 := by
  unfold lexSigns at h
  split at h
  · cases h
  · refine lexGo_all (fun x => x.kind = 2 → ∃ n : Nat, Lib.atoi x.text = some (n : Int) ∧ x.text.length ≤ 18) (fun c r a h0 hk => ?_) _ _ _ _ _ (fun x hx => by cases hx) (by simp) h
    simp only [oneK] at hk h0 ⊢
    split at hk
    · rename_i hd
      rw [if_pos hd] at h0 ⊢
      split at hk
      · exact absurd hk (by decide)
      · rename_i hn
        rw [if_neg hn] at h0 ⊢
        simp only at h0 ⊢
        have hr := takeRun (p := digB) (c :: r)
        obtain ⟨k, hk2⟩ : ∃ k, runN digB (c :: r) = k + 1 := ⟨runN digB (c :: r) - 1, by omega⟩
        rw [hk2] at hr hn ⊢
        rw [List.take_succ_cons] at hr ⊢
        obtain ⟨n, hn2⟩ := atoi_digits hr
        exact ⟨n, hn2, by simp only [List.length_cons, List.length_take]; omega⟩
    · split at hk
      · split at hk
        · exact absurd hk (by decide)
        · exact absurd hk (show ¬ (1 : Nat) = 2 by decide)
      · exact absurd hk (show ¬ (3 : Nat) = 2 by decide)

end Go.Proofs.YtdibndmkeipgbaaGreatDoor
