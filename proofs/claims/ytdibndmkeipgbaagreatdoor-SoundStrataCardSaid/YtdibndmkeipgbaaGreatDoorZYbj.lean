/- What is proved: Stages: the least that solve a list of demands: plain facts; Stages by the document's own rounds: plain facts. Conditions: those that stand in the statements. Conditions: those that stand in the statements. -/
import Derived.Test.YtdibndmkeipgbaaGreatDoorZFzj
set_option linter.unusedSimpArgs false
set_option linter.unusedVariables false
set_option maxRecDepth 100000
namespace Go.Proofs.YtdibndmkeipgbaaGreatDoor
open Go.RowKit

/-- A demand: the head's stage is no less than the body's, with so much added. -/
structure Edg where
  h : Nat
  b : Nat
  w : Nat
def Sol (E : List Edg) (f : Nat → Nat) : Prop := ∀ e, e ∈ E → f e.b + e.w ≤ f e.h
def InE (n : Nat) (E : List Edg) : Prop := ∀ e, e ∈ E → e.h < n ∧ e.b < n
def gt (l : List Nat) (i : Nat) : Nat := l[i]?.getD 0
/-- Below every solution. -/
def Under (E : List Edg) (l : List Nat) : Prop := ∀ f, Sol E f → ∀ i, gt l i ≤ f i
def Least (n : Nat) (E : List Edg) (l : List Nat) : Prop := l.length = n ∧ Sol E (gt l) ∧ Under E l ∧ ∀ i, i < n → gt l i < n
def NoSol (n : Nat) (E : List Edg) : Prop := ∀ f, Sol E f → ∃ i, i < n ∧ n ≤ f i
theorem gt_eq {l : List Nat} {i : Nat} (h : i < l.length) : l[i]? = some (gt l i) := by
  unfold gt; rw [List.getElem?_eq_getElem h]; rfl
theorem gt_out {l : List Nat} {i : Nat} (h : l.length ≤ i) : gt l i = 0 := by
  unfold gt; rw [List.getElem?_eq_none h]; rfl
theorem gt_set {l : List Nat} {i j v : Nat} (h : i < l.length) : gt (l.set i v) j = if j = i then v else gt l j := by
  unfold gt
  rw [List.getElem?_set]
  by_cases e : i = j
  · subst e; rw [if_pos rfl, if_pos rfl, if_pos h]; rfl
  · rw [if_neg e, if_neg (fun x => e x.symm)]
theorem least_one {n : Nat} {E : List Edg} {l m : List Nat} (h : Least n E l) (k : Least n E m) : l = m := by
  apply List.ext_getElem?
  intro i
  by_cases hi : i < n
  · rw [gt_eq (by rw [h.1]; exact hi), gt_eq (by rw [k.1]; exact hi)]
    have h1 := h.2.2.1 _ k.2.1 i
    have h2 := k.2.2.1 _ h.2.1 i
    congr 1; omega
  · rw [List.getElem?_eq_none (by rw [h.1]; omega), List.getElem?_eq_none (by rw [k.1]; omega)]
open Classical in
noncomputable def stg (n : Nat) (E : List Edg) : Option (List Nat) := if h : ∃ l, Least n E l then some h.choose else none
theorem stg_some {n : Nat} {E : List Edg} {l : List Nat} (h : Least n E l) : stg n E = some l := by
  unfold stg
  rw [dif_pos ⟨l, h⟩]
  congr 1
  exact least_one (Exists.choose_spec (p := fun l => Least n E l) ⟨l, h⟩) h
theorem stg_least {n : Nat} {E : List Edg} {l : List Nat} (h : stg n E = some l) : Least n E l := by
  unfold stg at h
  split at h
  · rename_i hx
    injection h with h
    rw [← h]
    exact hx.choose_spec
  · cases h
theorem stg_none {n : Nat} {E : List Edg} (h : NoSol n E) : stg n E = none := by
  unfold stg
  rw [dif_neg]
  rintro ⟨l, hl⟩
  obtain ⟨i, hi, hn⟩ := h _ hl.2.1
  have := hl.2.2.2 i hi
  omega
theorem under_zero (E : List Edg) (n : Nat) : Under E (List.replicate n 0) := fun f _ i => by
  have : gt (List.replicate n 0) i = 0 := by
    unfold gt
    rw [List.getElem?_replicate]
    split <;> rfl
  omega
theorem under_set {E : List Edg} {l : List Nat} {e : Edg} (h : Under E l) (he : e ∈ E) (hl : e.h < l.length) : Under E (l.set e.h (gt l e.b + e.w)) := fun f hf i => by
  rw [gt_set hl]
  split
  · rename_i hi
    subst hi
    have h1 := h f hf e.b
    have h2 := hf e he
    omega
  · exact h f hf i
theorem under_nosol {n : Nat} {E : List Edg} {l : List Nat} {i : Nat} (h : Under E l) (hi : i < n) (hn : n ≤ gt l i) : NoSol n E := fun f hf => ⟨i, hi, Nat.le_trans hn (h f hf i)⟩
theorem sum_le {n m : Nat} : ∀ (l : List Nat), l.length = n → (∀ i, i < n → gt l i ≤ m) → l.sum ≤ n * m := by
  induction n with
  | zero => intro l hl _; have := List.eq_nil_of_length_eq_zero hl; subst this; simp
  | succ n ih =>
    intro l hl h
    cases l with
    | nil => simp at hl
    | cons x l =>
      have h0 := h 0 (by omega)
      have h1 := ih l (by simpa using hl) (fun i hi => by have := h (i + 1) (by omega); simpa [gt] using this)
      simp only [gt, List.getElem?_cons_zero, Option.getD_some] at h0
      rw [List.sum_cons, Nat.succ_mul]
      omega
theorem sum_set : ∀ (l : List Nat) (i v : Nat), i < l.length → (l.set i v).sum + gt l i = l.sum + v
  | [], i, v, h => by simp at h
  | x :: l, 0, v, h => by simp [gt]; omega
  | x :: l, i + 1, v, h => by
    have := sum_set l i v (by simpa using h)
    simp only [List.set_cons_succ, List.sum_cons, gt, List.getElem?_cons_succ] at this ⊢
    omega
end Go.Proofs.YtdibndmkeipgbaaGreatDoor
set_option maxRecDepth 100000
namespace Go.Proofs.YtdibndmkeipgbaaGreatDoor
open Go.RowKit

def rise1 (l : List Nat) (e : Edg) : List Nat := l.set e.h (max (gt l e.h) (gt l e.b + e.w))
def risesL (E : List Edg) (l : List Nat) : List Nat := E.foldl rise1 l
def overB (n : Nat) (l : List Nat) : Bool := l.any fun v => decide (n ≤ v)
/-- The rounds, so many at most. -/
def stgR (n : Nat) (E : List Edg) : Nat → List Nat → Option (List Nat)
  | 0, _ => none
  | f + 1, l => if overB n (risesL E l) = true then none else if risesL E l = l then some l else stgR n E f (risesL E l)
theorem rise1_len {l : List Nat} {e : Edg} : (rise1 l e).length = l.length := by simp [rise1]
theorem risesL_len {E : List Edg} : ∀ {l : List Nat}, (risesL E l).length = l.length := by
  unfold risesL
  induction E with
  | nil => intro l; rfl
  | cons e E ih => intro l; rw [List.foldl_cons, ih, rise1_len]
theorem rise1_ge {l : List Nat} {e : Edg} (i : Nat) : gt l i ≤ gt (rise1 l e) i := by
  unfold rise1
  by_cases h : e.h < l.length
  · rw [gt_set h]
    split
    · rename_i h2; subst h2; exact Nat.le_max_left _ _
    · exact Nat.le_refl _
  · rw [List.set_eq_of_length_le (by omega)]; exact Nat.le_refl _
theorem risesL_ge {E : List Edg} : ∀ {l : List Nat} (i : Nat), gt l i ≤ gt (risesL E l) i := by
  unfold risesL
  induction E with
  | nil => intro l i; exact Nat.le_refl _
  | cons e E ih => intro l i; rw [List.foldl_cons]; exact Nat.le_trans (rise1_ge i) (ih i)
theorem rise1_under {E : List Edg} {l : List Nat} {e : Edg} (h : Under E l) (he : e ∈ E) (hl : e.h < l.length) : Under E (rise1 l e) := fun f hf i => by
  unfold rise1
  rw [gt_set hl]
  split
  · rename_i hi
    subst hi
    have h1 := h f hf e.b
    have h2 := hf e he
    have h3 := h f hf e.h
    omega
  · exact h f hf i
theorem rises_under {E : List Edg} {n : Nat} (hE : InE n E) : ∀ (F : List Edg) {l : List Nat}, (∀ e, e ∈ F → e ∈ E) → l.length = n → Under E l → Under E (risesL F l)
  | [], l, _, _, h => h
  | e :: F, l, hs, hl, h => by
    show Under E (risesL F (rise1 l e))
    have he := hs e (by simp)
    exact rises_under hE F (fun x hx => hs x (by simp [hx])) (by rw [rise1_len]; exact hl) (rise1_under h he (by rw [hl]; exact (hE e he).1))
theorem lst_gt {l m : List Nat} (hl : l.length = m.length) (h : ∀ i, i < l.length → gt l i = gt m i) : l = m := by
  apply List.ext_getElem?
  intro i
  by_cases hi : i < l.length
  · rw [gt_eq hi, gt_eq (by omega), h i hi]
  · rw [List.getElem?_eq_none (by omega), List.getElem?_eq_none (by omega)]
theorem rises_fix : ∀ (E : List Edg) {l : List Nat}, (∀ e, e ∈ E → e.h < l.length) → risesL E l = l → Sol E (gt l)
  | [], l, _, _ => fun e he => by cases he
  | e :: E, l, hh, h => by
    have h0 : risesL E (rise1 l e) = l := h
    have hr : rise1 l e = l := by
      refine lst_gt rise1_len fun i _ => ?_
      have h1 := rise1_ge (l := l) (e := e) i
      have h2 := risesL_ge (E := E) (l := rise1 l e) i
      rw [h0] at h2
      omega
    rw [hr] at h0
    have ih := rises_fix E (fun x hx => hh x (by simp [hx])) h0
    intro x hx
    rcases List.mem_cons.1 hx with rfl | hx
    · have h3 := gt_set (l := l) (i := x.h) (j := x.h) (v := max (gt l x.h) (gt l x.b + x.w)) (hh x (by simp))
      rw [if_pos rfl] at h3
      have h4 : gt (rise1 l x) x.h = max (gt l x.h) (gt l x.b + x.w) := h3
      rw [hr] at h4
      omega
    · exact ih x hx
theorem sum_lt : ∀ {l m : List Nat}, l.length = m.length → (∀ i, gt l i ≤ gt m i) → l.sum ≤ m.sum ∧ (l ≠ m → l.sum < m.sum)
  | [], [], _, _ => ⟨Nat.le_refl _, fun h => absurd rfl h⟩
  | [], _ :: _, h, _ => by cases h
  | _ :: _, [], h, _ => by cases h
  | a :: l, b :: m, hl, h => by
    have h0 := h 0
    simp only [gt, List.getElem?_cons_zero, Option.getD_some] at h0
    obtain ⟨h1, h2⟩ := sum_lt (l := l) (m := m) (by simpa using hl) (fun i => by have := h (i + 1); simpa [gt] using this)
    simp only [List.sum_cons]
    refine ⟨by omega, fun hne => ?_⟩
    by_cases e : a = b
    · subst e
      have := h2 (fun e2 => hne (by rw [e2]))
      omega
    · omega
theorem over_ex {n : Nat} {l : List Nat} (h : overB n l = true) : ∃ i, i < l.length ∧ n ≤ gt l i := by
  unfold overB at h
  rw [List.any_eq_true] at h
  obtain ⟨v, hv, hn⟩ := h
  obtain ⟨i, hi, e⟩ := List.getElem_of_mem hv
  refine ⟨i, hi, ?_⟩
  have := gt_eq hi
  rw [List.getElem?_eq_getElem hi, e] at this
  injection this with this
  rw [← this]; simpa using hn
theorem over_no {n : Nat} {l : List Nat} (h : ¬ overB n l = true) {i : Nat} (hi : i < l.length) : gt l i < n := by
  apply Nat.lt_of_not_le
  intro hn
  apply h
  unfold overB
  rw [List.any_eq_true]
  refine ⟨gt l i, ?_, by simpa using hn⟩
  exact List.mem_of_getElem? (gt_eq hi)
/-- The rounds come to the least stages, if they may be so many. -/
theorem stgR_stg {n : Nat} {E : List Edg} (hE : InE n E) : ∀ (f : Nat) (l : List Nat), l.length = n → Under E l → (∀ i, i < n → gt l i < n) → n * n < l.sum + f → stgR n E f l = stg n E
  | 0, l, hl, hu, hlt, hs => by
    exfalso
    have := sum_le (n := n) (m := n) l hl (fun i hi => Nat.le_of_lt (hlt i hi))
    omega
  | f + 1, l, hl, hu, hlt, hs => by
    have hu2 : Under E (risesL E l) := rises_under hE E (fun _ h => h) hl hu
    unfold stgR
    by_cases ho : overB n (risesL E l) = true
    · rw [if_pos ho]
      obtain ⟨i, hi, hn⟩ := over_ex ho
      rw [risesL_len, hl] at hi
      exact (stg_none (under_nosol hu2 hi hn)).symm
    · rw [if_neg ho]
      by_cases he : risesL E l = l
      · rw [if_pos he]
        exact (stg_some ⟨hl, rises_fix E (fun e h => by rw [hl]; exact (hE e h).1) he, hu, hlt⟩).symm
      · rw [if_neg he]
        have h1 := (sum_lt (l := l) (m := risesL E l) risesL_len.symm (fun i => risesL_ge i)).2 (fun x => he x.symm)
        exact stgR_stg hE f _ (by rw [risesL_len]; exact hl) hu2 (fun i hi => over_no ho (by rw [risesL_len, hl]; exact hi)) (by omega)
theorem stgR_all {n : Nat} {E : List Edg} (hE : InE n E) (hn : n ≤ 32) : stgR n E 1640 (List.replicate n 0) = stg n E := by
  have hg : ∀ i, gt (List.replicate n 0) i = 0 := by
    intro i
    unfold gt
    rw [List.getElem?_replicate]
    split <;> rfl
  refine stgR_stg hE 1640 _ (by simp) (under_zero _ _) (fun i hi => by rw [hg]; omega) ?_
  have : n * n ≤ 32 * 32 := Nat.mul_le_mul hn hn
  omega
end Go.Proofs.YtdibndmkeipgbaaGreatDoor
