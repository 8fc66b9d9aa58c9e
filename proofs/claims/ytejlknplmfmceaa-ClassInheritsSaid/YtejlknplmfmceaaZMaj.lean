/- What is proved: What package osierref15 says of one statement. Conditions: texts and lists of at most 2^47 parts; What package osierref15 counts of statements. Conditions: texts and lists of at most 2^47 parts; What package osierref15's May hands back. Conditions: texts and lists of at most 2^47 parts. Conditions: those that stand in the statements. -/
import Derived.Test.YtejlknplmfmceaaZOz
import Derived.Test.YtejlknplmfmceaaZGpj
set_option linter.unusedSimpArgs false
set_option linter.unusedVariables false
set_option maxRecDepth 100000
namespace Go.Proofs.Ytejlknplmfmceaa
open Go.RowKit

end Go.Proofs.Ytejlknplmfmceaa
set_option maxRecDepth 100000
namespace Go.Proofs.Ytejlknplmfmceaa
open Go.RowKit

/-- What so many statements are: just so many, where they may be and are few. -/
def MR (g : Bool) (tot b r : Nat) : Prop := (r ≤ 1024 → g = true ∧ r = tot) ∧ (g = true → tot ≤ 1024 → r = tot) ∧ r ≤ b
theorem MR.next {l : List Stm} {dp i n n2 : Nat} {x : Stm} (h : (n ≤ 1024 → okA (l.take i) dp = true ∧ n = totL (l.take i)) ∧ (okA (l.take i) dp = true → totL (l.take i) ≤ 1024 → n = totL (l.take i))) (hx : l[i]? = some x) (hn : n < 1048576)
    (hr : (n2 ≤ 1024 → okS x dp = true ∧ n2 = n + totS x) ∧ (okS x dp = true → n + totS x ≤ 1024 → n2 = n + totS x)) (hle : n ≤ n2) :
    (n2 ≤ 1024 → okA (l.take (i + 1)) dp = true ∧ n2 = totL (l.take (i + 1))) ∧ (okA (l.take (i + 1)) dp = true → totL (l.take (i + 1)) ≤ 1024 → n2 = totL (l.take (i + 1))) := by
  obtain ⟨h1, h2⟩ := h
  obtain ⟨r1, r2⟩ := hr
  rw [okA_tk hx, totL_tk hx]
  refine ⟨fun e => ?_, fun e1 e2 => ?_⟩
  · obtain ⟨a1, a2⟩ := r1 e
    obtain ⟨b1, b2⟩ := h1 (by omega)
    exact ⟨by rw [a1, b1]; rfl, by omega⟩
  · simp only [Bool.and_eq_true] at e1
    have := h2 e1.1 (by omega)
    have := r2 e1.2 (by omega)
    omega

theorem MR.one {k : Int} {d s c m : List UInt8} {ar : List (List UInt8)} {o t : List Stm} {dp n : Nat} (hm : mayB (.mk k d s c m ar o t) = true) (h8 : ¬ k = 8) (h9 : ¬ k = 9) :
    (n + 1 ≤ 1024 → okS (.mk k d s c m ar o t) dp = true ∧ n + 1 = n + totS (.mk k d s c m ar o t)) ∧ (okS (.mk k d s c m ar o t) dp = true → n + totS (.mk k d s c m ar o t) ≤ 1024 → n + 1 = n + totS (.mk k d s c m ar o t)) := by
  simp [okS, totS, hm, h8, h9]
end Go.Proofs.Ytejlknplmfmceaa
set_option maxRecDepth 100000
namespace Go.Proofs.Ytejlknplmfmceaa
open Go.RowKit

def MK (P : List Mth) (n : Nat) : Prop := (n ≤ 1024 → P.all (fun m => okA m.body 1) = true ∧ n = totM P) ∧ (P.all (fun m => okA m.body 1) = true → totM P ≤ 1024 → n = totM P) ∧ n ≤ 1048576
theorem MK.step {P : List Mth} {n r b : Nat} {m : Mth} (h : MK P n) (hr : MR (decide (1 ≤ 8) && okA m.body 1) (totL m.body) b r) : MK (P ++ [m]) (min 1048576 (n + r)) := by
  obtain ⟨h1, h2, h3⟩ := h
  obtain ⟨r1, r2, _⟩ := hr
  have ht : totM (P ++ [m]) = totM P + totL m.body := by rw [totM_app]; simp [totM]
  refine ⟨fun e => ?_, fun g t => ?_, by omega⟩
  · obtain ⟨a1, a2⟩ := h1 (by omega)
    obtain ⟨b1, b2⟩ := r1 (by omega)
    rw [ht, List.all_append, a1]
    simp only [Bool.and_eq_true] at b1
    exact ⟨by simpa using b1.2, by omega⟩
  · rw [ht] at t ⊢
    rw [List.all_append] at g
    simp only [Bool.and_eq_true, List.all_cons, List.all_nil, Bool.and_true] at g
    have := h2 g.1 (by omega)
    have := r2 (by rw [g.2]; rfl) (by omega)
    omega
theorem MK.fin {P : List Mth} {n : Nat} (h : MK P n) : decide ((n : Int) ≤ 1024) = (P.all (fun m => okA m.body 1) && decide (totM P ≤ 1024)) := by
  obtain ⟨h1, h2, _⟩ := h
  rw [Bool.eq_iff_iff]
  simp only [Bool.and_eq_true, decide_eq_true_eq]
  constructor
  · intro e
    obtain ⟨a, b⟩ := h1 (by omega)
    exact ⟨a, by omega⟩
  · rintro ⟨a, b⟩
    have := h2 a b
    omega

end Go.Proofs.Ytejlknplmfmceaa
