/- What is proved: What the reader of package oo hands back; What the reader of package oo hands back, on; What the reader of package oo hands back, on. Conditions: those that stand in the statements. -/
import Derived.Test.YtdibndmkeipgbaaGreatDoorZLexj
set_option linter.unusedSimpArgs false
set_option linter.unusedVariables false
namespace Go.Proofs.YtdibndmkeipgbaaGreatDoor
open Go.RowKit

def isT (L : List Sgn) (a : Nat) (t : List UInt8) : Bool := match L[a]? with | some x => decide (x.text = t) | none => false
def place (e : Nat) : List Sgn → Nat
  | [] => e
  | x :: _ => x.at_
end Go.Proofs.YtdibndmkeipgbaaGreatDoor
namespace Go.Proofs.YtdibndmkeipgbaaGreatDoor
open Go.RowKit

def strC (x : List UInt8) : List VV := [.str x]
def strsV (l : List (List UInt8)) : VV := .lst (l.map strC) .no

end Go.Proofs.YtdibndmkeipgbaaGreatDoor
namespace Go.Proofs.YtdibndmkeipgbaaGreatDoor
open Go.RowKit

inductive WkL : List VV → List VV → Prop
  | nil : WkL [] []
  | same (x : VV) {xs ys : List VV} (h : WkL xs ys) : WkL (x :: xs) (x :: ys)
  | lst (l : List (List VV)) (o : Own) {xs ys : List VV} (h : WkL xs ys) : WkL (.lst l o :: xs) (.lst l .no :: ys)
theorem WkL.len {xs ys : List VV} (h : WkL xs ys) : xs.length = ys.length := by
  induction h with
  | nil => rfl
  | same x h ih => simp [ih]
  | lst l o h ih => simp [ih]
theorem WkL.get {xs ys : List VV} (h : WkL xs ys) : ∀ (j : Nat) (y : VV), ys[j]? = some y → ∃ x, xs[j]? = some x ∧ Wk x y ∧ (x.one = true → y.one = true) := by
  induction h with
  | nil => intro j y hy; simp at hy
  | same x h ih =>
    intro j y hy
    cases j with
    | zero => simp at hy; subst hy; exact ⟨x, rfl, Wk.refl _, id⟩
    | succ j => simpa using ih j y (by simpa using hy)
  | lst l o h ih =>
    intro j y hy
    cases j with
    | zero => simp at hy; subst hy; exact ⟨_, rfl, Wk.lst _ _, id⟩
    | succ j => simpa using ih j y (by simpa using hy)
theorem Wk.agg {xs ys : List VV} (h : WkL xs ys) : Wk (.agg xs) (.agg ys) := by
  intro G v hv
  cases hv with
  | agg vs xs hs h1 hR =>
    refine .agg vs ys (hs.trans h.len) (fun y hy => ?_) fun j v y hv hy => ?_
    · obtain ⟨j, hj, e⟩ := List.mem_iff_getElem.1 hy
      obtain ⟨x, hx, _, hw⟩ := h.get j y (by rw [← e]; exact List.getElem?_eq_getElem hj)
      exact hw (h1 x (List.mem_of_getElem? hx))
    · obtain ⟨x, hx, hw, _⟩ := h.get j y hy
      exact hw G v (hR j v x hv hx)

/-- A statement. -/
inductive Stm where
  | mk (kind : Int) (dst src cls nm : List UInt8) (args : List (List UInt8)) (one two : List Stm)
mutual
def stC : Stm → List VV
  | .mk k d s c m ar o t => [.int .i64 k, .str d, .str s, .str c, .str m, strsV ar, .lst (stsC o) .no, .lst (stsC t) .no]
def stsC : List Stm → List (List VV)
  | [] => []
  | x :: l => stC x :: stsC l
end
theorem set_free {s : St} {b x : Nat} {T : TypeId} {xs : List VV} (h : (s.set b (.obj T xs)) x = .free) : (x = b) = False ∧ (b = x) = False ∧ s x = .free := by
  simp only [St.set] at h
  split at h
  · cases h
  · rename_i hb; exact ⟨eq_false hb, eq_false (Ne.symm hb), h⟩
end Go.Proofs.YtdibndmkeipgbaaGreatDoor
