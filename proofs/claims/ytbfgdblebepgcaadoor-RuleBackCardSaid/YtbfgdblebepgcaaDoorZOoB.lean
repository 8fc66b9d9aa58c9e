/- What is proved: What the reader of package oo hands back, on. Conditions: those that stand in the statements. -/
import Derived.Test.YtbfgdblebepgcaaDoorZOo
set_option linter.unusedSimpArgs false
set_option linter.unusedVariables false
namespace Go.Proofs.YtbfgdblebepgcaaDoor
open Go.RowKit

def bnd {α β : Type} (x : PR α) (k : α → List Sgn → Nat → PR β) : PR β :=
  match x with
  | .ok (a, L, n) => k a L n
  | .error y => .error y
theorem bnd_ok {α β : Type} {a : α} {L : List Sgn} {n : Nat} {k : α → List Sgn → Nat → PR β} : bnd (.ok (a, L, n)) k = k a L n := rfl
theorem bnd_err {α β : Type} {x : Nat × Nat} {k : α → List Sgn → Nat → PR β} : bnd (.error x) k = .error x := rfl

theorem bnd_assoc {α β γ : Type} {x : PR α} {k : α → List Sgn → Nat → PR β} {k' : β → List Sgn → Nat → PR γ} : bnd (bnd x k) k' = bnd x fun a L n => bnd (k a L n) k' := by
  cases x with
  | error y => rfl
  | ok v => rfl
def strC (x : List UInt8) : List VV := [.str x]
def strsV (l : List (List UInt8)) : VV := .lst (l.map strC) .no

def namesGo (e : Nat) : Nat → List (List UInt8) → List Sgn → Nat → PR (List (List UInt8))
  | 0, out, L, n => .ok (out, L, n)
  | f + 1, out, L, n =>
    if isT L 0 [41] then .ok (out, L.tail, n)
    else bnd (if 0 < out.length then mustP e L n [44] else .ok ((), L, n)) fun _ L n =>
      bnd (roomP e L n out.length 8 (namedB L)) fun _ L n =>
      bnd (nameP e L n) fun x L n => namesGo e f (out ++ [x]) L n
def namesP (e : Nat) (L : List Sgn) (n : Nat) : PR (List (List UInt8)) := bnd (mustP e L n [40]) fun _ L n => namesGo e (L.length + 1) [] L n

theorem mustP_len {e : Nat} {L L' : List Sgn} {n n' : Nat} {t : List UInt8} (h : mustP e L n t = .ok ((), L', n')) : L'.length + 1 = L.length ∧ n' = n := by
  unfold mustP at h
  split at h
  · injection h with h; injection h with h1 h2; injection h2 with h2 h3
    subst h2; subst h3
    cases L with
    | nil => rename_i h; simp [isT] at h
    | cons x L => simp
  · cases h
theorem nameP_len {e : Nat} {L L' : List Sgn} {n n' : Nat} {x : List UInt8} (h : nameP e L n = .ok (x, L', n')) : L'.length + 1 = L.length ∧ n' = n := by
  unfold nameP at h
  split at h
  · cases h
  · split at h
    · injection h with h; injection h with h1 h2; injection h2 with h2 h3
      subst h2; subst h3; simp
    · cases h
theorem roomP_eq {e : Nat} {L L' : List Sgn} {n n' a b : Nat} {t : Bool} (h : roomP e L n a b t = .ok ((), L', n')) : L' = L ∧ n' = n := by
  unfold roomP at h
  split at h
  · cases h
  · injection h with h; injection h with h1 h2; injection h2 with h2 h3
    exact ⟨h2.symm, h3.symm⟩

end Go.Proofs.YtbfgdblebepgcaaDoor
