/- What is proved: What the reader of package oo hands back, on. Conditions: those that stand in the statements. -/
import Derived.Test.YtbfgdblebepgcaaDoorZOoB
set_option linter.unusedSimpArgs false
set_option linter.unusedVariables false
namespace Go.Proofs.YtbfgdblebepgcaaDoor
open Go.RowKit

inductive WkL : List VV → List VV → Prop
  | nil : WkL [] []
  | same (x : VV) {xs ys : List VV} (h : WkL xs ys) : WkL (x :: xs) (x :: ys)
  | lst (l : List (List VV)) (o : Own) {xs ys : List VV} (h : WkL xs ys) : WkL (.lst l o :: xs) (.lst l .no :: ys)
theorem WkL.len {xs ys : List VV} (h : WkL xs ys) : xs.length = ys.length := by
  induction h with
  | nil => rfl
  | same x h ih => simp [ih]
  | lst l o h ih => simp [ih]
theorem WkL.get {xs ys : List VV} (h : WkL xs ys) : ∀ (j : Nat) (y : VV), ys[j]? = some y → ∃ x, xs[j]? = some x ∧ Wk x y ∧ (x.one = true → y.one = true) := by
  induction h with
  | nil => intro j y hy; simp at hy
  | same x h ih =>
    intro j y hy
    cases j with
    | zero => simp at hy; subst hy; exact ⟨x, rfl, Wk.refl _, id⟩
    | succ j => simpa using ih j y (by simpa using hy)
  | lst l o h ih =>
    intro j y hy
    cases j with
    | zero => simp at hy; subst hy; exact ⟨_, rfl, Wk.lst _ _, id⟩
    | succ j => simpa using ih j y (by simpa using hy)
theorem Wk.agg {xs ys : List VV} (h : WkL xs ys) : Wk (.agg xs) (.agg ys) := by
  intro G v hv
  cases hv with
  | agg vs xs hs h1 hR =>
    refine .agg vs ys (hs.trans h.len) (fun y hy => ?_) fun j v y hv hy => ?_
    · obtain ⟨j, hj, e⟩ := List.mem_iff_getElem.1 hy
      obtain ⟨x, hx, _, hw⟩ := h.get j y (by rw [← e]; exact List.getElem?_eq_getElem hj)
      exact hw (h1 x (List.mem_of_getElem? hx))
    · obtain ⟨x, hx, hw, _⟩ := h.get j y hy
      exact hw G v (hR j v x hv hx)

/-- A statement. -/
inductive Stm where
  | mk (kind : Int) (dst src cls nm : List UInt8) (args : List (List UInt8)) (one two : List Stm)
mutual
def stC : Stm → List VV
  | .mk k d s c m ar o t => [.int .i64 k, .str d, .str s, .str c, .str m, strsV ar, .lst (stsC o) .no, .lst (stsC t) .no]
def stsC : List Stm → List (List VV)
  | [] => []
  | x :: l => stC x :: stsC l
end
theorem stsC_map : ∀ l : List Stm, stsC l = l.map stC
  | [] => rfl
  | x :: l => by simp [stsC, stsC_map l]
def stV (x : Stm) : VV := .agg (stC x)

theorem set_free {s : St} {b x : Nat} {T : TypeId} {xs : List VV} (h : (s.set b (.obj T xs)) x = .free) : (x = b) = False ∧ (b = x) = False ∧ s x = .free := by
  simp only [St.set] at h
  split at h
  · cases h
  · rename_i hb; exact ⟨eq_false hb, eq_false (Ne.symm hb), h⟩
theorem Fg.set_any {s1 s : St} (h : Fg s1 s) {b : Nat} {c : Cell} (hb : s b = .free) : Fg (s1.set b c) s := fun x => by
  by_cases hx : x = b
  · subst hx; exact .inl hb
  · rw [St.set_other _ _ hx]; exact h x
theorem Fg.set1 {s : St} {b : Nat} {c : Cell} (h : s b = .free) : Fg (s.set b c) s := Fg.of_set c h

theorem wk_st {xs : List VV} {k : Nat} {d s c m : List UInt8} {ar : List (List UInt8)} {o t : List Stm} (h : WkL xs [.int .i64 k, .str d, .str s, .str c, .str m, strsV ar, .lst (stsC o) .no, .lst (stsC t) .no]) :
    Wk (.agg xs) (stV (.mk k d s c m ar o t)) := by
  unfold stV stC
  exact Wk.agg h

def callP (e : Nat) (dst nm : List UInt8) (load : Bool) (L : List Sgn) (n : Nat) : PR Stm :=
  if isT L 0 [58, 58] then bnd (nameP e L.tail n) fun x L n => bnd (namesP e L n) fun ar L n => .ok (.mk 6 dst [] nm x ar [] [], L, n)
  else bnd (mustP e L n [46]) fun _ L n => bnd (nameP e L n) fun x L n =>
    if load = true ∧ isT L 0 [40] = false then .ok (.mk 3 dst nm [] x [] [] [], L, n)
    else bnd (namesP e L n) fun ar L n => .ok (.mk 5 dst nm [] x ar [] [], L, n)

end Go.Proofs.YtbfgdblebepgcaaDoor
