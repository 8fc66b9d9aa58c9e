/- What is proved: What the reader of package oo hands back, on. Conditions: those that stand in the statements. -/
import Derived.Test.YtejlknplmfmceaaZOoj
set_option linter.unusedSimpArgs false
set_option linter.unusedVariables false
namespace Go.Proofs.Ytejlknplmfmceaa
open Go.RowKit

def plainP (e : Nat) (L : List Sgn) (n : Nat) : PR Stm :=
  bnd (nameP e L n) fun first L n =>
  if isT L 0 [61] then
    if isT L.tail 0 [110, 101, 119] then bnd (nameP e L.tail.tail n) fun x L n => .ok (.mk 1 first [] [] x [] [] [], L, n)
    else bnd (nameP e L.tail n) fun src L n =>
      if isT L 0 [46] = true ∨ isT L 0 [58, 58] = true then bnd (callP e first src true L n) fun y L n => .ok (y, L, n)
      else .ok (.mk 2 first src [] [] [] [] [], L, n)
  else if isT L 0 [46] = true ∧ isT L 2 [61] = true then
    bnd (mustP e L n [46]) fun _ L n => bnd (nameP e L n) fun x L n => bnd (mustP e L n [61]) fun _ L n => bnd (nameP e L n) fun src L n =>
      .ok (.mk 4 first src [] x [] [] [], L, n)
  else bnd (callP e [] first false L n) fun y L n => .ok (y, L, n)

theorem stC_len (x : Stm) : (stC x).length = 8 := by cases x; unfold stC; rfl
theorem stC_all (x : Stm) : (stC x).all VV.one = true := by cases x; unfold stC; rfl
theorem stC_take (x : Stm) : (stC x).take 8 = stC x := by cases x; unfold stC; rfl
attribute [go_sem] stC_len stC_all stC_take

end Go.Proofs.Ytejlknplmfmceaa
