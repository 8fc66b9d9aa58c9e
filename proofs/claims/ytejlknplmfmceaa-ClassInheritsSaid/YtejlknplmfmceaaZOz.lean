/- What is proved: What is read of a text is a source that may be. Conditions: those that stand in the statements. -/
import Derived.Test.YtejlknplmfmceaaZOwj
set_option linter.unusedSimpArgs false
set_option linter.unusedVariables false
set_option maxRecDepth 100000
namespace Go.Proofs.Ytejlknplmfmceaa
open Go.RowKit

theorem GoodL.sub {L L' : List Sgn} (h : GoodL L) (hs : ∀ y, y ∈ L' → y ∈ L) : GoodL L' := fun x hx => h x (hs x hx)
theorem tail_sub {L : List Sgn} : ∀ y, y ∈ L.tail → y ∈ L := fun _ h => List.mem_of_mem_tail h
theorem GoodL.tail {L : List Sgn} (h : GoodL L) : GoodL L.tail := h.sub tail_sub
/-- A statement of names that may be, and holds no others. -/
def OneS (x : Stm) : Prop := mayB x = true ∧ totS x = 1 ∧ ∀ dp, okS x dp = true
theorem OneS.mk {k : Int} {d s c m : List UInt8} {ar : List (List UInt8)} {o t : List Stm} (h : mayB (.mk k d s c m ar o t) = true) (h8 : ¬ k = 8) (h9 : ¬ k = 9) : OneS (.mk k d s c m ar o t) :=
  ⟨h, by simp [totS, h8, h9], fun dp => by simp [okS, h, h8, h9]⟩
end Go.Proofs.Ytejlknplmfmceaa
