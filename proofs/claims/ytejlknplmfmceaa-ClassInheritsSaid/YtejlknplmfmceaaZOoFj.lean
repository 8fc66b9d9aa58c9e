/- What is proved: What the reader of package oo hands back: statements and blocks; What the reader of package oo hands back: blocks. Conditions: those that stand in the statements. -/
import Derived.Test.YtejlknplmfmceaaZOoE
set_option linter.unusedSimpArgs false
set_option linter.unusedVariables false
namespace Go.Proofs.Ytejlknplmfmceaa
open Go.RowKit

def stsV (l : List Stm) : VV := .lst (stsC l) .no
end Go.Proofs.Ytejlknplmfmceaa
namespace Go.Proofs.Ytejlknplmfmceaa
open Go.RowKit

theorem stsC_app (l : List Stm) (x : Stm) : stsC (l ++ [x]) = stsC l ++ [stC x] := by simp [stsC_map]
theorem stsC_len (l : List Stm) : (stsC l).length = l.length := by simp [stsC_map]
attribute [go_sem] stsC_len

end Go.Proofs.Ytejlknplmfmceaa
