/- What is proved: What osierlaw11's awake hands back; The law RuleBack, walked. Conditions: lists and texts of at most 2^47 parts. Conditions: those that stand in the statements. -/
import Derived.Test.YtdibndmkeipgbaaGreatDoorZUrj
import Derived.Test.YtdibndmkeipgbaaGreatDoorZUk
import Derived.Test.YtdibndmkeipgbaaGreatDoorZUq
import Derived.KernelRfl
import Derived.Test.YtdibndmkeipgbaaGreatDoorZNaj
set_option linter.unusedSimpArgs false
set_option linter.unusedVariables false
set_option maxRecDepth 100000
namespace Go.Proofs.YtdibndmkeipgbaaGreatDoor
open Go.RowKit

end Go.Proofs.YtdibndmkeipgbaaGreatDoor
set_option maxRecDepth 100000
namespace Go.Proofs.YtdibndmkeipgbaaGreatDoor
open Go.RowKit

end Go.Proofs.YtdibndmkeipgbaaGreatDoor
