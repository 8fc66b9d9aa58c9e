/- What is proved: Lists held against each other, part by part: plain facts. Conditions: those that stand in the statements. -/
import Derived.Test.YtdibndmkeipgbaaDoorZGpj
set_option linter.unusedSimpArgs false
set_option linter.unusedVariables false
set_option maxRecDepth 100000
namespace Go.Proofs.YtdibndmkeipgbaaDoor
open Go.RowKit

end Go.Proofs.YtdibndmkeipgbaaDoor
