/- What is proved: What package osierref11's sameAtom and sameRule hand back. Conditions: lists of at most 2^47 parts; What package osierref11's sameRule and Same hand back. Conditions: lists of at most 2^47 parts; What package osierref11's Same hands back. Conditions: lists of at most 2^47 parts; That package osierref11's Few answers. Conditions: lists of at most 2^47 parts. Conditions: those that stand in the statements. -/
import Derived.Test.YtdibndmkeipgbaaDoorZEq
import Derived.Test.YtdibndmkeipgbaaDoorZUlj
set_option linter.unusedSimpArgs false
set_option linter.unusedVariables false
set_option maxRecDepth 100000
namespace Go.Proofs.YtdibndmkeipgbaaDoor
open Go.RowKit

end Go.Proofs.YtdibndmkeipgbaaDoor
set_option maxRecDepth 100000
namespace Go.Proofs.YtdibndmkeipgbaaDoor
open Go.RowKit

end Go.Proofs.YtdibndmkeipgbaaDoor
set_option maxRecDepth 100000
namespace Go.Proofs.YtdibndmkeipgbaaDoor
open Go.RowKit

end Go.Proofs.YtdibndmkeipgbaaDoor
set_option maxRecDepth 100000
namespace Go.Proofs.YtdibndmkeipgbaaDoor
open Go.RowKit

end Go.Proofs.YtdibndmkeipgbaaDoor
