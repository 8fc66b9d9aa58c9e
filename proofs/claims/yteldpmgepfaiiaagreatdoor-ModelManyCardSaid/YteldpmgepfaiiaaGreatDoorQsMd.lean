/- Walks of functions, and plain facts. Conditions: those in the statements. -/
import Derived.Test.YteldpmgepfaiiaaGreatDoorQsRunj
set_option linter.unusedSimpArgs false
set_option linter.unusedVariables false
set_option maxRecDepth 100000
namespace Go.Proofs.YteldpmgepfaiiaaGreatDoor
open Go.RowKit
theorem Cq (a:Int)(j:Nat)(hj:j<=62):∃k:Nat,uc .i64 a (2 ^ j - 1)=(k:Int)/\k<2 ^ j:=by
 have h1:=Cn a j hj
 have hp:(0:Int)<2 ^ j:=Int.pow_pos (by decide)
 have h3:0<=a % 2 ^ j:=Int.emod_nonneg _ (by omega)
 have h4:a % 2 ^ j<2 ^ j:=Int.emod_lt_of_pos _ hp
 refine⟨(a % 2 ^ j).toNat,by rw[h1];omega,?_⟩
 have:((a % 2 ^ j).toNat:Int)<((2 ^ j:Nat):Int):=by rw[Int.toNat_of_nonneg h3];simpa using h4
 exact_mod_cast this
end Go.Proofs.YteldpmgepfaiiaaGreatDoor
