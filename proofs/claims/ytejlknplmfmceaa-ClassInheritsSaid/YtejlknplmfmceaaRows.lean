/-
  NARROWER THAN 'FOR EVERY INPUT', by the rows' own cells (each row's printed sentence says how): ClassInherits: loops · ClassTurns: loops · ClassOwners: loops · ClassMore: loops.
  DERIVED. THE GIVEN ROWS OF THIS SEAT. 4 by the template 'for every input the law returns true; each argument reads behind the call as it read before'; 0 by the template 'total and deterministic' (their statements: YtejlknplmfmceaaTotals.lean).
  GIVEN WITH THE SEED: the statements are not yours to turn. If you find one false, say at which input.
  Laid BY PROGRAM, IN A SANDBOX (cutbox-rows.mjs): the forced cells as the released guide's own fill.sh prints them over the translation 9fba40874b55289d… (all of the seat's roots in one cut). By AI agents, Wed Nov 11 2026. No macro, syntax, notation, axiom, sorry.
-/
import Derived.Test.YtejlknplmfmceaaChecked
import GoSem.Claim
import GoSem.ClaimJoined
import GoSem.ClaimMapViews
import Derived.JoinedTies
import Derived.KernelRfl
namespace Go.Proofs.Ytejlknplmfmceaa
/- THE CELL 'sum', in the pinned program and in every row, IS THE sha256 OF THE DUMP (.gsa) THAT YtejlknplmfmceaaProg.lean LOADS. Nothing in Lean hashes anything: it is a label: what it is worth is what the hold of that sum in a sandbox is worth. -/
noncomputable def Try.pinned : Pinned := { name := "ytejlknplmfmceaa", sum := "9fba40874b55289d3a18a8087cce1bfaf870e2988ad353c7bd4077ab36b1930e", checked := Try.checked }
namespace Rows
def none {H : Type} : Left H := { results := [], args := [] }

/-- 'osierlaw16.ClassInherits': WHATEVER THE INPUT: true; the input reads as it did. -/
def classInheritsSpec : ChangeSpec := { name := "classInherits", fn := fun _ => fun
  | [d] => { results := [.lit (.bool true)], args := [d] }
  | _ => none }
def classInheritsRow : OpenClaim := { program := "ytejlknplmfmceaa", sum := "9fba40874b55289d3a18a8087cce1bfaf870e2988ad353c7bd4077ab36b1930e", func := "osier/osierlaw16.ClassInherits", spec := "classInherits", inPlace := ["internal/bytealg.IndexByteString", "internal/abi.NoEscape", "internal/bytealg.MakeNoZero"], unfollowed := true, recurses := true, loops := true, apart := false }
def ClassInheritsSaid : Prop := classInheritsRow.holds Try.pinned (OpenSpec.ofChange classInheritsSpec)

/-- ITS FALSE NEIGHBOUR: 'it returns false'. Refute it at one input. -/
def classInheritsWrong : ChangeSpec := { name := "classInherits", fn := fun _ => fun
  | [d] => { results := [.lit (.bool false)], args := [d] }
  | _ => none }
def ClassInheritsWrongFalsely : Prop := classInheritsRow.holds Try.pinned (OpenSpec.ofChange classInheritsWrong)

/-- 'osierlaw16.ClassTurns': WHATEVER THE INPUT: true; the input reads as it did. -/
def classTurnsSpec : ChangeSpec := { name := "classTurns", fn := fun _ => fun
  | [d1, d2] => { results := [.lit (.bool true)], args := [d1, d2] }
  | _ => none }
def classTurnsRow : OpenClaim := { program := "ytejlknplmfmceaa", sum := "9fba40874b55289d3a18a8087cce1bfaf870e2988ad353c7bd4077ab36b1930e", func := "osier/osierlaw16.ClassTurns", spec := "classTurns", inPlace := ["internal/bytealg.IndexByteString", "internal/abi.NoEscape", "internal/bytealg.MakeNoZero"], unfollowed := true, recurses := true, loops := true, apart := false }
def ClassTurnsSaid : Prop := classTurnsRow.holds Try.pinned (OpenSpec.ofChange classTurnsSpec)

/-- ITS FALSE NEIGHBOUR: 'it returns false'. Refute it at one input. -/
def classTurnsWrong : ChangeSpec := { name := "classTurns", fn := fun _ => fun
  | [d1, d2] => { results := [.lit (.bool false)], args := [d1, d2] }
  | _ => none }
def ClassTurnsWrongFalsely : Prop := classTurnsRow.holds Try.pinned (OpenSpec.ofChange classTurnsWrong)

/-- 'osierlaw16.ClassOwners': WHATEVER THE INPUT: true; the input reads as it did. -/
def classOwnersSpec : ChangeSpec := { name := "classOwners", fn := fun _ => fun
  | [d] => { results := [.lit (.bool true)], args := [d] }
  | _ => none }
def classOwnersRow : OpenClaim := { program := "ytejlknplmfmceaa", sum := "9fba40874b55289d3a18a8087cce1bfaf870e2988ad353c7bd4077ab36b1930e", func := "osier/osierlaw16.ClassOwners", spec := "classOwners", inPlace := ["internal/bytealg.IndexByteString", "internal/abi.NoEscape", "internal/bytealg.MakeNoZero"], unfollowed := true, recurses := true, loops := true, apart := false }
def ClassOwnersSaid : Prop := classOwnersRow.holds Try.pinned (OpenSpec.ofChange classOwnersSpec)

/-- ITS FALSE NEIGHBOUR: 'it returns false'. Refute it at one input. -/
def classOwnersWrong : ChangeSpec := { name := "classOwners", fn := fun _ => fun
  | [d] => { results := [.lit (.bool false)], args := [d] }
  | _ => none }
def ClassOwnersWrongFalsely : Prop := classOwnersRow.holds Try.pinned (OpenSpec.ofChange classOwnersWrong)

/-- 'osierlaw16.ClassMore': WHATEVER THE INPUT: true; the input reads as it did. -/
def classMoreSpec : ChangeSpec := { name := "classMore", fn := fun _ => fun
  | [d] => { results := [.lit (.bool true)], args := [d] }
  | _ => none }
def classMoreRow : OpenClaim := { program := "ytejlknplmfmceaa", sum := "9fba40874b55289d3a18a8087cce1bfaf870e2988ad353c7bd4077ab36b1930e", func := "osier/osierlaw16.ClassMore", spec := "classMore", inPlace := ["internal/bytealg.IndexByteString", "internal/abi.NoEscape", "internal/bytealg.MakeNoZero"], unfollowed := true, recurses := true, loops := true, apart := false }
def ClassMoreSaid : Prop := classMoreRow.holds Try.pinned (OpenSpec.ofChange classMoreSpec)

/-- ITS FALSE NEIGHBOUR: 'it returns false'. Refute it at one input. -/
def classMoreWrong : ChangeSpec := { name := "classMore", fn := fun _ => fun
  | [d] => { results := [.lit (.bool false)], args := [d] }
  | _ => none }
def ClassMoreWrongFalsely : Prop := classMoreRow.holds Try.pinned (OpenSpec.ofChange classMoreWrong)

/- THE SECOND FORM. 'bulk': how many values and letters a reading holds, each counted each time it is reached (what is shared counts as often as it is met; a slice's spare places count too). A statement '..UptoSaid' is the law's where the arguments, and the package variables that the reading takes, are together of bulk at most 1048576: NARROWER than '..Said'. Prove '..Said' where nothing that the law and all that it calls make is longer than what came in: it says more and counts as full. Else prove '..UptoSaid'. A law counts once. -/
mutual
def uptoBulk {H : Type} : DataW H → Nat
  | .lit (.string bytes) => bytes.length + 1
  | .lit _ => 1
  | .nil => 1
  | .ptr d => uptoBulk d + 1
  | .slice elems spare => uptoBulkAll elems + uptoBulkAll spare + 1
  | .agg parts => uptoBulkAll parts + 1
  | .iface _ d => uptoBulk d + 1
  | .map entries => uptoBulkEntries entries + 1
  | .held _ => 1
def uptoBulkAll {H : Type} : List (DataW H) → Nat
  | [] => 0
  | d :: r => uptoBulk d + uptoBulkAll r
def uptoBulkEntries {H : Type} : List (Lit × DataW H) → Nat
  | [] => 0
  | x :: r => uptoBulkEntry x + uptoBulkEntries r
def uptoBulkEntry {H : Type} : Lit × DataW H → Nat
  | (.string bytes, d) => bytes.length + uptoBulk d + 1
  | (_, d) => uptoBulk d + 1
 end
def uptoSmall : (H : Type) → List (DataW H) → Bool := fun _ ds => decide (uptoBulkAll ds ≤ 1048576)
def OpenSpec.upto (s : _root_.Go.ChangeSpec) : _root_.Go.OpenSpec := { _root_.Go.OpenSpec.ofChange s with cond := some uptoSmall }

/-- 'osierlaw16.ClassInherits', WHERE WHAT IT READS IS OF BULK AT MOST 1048576: true; the input reads as it did. -/
def classInheritsUptoRow : OpenClaim := { program := "ytejlknplmfmceaa", sum := "9fba40874b55289d3a18a8087cce1bfaf870e2988ad353c7bd4077ab36b1930e", func := "osier/osierlaw16.ClassInherits", spec := "classInherits", inPlace := ["internal/bytealg.IndexByteString", "internal/abi.NoEscape", "internal/bytealg.MakeNoZero"], unfollowed := true, recurses := true, loops := true, apart := false, narrowed := true }
def ClassInheritsUptoSaid : Prop := classInheritsUptoRow.holds Try.pinned (OpenSpec.upto classInheritsSpec)

/-- 'osierlaw16.ClassTurns', WHERE WHAT IT READS IS OF BULK AT MOST 1048576: true; the input reads as it did. -/
def classTurnsUptoRow : OpenClaim := { program := "ytejlknplmfmceaa", sum := "9fba40874b55289d3a18a8087cce1bfaf870e2988ad353c7bd4077ab36b1930e", func := "osier/osierlaw16.ClassTurns", spec := "classTurns", inPlace := ["internal/bytealg.IndexByteString", "internal/abi.NoEscape", "internal/bytealg.MakeNoZero"], unfollowed := true, recurses := true, loops := true, apart := false, narrowed := true }
def ClassTurnsUptoSaid : Prop := classTurnsUptoRow.holds Try.pinned (OpenSpec.upto classTurnsSpec)

/-- 'osierlaw16.ClassOwners', WHERE WHAT IT READS IS OF BULK AT MOST 1048576: true; the input reads as it did. -/
def classOwnersUptoRow : OpenClaim := { program := "ytejlknplmfmceaa", sum := "9fba40874b55289d3a18a8087cce1bfaf870e2988ad353c7bd4077ab36b1930e", func := "osier/osierlaw16.ClassOwners", spec := "classOwners", inPlace := ["internal/bytealg.IndexByteString", "internal/abi.NoEscape", "internal/bytealg.MakeNoZero"], unfollowed := true, recurses := true, loops := true, apart := false, narrowed := true }
def ClassOwnersUptoSaid : Prop := classOwnersUptoRow.holds Try.pinned (OpenSpec.upto classOwnersSpec)

/-- 'osierlaw16.ClassMore', WHERE WHAT IT READS IS OF BULK AT MOST 1048576: true; the input reads as it did. -/
def classMoreUptoRow : OpenClaim := { program := "ytejlknplmfmceaa", sum := "9fba40874b55289d3a18a8087cce1bfaf870e2988ad353c7bd4077ab36b1930e", func := "osier/osierlaw16.ClassMore", spec := "classMore", inPlace := ["internal/bytealg.IndexByteString", "internal/abi.NoEscape", "internal/bytealg.MakeNoZero"], unfollowed := true, recurses := true, loops := true, apart := false, narrowed := true }
def ClassMoreUptoSaid : Prop := classMoreUptoRow.holds Try.pinned (OpenSpec.upto classMoreSpec)

end Rows
end Go.Proofs.Ytejlknplmfmceaa
