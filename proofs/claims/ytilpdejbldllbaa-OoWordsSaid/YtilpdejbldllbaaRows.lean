/-
  NARROWER THAN 'FOR EVERY INPUT', by the rows' own cells (each row's printed sentence says how): OoPrints: loops · OoBack: loops.
  DERIVED. THE GIVEN ROWS OF THIS SEAT. 7 by the template 'for every input the law returns true; each argument reads behind the call as it read before'; 0 by the template 'total and deterministic' (their statements: YtilpdejbldllbaaTotals.lean).
  GIVEN WITH THE SEED: the statements are not yours to turn. If you find one false, say at which input.
  Laid BY PROGRAM, IN A SANDBOX (cutbox-rows.mjs): the forced cells as the released guide's own fill.sh prints them over the translation 204dce6cee2fe555… (all of the seat's roots in one cut). By AI agents, Wed Nov 11 2026. No macro, syntax, notation, axiom, sorry.
-/
import Derived.Test.YtilpdejbldllbaaChecked
import GoSem.Claim
import GoSem.ClaimJoined
import GoSem.ClaimMapViews
import Derived.JoinedTies
import Derived.KernelRfl
namespace Go.Proofs.Ytilpdejbldllbaa
/- THE CELL 'sum', in the pinned program and in every row, IS THE sha256 OF THE DUMP (.gsa) THAT YtilpdejbldllbaaProg.lean LOADS. Nothing in Lean hashes anything: it is a label: what it is worth is what the hold of that sum in a sandbox is worth. -/
noncomputable def Try.pinned : Pinned := { name := "ytilpdejbldllbaa", sum := "204dce6cee2fe5550a54ffb0a02148d54edc94679b11042d36732093886069a5", checked := Try.checked }
namespace Rows
def none {H : Type} : Left H := { results := [], args := [] }

/-- 'osierlaw15.OoParses': WHATEVER THE INPUT: true; the input reads as it did. -/
def ooParsesSpec : ChangeSpec := { name := "ooParses", fn := fun _ => fun
  | [d] => { results := [.lit (.bool true)], args := [d] }
  | _ => none }
def ooParsesRow : OpenClaim := { program := "ytilpdejbldllbaa", sum := "204dce6cee2fe5550a54ffb0a02148d54edc94679b11042d36732093886069a5", func := "osier/osierlaw15.OoParses", spec := "ooParses", inPlace := ["internal/bytealg.IndexByteString", "internal/abi.NoEscape", "internal/bytealg.MakeNoZero"], unfollowed := true, recurses := true, apart := false }
def OoParsesSaid : Prop := ooParsesRow.holds Try.pinned (OpenSpec.ofChange ooParsesSpec)

/-- ITS FALSE NEIGHBOUR: 'it returns false'. Refute it at one input. -/
def ooParsesWrong : ChangeSpec := { name := "ooParses", fn := fun _ => fun
  | [d] => { results := [.lit (.bool false)], args := [d] }
  | _ => none }
def OoParsesWrongFalsely : Prop := ooParsesRow.holds Try.pinned (OpenSpec.ofChange ooParsesWrong)

/-- 'osierlaw15.OoPrints': WHATEVER THE INPUT: true; the input reads as it did. -/
def ooPrintsSpec : ChangeSpec := { name := "ooPrints", fn := fun _ => fun
  | [d] => { results := [.lit (.bool true)], args := [d] }
  | _ => none }
def ooPrintsRow : OpenClaim := { program := "ytilpdejbldllbaa", sum := "204dce6cee2fe5550a54ffb0a02148d54edc94679b11042d36732093886069a5", func := "osier/osierlaw15.OoPrints", spec := "ooPrints", inPlace := ["internal/bytealg.IndexByteString", "internal/abi.NoEscape", "internal/bytealg.MakeNoZero"], unfollowed := true, recurses := true, loops := true, apart := false }
def OoPrintsSaid : Prop := ooPrintsRow.holds Try.pinned (OpenSpec.ofChange ooPrintsSpec)

/-- ITS FALSE NEIGHBOUR: 'it returns false'. Refute it at one input. -/
def ooPrintsWrong : ChangeSpec := { name := "ooPrints", fn := fun _ => fun
  | [d] => { results := [.lit (.bool false)], args := [d] }
  | _ => none }
def OoPrintsWrongFalsely : Prop := ooPrintsRow.holds Try.pinned (OpenSpec.ofChange ooPrintsWrong)

/-- 'osierlaw15.OoBack': WHATEVER THE INPUT: true; the input reads as it did. -/
def ooBackSpec : ChangeSpec := { name := "ooBack", fn := fun _ => fun
  | [d] => { results := [.lit (.bool true)], args := [d] }
  | _ => none }
def ooBackRow : OpenClaim := { program := "ytilpdejbldllbaa", sum := "204dce6cee2fe5550a54ffb0a02148d54edc94679b11042d36732093886069a5", func := "osier/osierlaw15.OoBack", spec := "ooBack", inPlace := ["internal/bytealg.IndexByteString", "internal/abi.NoEscape", "internal/bytealg.MakeNoZero"], unfollowed := true, recurses := true, loops := true, apart := false }
def OoBackSaid : Prop := ooBackRow.holds Try.pinned (OpenSpec.ofChange ooBackSpec)

/-- ITS FALSE NEIGHBOUR: 'it returns false'. Refute it at one input. -/
def ooBackWrong : ChangeSpec := { name := "ooBack", fn := fun _ => fun
  | [d] => { results := [.lit (.bool false)], args := [d] }
  | _ => none }
def OoBackWrongFalsely : Prop := ooBackRow.holds Try.pinned (OpenSpec.ofChange ooBackWrong)

/-- 'osierlaw15.OoAgain': WHATEVER THE INPUT: true; the input reads as it did. -/
def ooAgainSpec : ChangeSpec := { name := "ooAgain", fn := fun _ => fun
  | [d] => { results := [.lit (.bool true)], args := [d] }
  | _ => none }
def ooAgainRow : OpenClaim := { program := "ytilpdejbldllbaa", sum := "204dce6cee2fe5550a54ffb0a02148d54edc94679b11042d36732093886069a5", func := "osier/osierlaw15.OoAgain", spec := "ooAgain", inPlace := ["internal/bytealg.IndexByteString", "internal/abi.NoEscape", "internal/bytealg.MakeNoZero"], unfollowed := true, recurses := true, apart := false }
def OoAgainSaid : Prop := ooAgainRow.holds Try.pinned (OpenSpec.ofChange ooAgainSpec)

/-- ITS FALSE NEIGHBOUR: 'it returns false'. Refute it at one input. -/
def ooAgainWrong : ChangeSpec := { name := "ooAgain", fn := fun _ => fun
  | [d] => { results := [.lit (.bool false)], args := [d] }
  | _ => none }
def OoAgainWrongFalsely : Prop := ooAgainRow.holds Try.pinned (OpenSpec.ofChange ooAgainWrong)

/-- 'osierlaw15.OoBlanks': WHATEVER THE INPUT: true; the input reads as it did. -/
def ooBlanksSpec : ChangeSpec := { name := "ooBlanks", fn := fun _ => fun
  | [d1, d2] => { results := [.lit (.bool true)], args := [d1, d2] }
  | _ => none }
def ooBlanksRow : OpenClaim := { program := "ytilpdejbldllbaa", sum := "204dce6cee2fe5550a54ffb0a02148d54edc94679b11042d36732093886069a5", func := "osier/osierlaw15.OoBlanks", spec := "ooBlanks", inPlace := ["internal/bytealg.IndexByteString", "internal/abi.NoEscape", "internal/bytealg.MakeNoZero"], unfollowed := true, recurses := true, apart := false }
def OoBlanksSaid : Prop := ooBlanksRow.holds Try.pinned (OpenSpec.ofChange ooBlanksSpec)

/-- ITS FALSE NEIGHBOUR: 'it returns false'. Refute it at one input. -/
def ooBlanksWrong : ChangeSpec := { name := "ooBlanks", fn := fun _ => fun
  | [d1, d2] => { results := [.lit (.bool false)], args := [d1, d2] }
  | _ => none }
def OoBlanksWrongFalsely : Prop := ooBlanksRow.holds Try.pinned (OpenSpec.ofChange ooBlanksWrong)

/-- 'osierlaw15.OoFull': WHATEVER THE INPUT: true; the input reads as it did. -/
def ooFullSpec : ChangeSpec := { name := "ooFull", fn := fun _ => fun
  | [d1, d2] => { results := [.lit (.bool true)], args := [d1, d2] }
  | _ => none }
def ooFullRow : OpenClaim := { program := "ytilpdejbldllbaa", sum := "204dce6cee2fe5550a54ffb0a02148d54edc94679b11042d36732093886069a5", func := "osier/osierlaw15.OoFull", spec := "ooFull", inPlace := ["internal/bytealg.IndexByteString", "internal/abi.NoEscape", "internal/bytealg.MakeNoZero"], unfollowed := true, recurses := true, apart := false }
def OoFullSaid : Prop := ooFullRow.holds Try.pinned (OpenSpec.ofChange ooFullSpec)

/-- ITS FALSE NEIGHBOUR: 'it returns false'. Refute it at one input. -/
def ooFullWrong : ChangeSpec := { name := "ooFull", fn := fun _ => fun
  | [d1, d2] => { results := [.lit (.bool false)], args := [d1, d2] }
  | _ => none }
def OoFullWrongFalsely : Prop := ooFullRow.holds Try.pinned (OpenSpec.ofChange ooFullWrong)

/-- 'osierlaw15.OoWords': WHATEVER THE INPUT: true; the input reads as it did. -/
def ooWordsSpec : ChangeSpec := { name := "ooWords", fn := fun _ => fun
  | [d1, d2, d3] => { results := [.lit (.bool true)], args := [d1, d2, d3] }
  | _ => none }
def ooWordsRow : OpenClaim := { program := "ytilpdejbldllbaa", sum := "204dce6cee2fe5550a54ffb0a02148d54edc94679b11042d36732093886069a5", func := "osier/osierlaw15.OoWords", spec := "ooWords", inPlace := ["internal/bytealg.IndexByteString", "internal/abi.NoEscape", "internal/bytealg.MakeNoZero"], unfollowed := true, recurses := true, apart := false }
def OoWordsSaid : Prop := ooWordsRow.holds Try.pinned (OpenSpec.ofChange ooWordsSpec)

/-- ITS FALSE NEIGHBOUR: 'it returns false'. Refute it at one input. -/
def ooWordsWrong : ChangeSpec := { name := "ooWords", fn := fun _ => fun
  | [d1, d2, d3] => { results := [.lit (.bool false)], args := [d1, d2, d3] }
  | _ => none }
def OoWordsWrongFalsely : Prop := ooWordsRow.holds Try.pinned (OpenSpec.ofChange ooWordsWrong)

/- THE SECOND FORM. 'bulk': how many values and letters a reading holds, each counted each time it is reached (what is shared counts as often as it is met; a slice's spare places count too). A statement '..UptoSaid' is the law's where the arguments, and the package variables that the reading takes, are together of bulk at most 1048576: NARROWER than '..Said'. Prove '..Said' where nothing that the law and all that it calls make is longer than what came in: it says more and counts as full. Else prove '..UptoSaid'. A law counts once. -/
mutual
def uptoBulk {H : Type} : DataW H → Nat
  | .lit (.string bytes) => bytes.length + 1
  | .lit _ => 1
  | .nil => 1
  | .ptr d => uptoBulk d + 1
  | .slice elems spare => uptoBulkAll elems + uptoBulkAll spare + 1
  | .agg parts => uptoBulkAll parts + 1
  | .iface _ d => uptoBulk d + 1
  | .map entries => uptoBulkEntries entries + 1
  | .held _ => 1
def uptoBulkAll {H : Type} : List (DataW H) → Nat
  | [] => 0
  | d :: r => uptoBulk d + uptoBulkAll r
def uptoBulkEntries {H : Type} : List (Lit × DataW H) → Nat
  | [] => 0
  | x :: r => uptoBulkEntry x + uptoBulkEntries r
def uptoBulkEntry {H : Type} : Lit × DataW H → Nat
  | (.string bytes, d) => bytes.length + uptoBulk d + 1
  | (_, d) => uptoBulk d + 1
 end
def uptoSmall : (H : Type) → List (DataW H) → Bool := fun _ ds => decide (uptoBulkAll ds ≤ 1048576)
def OpenSpec.upto (s : _root_.Go.ChangeSpec) : _root_.Go.OpenSpec := { _root_.Go.OpenSpec.ofChange s with cond := some uptoSmall }

/-- 'osierlaw15.OoParses', WHERE WHAT IT READS IS OF BULK AT MOST 1048576: true; the input reads as it did. -/
def ooParsesUptoRow : OpenClaim := { program := "ytilpdejbldllbaa", sum := "204dce6cee2fe5550a54ffb0a02148d54edc94679b11042d36732093886069a5", func := "osier/osierlaw15.OoParses", spec := "ooParses", inPlace := ["internal/bytealg.IndexByteString", "internal/abi.NoEscape", "internal/bytealg.MakeNoZero"], unfollowed := true, recurses := true, apart := false, narrowed := true }
def OoParsesUptoSaid : Prop := ooParsesUptoRow.holds Try.pinned (OpenSpec.upto ooParsesSpec)

/-- 'osierlaw15.OoPrints', WHERE WHAT IT READS IS OF BULK AT MOST 1048576: true; the input reads as it did. -/
def ooPrintsUptoRow : OpenClaim := { program := "ytilpdejbldllbaa", sum := "204dce6cee2fe5550a54ffb0a02148d54edc94679b11042d36732093886069a5", func := "osier/osierlaw15.OoPrints", spec := "ooPrints", inPlace := ["internal/bytealg.IndexByteString", "internal/abi.NoEscape", "internal/bytealg.MakeNoZero"], unfollowed := true, recurses := true, loops := true, apart := false, narrowed := true }
def OoPrintsUptoSaid : Prop := ooPrintsUptoRow.holds Try.pinned (OpenSpec.upto ooPrintsSpec)

/-- 'osierlaw15.OoBack', WHERE WHAT IT READS IS OF BULK AT MOST 1048576: true; the input reads as it did. -/
def ooBackUptoRow : OpenClaim := { program := "ytilpdejbldllbaa", sum := "204dce6cee2fe5550a54ffb0a02148d54edc94679b11042d36732093886069a5", func := "osier/osierlaw15.OoBack", spec := "ooBack", inPlace := ["internal/bytealg.IndexByteString", "internal/abi.NoEscape", "internal/bytealg.MakeNoZero"], unfollowed := true, recurses := true, loops := true, apart := false, narrowed := true }
def OoBackUptoSaid : Prop := ooBackUptoRow.holds Try.pinned (OpenSpec.upto ooBackSpec)

/-- 'osierlaw15.OoAgain', WHERE WHAT IT READS IS OF BULK AT MOST 1048576: true; the input reads as it did. -/
def ooAgainUptoRow : OpenClaim := { program := "ytilpdejbldllbaa", sum := "204dce6cee2fe5550a54ffb0a02148d54edc94679b11042d36732093886069a5", func := "osier/osierlaw15.OoAgain", spec := "ooAgain", inPlace := ["internal/bytealg.IndexByteString", "internal/abi.NoEscape", "internal/bytealg.MakeNoZero"], unfollowed := true, recurses := true, apart := false, narrowed := true }
def OoAgainUptoSaid : Prop := ooAgainUptoRow.holds Try.pinned (OpenSpec.upto ooAgainSpec)

/-- 'osierlaw15.OoBlanks', WHERE WHAT IT READS IS OF BULK AT MOST 1048576: true; the input reads as it did. -/
def ooBlanksUptoRow : OpenClaim := { program := "ytilpdejbldllbaa", sum := "204dce6cee2fe5550a54ffb0a02148d54edc94679b11042d36732093886069a5", func := "osier/osierlaw15.OoBlanks", spec := "ooBlanks", inPlace := ["internal/bytealg.IndexByteString", "internal/abi.NoEscape", "internal/bytealg.MakeNoZero"], unfollowed := true, recurses := true, apart := false, narrowed := true }
def OoBlanksUptoSaid : Prop := ooBlanksUptoRow.holds Try.pinned (OpenSpec.upto ooBlanksSpec)

/-- 'osierlaw15.OoFull', WHERE WHAT IT READS IS OF BULK AT MOST 1048576: true; the input reads as it did. -/
def ooFullUptoRow : OpenClaim := { program := "ytilpdejbldllbaa", sum := "204dce6cee2fe5550a54ffb0a02148d54edc94679b11042d36732093886069a5", func := "osier/osierlaw15.OoFull", spec := "ooFull", inPlace := ["internal/bytealg.IndexByteString", "internal/abi.NoEscape", "internal/bytealg.MakeNoZero"], unfollowed := true, recurses := true, apart := false, narrowed := true }
def OoFullUptoSaid : Prop := ooFullUptoRow.holds Try.pinned (OpenSpec.upto ooFullSpec)

/-- 'osierlaw15.OoWords', WHERE WHAT IT READS IS OF BULK AT MOST 1048576: true; the input reads as it did. -/
def ooWordsUptoRow : OpenClaim := { program := "ytilpdejbldllbaa", sum := "204dce6cee2fe5550a54ffb0a02148d54edc94679b11042d36732093886069a5", func := "osier/osierlaw15.OoWords", spec := "ooWords", inPlace := ["internal/bytealg.IndexByteString", "internal/abi.NoEscape", "internal/bytealg.MakeNoZero"], unfollowed := true, recurses := true, apart := false, narrowed := true }
def OoWordsUptoSaid : Prop := ooWordsUptoRow.holds Try.pinned (OpenSpec.upto ooWordsSpec)

end Rows
end Go.Proofs.Ytilpdejbldllbaa
