/-
  DERIVED. GIVEN WITH THE SEED: THE CARDS: each row of YtdibndmkeipgbaaDoorRows.lean that lists a variable, with what it lists TIED to the program's text (the seventh form; the later family's looks); each row that meets fmt, with fmt's text TOLD by the authors' own Lean function (tested against real Go, not proved from fmt's source: count such statements apart). THE CARD IS WHAT COUNTS. Prove the row's statement (the work); the ties are given (YtdibndmkeipgbaaDoorTie.lean); close each card by the builder's one call (the guide's Derived/Test/ToyasCard.lean, 'card_holds'). Laid BY PROGRAM, IN A SANDBOX (cutbox-door.mjs). By AI agents, Wed Nov 11 2026. No macro, syntax, notation, axiom, sorry.
-/
import Derived.Test.YtdibndmkeipgbaaDoorRows
import GoSem.ClaimSeven
namespace Go.Proofs.YtdibndmkeipgbaaDoor
namespace Rows

/-- THE TIED CARD OF 'osierlaw12.SoundStages'. -/
def soundStagesCard : Claim7 := { stood := { row := soundStagesRow, standIns := [], harness := (true, "4e20bc3c2b53c6c77fdfe833ce7012166bc62dbf55f1c45c1e0f2697b7846875"), looks := true }, kinds := [], alts := [], laidByText := true, laidKinds := [.data, .data, .data, .sentinel, .sentinel], laidTests := true, laidLooks := .later }
def SoundStagesCardSaid : Prop := Claim7.holds Tryd.pinned (.plain (OpenSpec.ofChange soundStagesSpec)) soundStagesCard

/-- THE TIED CARD OF 'osierlaw12.SoundLess'. -/
def soundLessCard : Claim7 := { stood := { row := soundLessRow, standIns := [], harness := (true, "4e20bc3c2b53c6c77fdfe833ce7012166bc62dbf55f1c45c1e0f2697b7846875"), looks := true }, kinds := [], alts := [], laidByText := true, laidKinds := [.data, .data, .data, .sentinel, .sentinel], laidTests := true, laidLooks := .later }
def SoundLessCardSaid : Prop := Claim7.holds Tryd.pinned (.plain (OpenSpec.ofChange soundLessSpec)) soundLessCard

/-- THE TIED CARD OF 'osierlaw12.SoundRings'. -/
def soundRingsCard : Claim7 := { stood := { row := soundRingsRow, standIns := [], harness := (true, "4e20bc3c2b53c6c77fdfe833ce7012166bc62dbf55f1c45c1e0f2697b7846875"), looks := true }, kinds := [], alts := [], laidByText := true, laidKinds := [.data, .data, .data, .sentinel, .sentinel], laidTests := true, laidLooks := .later }
def SoundRingsCardSaid : Prop := Claim7.holds Tryd.pinned (.plain (OpenSpec.ofChange soundRingsSpec)) soundRingsCard

/-- THE TIED CARD OF 'osierlaw12.SoundNames'. -/
def soundNamesCard : Claim7 := { stood := { row := soundNamesRow, standIns := [], harness := (true, "4e20bc3c2b53c6c77fdfe833ce7012166bc62dbf55f1c45c1e0f2697b7846875"), looks := true }, kinds := [], alts := [], laidByText := true, laidKinds := [.data, .data, .data, .sentinel, .sentinel], laidTests := true, laidLooks := .later }
def SoundNamesCardSaid : Prop := Claim7.holds Tryd.pinned (.plain (OpenSpec.ofChange soundNamesSpec)) soundNamesCard

/-- THE SECOND FORM's CARD OF 'osierlaw12.SoundStages'. -/
def soundStagesUptoCard : Claim7 := { stood := { row := soundStagesUptoRow, standIns := [], harness := (true, "4e20bc3c2b53c6c77fdfe833ce7012166bc62dbf55f1c45c1e0f2697b7846875"), looks := true }, kinds := [], alts := [], laidByText := true, laidKinds := [.data, .data, .data, .sentinel, .sentinel], laidTests := true, laidLooks := .later }
def SoundStagesUptoCardSaid : Prop := Claim7.holds Tryd.pinned (.plain (OpenSpec.upto soundStagesSpec)) soundStagesUptoCard

/-- THE SECOND FORM's CARD OF 'osierlaw12.SoundLess'. -/
def soundLessUptoCard : Claim7 := { stood := { row := soundLessUptoRow, standIns := [], harness := (true, "4e20bc3c2b53c6c77fdfe833ce7012166bc62dbf55f1c45c1e0f2697b7846875"), looks := true }, kinds := [], alts := [], laidByText := true, laidKinds := [.data, .data, .data, .sentinel, .sentinel], laidTests := true, laidLooks := .later }
def SoundLessUptoCardSaid : Prop := Claim7.holds Tryd.pinned (.plain (OpenSpec.upto soundLessSpec)) soundLessUptoCard

/-- THE SECOND FORM's CARD OF 'osierlaw12.SoundRings'. -/
def soundRingsUptoCard : Claim7 := { stood := { row := soundRingsUptoRow, standIns := [], harness := (true, "4e20bc3c2b53c6c77fdfe833ce7012166bc62dbf55f1c45c1e0f2697b7846875"), looks := true }, kinds := [], alts := [], laidByText := true, laidKinds := [.data, .data, .data, .sentinel, .sentinel], laidTests := true, laidLooks := .later }
def SoundRingsUptoCardSaid : Prop := Claim7.holds Tryd.pinned (.plain (OpenSpec.upto soundRingsSpec)) soundRingsUptoCard

/-- THE SECOND FORM's CARD OF 'osierlaw12.SoundNames'. -/
def soundNamesUptoCard : Claim7 := { stood := { row := soundNamesUptoRow, standIns := [], harness := (true, "4e20bc3c2b53c6c77fdfe833ce7012166bc62dbf55f1c45c1e0f2697b7846875"), looks := true }, kinds := [], alts := [], laidByText := true, laidKinds := [.data, .data, .data, .sentinel, .sentinel], laidTests := true, laidLooks := .later }
def SoundNamesUptoCardSaid : Prop := Claim7.holds Tryd.pinned (.plain (OpenSpec.upto soundNamesSpec)) soundNamesUptoCard
end Rows
end Go.Proofs.YtdibndmkeipgbaaDoor
