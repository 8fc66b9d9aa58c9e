/-
  DERIVED. GIVEN WITH THE SEED: THE CARDS: each row of YteldpmgepfaiiaaGreatDoorRows.lean that lists a variable, with what it lists TIED to the program's text (the seventh form; the later family's looks); each row that meets fmt, with fmt's text TOLD by the authors' own Lean function (tested against real Go, not proved from fmt's source: count such statements apart). THE CARD IS WHAT COUNTS. Prove the row's statement (the work); the ties are given (YteldpmgepfaiiaaGreatDoorTie.lean); close each card by the builder's one call (the guide's Derived/Test/ToyasCard.lean, 'card_holds'). Laid BY PROGRAM, IN A SANDBOX (cutbox-door.mjs). By AI agents, Wed Nov 11 2026. No macro, syntax, notation, axiom, sorry.
-/
import Derived.Test.YteldpmgepfaiiaaGreatDoorRows
import GoSem.ClaimSeven
namespace Go.Proofs.YteldpmgepfaiiaaGreatDoor
namespace Rows

/-- THE TIED CARD OF 'osierlaw13.ModelEval'. -/
def modelEvalCard : Claim7 := { stood := { row := modelEvalRow, standIns := [], harness := (true, "b8ac3463197d509922f11ec9951944db5387e999601c9c819eab1376e5e65308"), looks := true }, kinds := [], alts := [], laidByText := true, laidKinds := [.data, .data, .data, .sentinel, .sentinel], laidTests := true, laidLooks := .later }
def ModelEvalCardSaid : Prop := Claim7.holds Tryz.pinned (.plain (OpenSpec.ofChange modelEvalSpec)) modelEvalCard

/-- THE TIED CARD OF 'osierlaw13.ModelLess'. -/
def modelLessCard : Claim7 := { stood := { row := modelLessRow, standIns := [], harness := (true, "b8ac3463197d509922f11ec9951944db5387e999601c9c819eab1376e5e65308"), looks := true }, kinds := [], alts := [], laidByText := true, laidKinds := [.data, .data, .data, .sentinel, .sentinel], laidTests := true, laidLooks := .later }
def ModelLessCardSaid : Prop := Claim7.holds Tryz.pinned (.plain (OpenSpec.ofChange modelLessSpec)) modelLessCard

/-- THE TIED CARD OF 'osierlaw13.ModelTurns'. -/
def modelTurnsCard : Claim7 := { stood := { row := modelTurnsRow, standIns := [], harness := (true, "b8ac3463197d509922f11ec9951944db5387e999601c9c819eab1376e5e65308"), looks := true }, kinds := [], alts := [], laidByText := true, laidKinds := [.data, .data, .data, .sentinel, .sentinel], laidTests := true, laidLooks := .later }
def ModelTurnsCardSaid : Prop := Claim7.holds Tryz.pinned (.plain (OpenSpec.ofChange modelTurnsSpec)) modelTurnsCard

/-- THE TIED CARD OF 'osierlaw13.ModelMany'. -/
def modelManyCard : Claim7 := { stood := { row := modelManyRow, standIns := [], harness := (true, "b8ac3463197d509922f11ec9951944db5387e999601c9c819eab1376e5e65308"), looks := true }, kinds := [], alts := [], laidByText := true, laidKinds := [.data, .data, .data, .sentinel, .sentinel], laidTests := true, laidLooks := .later }
def ModelManyCardSaid : Prop := Claim7.holds Tryz.pinned (.plain (OpenSpec.ofChange modelManySpec)) modelManyCard

/-- THE TIED CARD OF 'osierlaw13.ModelGiven'. -/
def modelGivenCard : Claim7 := { stood := { row := modelGivenRow, standIns := [], harness := (true, "b8ac3463197d509922f11ec9951944db5387e999601c9c819eab1376e5e65308"), looks := true }, kinds := [], alts := [], laidByText := true, laidKinds := [.data, .data, .data, .sentinel, .sentinel], laidTests := true, laidLooks := .later }
def ModelGivenCardSaid : Prop := Claim7.holds Tryz.pinned (.plain (OpenSpec.ofChange modelGivenSpec)) modelGivenCard

/-- THE TIED CARD OF 'osierlaw13.ModelBody'. -/
def modelBodyCard : Claim7 := { stood := { row := modelBodyRow, standIns := [], harness := (true, "b8ac3463197d509922f11ec9951944db5387e999601c9c819eab1376e5e65308"), looks := true }, kinds := [], alts := [], laidByText := true, laidKinds := [.data, .data, .data, .sentinel, .sentinel], laidTests := true, laidLooks := .later }
def ModelBodyCardSaid : Prop := Claim7.holds Tryz.pinned (.plain (OpenSpec.ofChange modelBodySpec)) modelBodyCard

/-- THE SECOND FORM's CARD OF 'osierlaw13.ModelEval'. -/
def modelEvalUptoCard : Claim7 := { stood := { row := modelEvalUptoRow, standIns := [], harness := (true, "b8ac3463197d509922f11ec9951944db5387e999601c9c819eab1376e5e65308"), looks := true }, kinds := [], alts := [], laidByText := true, laidKinds := [.data, .data, .data, .sentinel, .sentinel], laidTests := true, laidLooks := .later }
def ModelEvalUptoCardSaid : Prop := Claim7.holds Tryz.pinned (.plain (OpenSpec.upto modelEvalSpec)) modelEvalUptoCard

/-- THE SECOND FORM's CARD OF 'osierlaw13.ModelLess'. -/
def modelLessUptoCard : Claim7 := { stood := { row := modelLessUptoRow, standIns := [], harness := (true, "b8ac3463197d509922f11ec9951944db5387e999601c9c819eab1376e5e65308"), looks := true }, kinds := [], alts := [], laidByText := true, laidKinds := [.data, .data, .data, .sentinel, .sentinel], laidTests := true, laidLooks := .later }
def ModelLessUptoCardSaid : Prop := Claim7.holds Tryz.pinned (.plain (OpenSpec.upto modelLessSpec)) modelLessUptoCard

/-- THE SECOND FORM's CARD OF 'osierlaw13.ModelTurns'. -/
def modelTurnsUptoCard : Claim7 := { stood := { row := modelTurnsUptoRow, standIns := [], harness := (true, "b8ac3463197d509922f11ec9951944db5387e999601c9c819eab1376e5e65308"), looks := true }, kinds := [], alts := [], laidByText := true, laidKinds := [.data, .data, .data, .sentinel, .sentinel], laidTests := true, laidLooks := .later }
def ModelTurnsUptoCardSaid : Prop := Claim7.holds Tryz.pinned (.plain (OpenSpec.upto modelTurnsSpec)) modelTurnsUptoCard

/-- THE SECOND FORM's CARD OF 'osierlaw13.ModelMany'. -/
def modelManyUptoCard : Claim7 := { stood := { row := modelManyUptoRow, standIns := [], harness := (true, "b8ac3463197d509922f11ec9951944db5387e999601c9c819eab1376e5e65308"), looks := true }, kinds := [], alts := [], laidByText := true, laidKinds := [.data, .data, .data, .sentinel, .sentinel], laidTests := true, laidLooks := .later }
def ModelManyUptoCardSaid : Prop := Claim7.holds Tryz.pinned (.plain (OpenSpec.upto modelManySpec)) modelManyUptoCard

/-- THE SECOND FORM's CARD OF 'osierlaw13.ModelGiven'. -/
def modelGivenUptoCard : Claim7 := { stood := { row := modelGivenUptoRow, standIns := [], harness := (true, "b8ac3463197d509922f11ec9951944db5387e999601c9c819eab1376e5e65308"), looks := true }, kinds := [], alts := [], laidByText := true, laidKinds := [.data, .data, .data, .sentinel, .sentinel], laidTests := true, laidLooks := .later }
def ModelGivenUptoCardSaid : Prop := Claim7.holds Tryz.pinned (.plain (OpenSpec.upto modelGivenSpec)) modelGivenUptoCard

/-- THE SECOND FORM's CARD OF 'osierlaw13.ModelBody'. -/
def modelBodyUptoCard : Claim7 := { stood := { row := modelBodyUptoRow, standIns := [], harness := (true, "b8ac3463197d509922f11ec9951944db5387e999601c9c819eab1376e5e65308"), looks := true }, kinds := [], alts := [], laidByText := true, laidKinds := [.data, .data, .data, .sentinel, .sentinel], laidTests := true, laidLooks := .later }
def ModelBodyUptoCardSaid : Prop := Claim7.holds Tryz.pinned (.plain (OpenSpec.upto modelBodySpec)) modelBodyUptoCard
end Rows
end Go.Proofs.YteldpmgepfaiiaaGreatDoor
