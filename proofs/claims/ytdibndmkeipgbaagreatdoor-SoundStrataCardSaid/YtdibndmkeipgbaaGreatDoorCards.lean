/-
  DERIVED. GIVEN WITH THE SEED: THE CARDS: each row of YtdibndmkeipgbaaGreatDoorRows.lean that lists a variable, with what it lists TIED to the program's text (the seventh form; the later family's looks); each row that meets fmt, with fmt's text TOLD by the authors' own Lean function (tested against real Go, not proved from fmt's source: count such statements apart). THE CARD IS WHAT COUNTS. Prove the row's statement (the work); the ties are given (YtdibndmkeipgbaaGreatDoorTie.lean); close each card by the builder's one call (the guide's Derived/Test/ToyasCard.lean, 'card_holds'). Laid BY PROGRAM, IN A SANDBOX (cutbox-door.mjs). By AI agents, Wed Nov 11 2026. No macro, syntax, notation, axiom, sorry.
-/
import Derived.Test.YtdibndmkeipgbaaGreatDoorRows
import GoSem.ClaimSeven
namespace Go.Proofs.YtdibndmkeipgbaaGreatDoor
namespace Rows

/-- THE TIED CARD OF 'osierlaw12.SoundChecks'. -/
def soundChecksCard : Claim7 := { stood := { row := soundChecksRow, standIns := [], harness := (true, "00815e2ad52466f517e7b43a570b38cf4c24b40bda9542aa42ae8c9312c9c9f6"), looks := true }, kinds := [], alts := [], laidByText := true, laidKinds := [.data, .data, .data, .sentinel, .sentinel], laidTests := true, laidLooks := .later }
def SoundChecksCardSaid : Prop := Claim7.holds Tryz.pinned (.plain (OpenSpec.ofChange soundChecksSpec)) soundChecksCard

/-- THE TIED CARD OF 'osierlaw12.SoundStrata'. -/
def soundStrataCard : Claim7 := { stood := { row := soundStrataRow, standIns := [], harness := (true, "00815e2ad52466f517e7b43a570b38cf4c24b40bda9542aa42ae8c9312c9c9f6"), looks := true }, kinds := [], alts := [], laidByText := true, laidKinds := [.data, .data, .data, .sentinel, .sentinel], laidTests := true, laidLooks := .later }
def SoundStrataCardSaid : Prop := Claim7.holds Tryz.pinned (.plain (OpenSpec.ofChange soundStrataSpec)) soundStrataCard

/-- THE SECOND FORM's CARD OF 'osierlaw12.SoundChecks'. -/
def soundChecksUptoCard : Claim7 := { stood := { row := soundChecksUptoRow, standIns := [], harness := (true, "00815e2ad52466f517e7b43a570b38cf4c24b40bda9542aa42ae8c9312c9c9f6"), looks := true }, kinds := [], alts := [], laidByText := true, laidKinds := [.data, .data, .data, .sentinel, .sentinel], laidTests := true, laidLooks := .later }
def SoundChecksUptoCardSaid : Prop := Claim7.holds Tryz.pinned (.plain (OpenSpec.upto soundChecksSpec)) soundChecksUptoCard

/-- THE SECOND FORM's CARD OF 'osierlaw12.SoundStrata'. -/
def soundStrataUptoCard : Claim7 := { stood := { row := soundStrataUptoRow, standIns := [], harness := (true, "00815e2ad52466f517e7b43a570b38cf4c24b40bda9542aa42ae8c9312c9c9f6"), looks := true }, kinds := [], alts := [], laidByText := true, laidKinds := [.data, .data, .data, .sentinel, .sentinel], laidTests := true, laidLooks := .later }
def SoundStrataUptoCardSaid : Prop := Claim7.holds Tryz.pinned (.plain (OpenSpec.upto soundStrataSpec)) soundStrataUptoCard
end Rows
end Go.Proofs.YtdibndmkeipgbaaGreatDoor
