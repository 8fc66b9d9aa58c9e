/-
  DERIVED. GIVEN WITH THE SEED: THE CARDS: each row of YtgdbgfjhenobdaaGreatDoorRows.lean that lists a variable, with what it lists TIED to the program's text (the seventh form; the later family's looks); each row that meets fmt, with fmt's text TOLD by the authors' own Lean function (tested against real Go, not proved from fmt's source: count such statements apart). THE CARD IS WHAT COUNTS. Prove the row's statement (the work); the ties are given (YtgdbgfjhenobdaaGreatDoorTie.lean); close each card by the builder's one call (the guide's Derived/Test/ToyasCard.lean, 'card_holds'). Laid BY PROGRAM, IN A SANDBOX (cutbox-door.mjs). By AI agents, Wed Nov 11 2026. No macro, syntax, notation, axiom, sorry.
-/
import Derived.Test.YtgdbgfjhenobdaaGreatDoorRows
import GoSem.ClaimSeven
namespace Go.Proofs.YtgdbgfjhenobdaaGreatDoor
namespace Rows

/-- THE TIED CARD OF 'osierlaw18.FactsProgram'. -/
def factsProgramCard : Claim7 := { stood := { row := factsProgramRow, standIns := [], harness := (true, "c9db70d8e2403248a1779b21a7fe5ade3779c47a6c0dded6b7ff024d3f0e67b4"), looks := true }, kinds := [], alts := [], laidByText := true, laidKinds := [.data, .data, .data, .sentinel, .sentinel], laidTests := true, laidLooks := .later }
def FactsProgramCardSaid : Prop := Claim7.holds Tryz.pinned (.plain (OpenSpec.ofChange factsProgramSpec)) factsProgramCard

/-- THE SECOND FORM's CARD OF 'osierlaw18.FactsProgram'. -/
def factsProgramUptoCard : Claim7 := { stood := { row := factsProgramUptoRow, standIns := [], harness := (true, "c9db70d8e2403248a1779b21a7fe5ade3779c47a6c0dded6b7ff024d3f0e67b4"), looks := true }, kinds := [], alts := [], laidByText := true, laidKinds := [.data, .data, .data, .sentinel, .sentinel], laidTests := true, laidLooks := .later }
def FactsProgramUptoCardSaid : Prop := Claim7.holds Tryz.pinned (.plain (OpenSpec.upto factsProgramSpec)) factsProgramUptoCard
end Rows
end Go.Proofs.YtgdbgfjhenobdaaGreatDoor
