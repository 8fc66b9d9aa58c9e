/-
  DERIVED. GIVEN WITH THE SEED: THE CARDS: each row of YtohnaepcgnbaiaaGreatDoorRows.lean that lists a variable, with what it lists TIED to the program's text (the seventh form; the later family's looks); each row that meets fmt, with fmt's text TOLD by the authors' own Lean function (tested against real Go, not proved from fmt's source: count such statements apart). THE CARD IS WHAT COUNTS. Prove the row's statement (the work); the ties are given (YtohnaepcgnbaiaaGreatDoorTie.lean); close each card by the builder's one call (the guide's Derived/Test/ToyasCard.lean, 'card_holds'). Laid BY PROGRAM, IN A SANDBOX (cutbox-door.mjs). By AI agents, Wed Nov 11 2026. No macro, syntax, notation, axiom, sorry.
-/
import Derived.Test.YtohnaepcgnbaiaaGreatDoorRows
import GoSem.ClaimSeven
namespace Go.Proofs.YtohnaepcgnbaiaaGreatDoor
namespace Rows

/-- THE TIED CARD OF 'osierlaw09.RelMoves'. -/
def relMovesCard : Claim7 := { stood := { row := relMovesRow, standIns := [], harness := (true, "a6bbcfc0d34980aab443581d29125c1265ff955a17b9955e085dbb2c798526f5"), looks := false }, kinds := [], alts := [], laidByText := true, laidKinds := [.data, .pinned], laidTests := true, laidLooks := .later }
def RelMovesCardSaid : Prop := Claim7.holds Tryz.pinned (.plain (OpenSpec.ofChange relMovesSpec)) relMovesCard

/-- THE TIED CARD OF 'osierlaw09.RelJoins'. -/
def relJoinsCard : Claim7 := { stood := { row := relJoinsRow, standIns := [], harness := (true, "a6bbcfc0d34980aab443581d29125c1265ff955a17b9955e085dbb2c798526f5"), looks := false }, kinds := [], alts := [], laidByText := true, laidKinds := [.data, .pinned], laidTests := true, laidLooks := .later }
def RelJoinsCardSaid : Prop := Claim7.holds Tryz.pinned (.plain (OpenSpec.ofChange relJoinsSpec)) relJoinsCard

/-- THE TIED CARD OF 'osierlaw09.RelSets'. -/
def relSetsCard : Claim7 := { stood := { row := relSetsRow, standIns := [], harness := (true, "a6bbcfc0d34980aab443581d29125c1265ff955a17b9955e085dbb2c798526f5"), looks := false }, kinds := [], alts := [], laidByText := true, laidKinds := [.data, .pinned], laidTests := true, laidLooks := .later }
def RelSetsCardSaid : Prop := Claim7.holds Tryz.pinned (.plain (OpenSpec.ofChange relSetsSpec)) relSetsCard

/-- THE TIED CARD OF 'osierlaw09.RelKeeps'. -/
def relKeepsCard : Claim7 := { stood := { row := relKeepsRow, standIns := [], harness := (true, "a6bbcfc0d34980aab443581d29125c1265ff955a17b9955e085dbb2c798526f5"), looks := false }, kinds := [], alts := [], laidByText := true, laidKinds := [.data, .pinned], laidTests := true, laidLooks := .later }
def RelKeepsCardSaid : Prop := Claim7.holds Tryz.pinned (.plain (OpenSpec.ofChange relKeepsSpec)) relKeepsCard

/-- THE SECOND FORM's CARD OF 'osierlaw09.RelMoves'. -/
def relMovesUptoCard : Claim7 := { stood := { row := relMovesUptoRow, standIns := [], harness := (true, "a6bbcfc0d34980aab443581d29125c1265ff955a17b9955e085dbb2c798526f5"), looks := false }, kinds := [], alts := [], laidByText := true, laidKinds := [.data, .pinned], laidTests := true, laidLooks := .later }
def RelMovesUptoCardSaid : Prop := Claim7.holds Tryz.pinned (.plain (OpenSpec.upto relMovesSpec)) relMovesUptoCard

/-- THE SECOND FORM's CARD OF 'osierlaw09.RelJoins'. -/
def relJoinsUptoCard : Claim7 := { stood := { row := relJoinsUptoRow, standIns := [], harness := (true, "a6bbcfc0d34980aab443581d29125c1265ff955a17b9955e085dbb2c798526f5"), looks := false }, kinds := [], alts := [], laidByText := true, laidKinds := [.data, .pinned], laidTests := true, laidLooks := .later }
def RelJoinsUptoCardSaid : Prop := Claim7.holds Tryz.pinned (.plain (OpenSpec.upto relJoinsSpec)) relJoinsUptoCard

/-- THE SECOND FORM's CARD OF 'osierlaw09.RelSets'. -/
def relSetsUptoCard : Claim7 := { stood := { row := relSetsUptoRow, standIns := [], harness := (true, "a6bbcfc0d34980aab443581d29125c1265ff955a17b9955e085dbb2c798526f5"), looks := false }, kinds := [], alts := [], laidByText := true, laidKinds := [.data, .pinned], laidTests := true, laidLooks := .later }
def RelSetsUptoCardSaid : Prop := Claim7.holds Tryz.pinned (.plain (OpenSpec.upto relSetsSpec)) relSetsUptoCard

/-- THE SECOND FORM's CARD OF 'osierlaw09.RelKeeps'. -/
def relKeepsUptoCard : Claim7 := { stood := { row := relKeepsUptoRow, standIns := [], harness := (true, "a6bbcfc0d34980aab443581d29125c1265ff955a17b9955e085dbb2c798526f5"), looks := false }, kinds := [], alts := [], laidByText := true, laidKinds := [.data, .pinned], laidTests := true, laidLooks := .later }
def RelKeepsUptoCardSaid : Prop := Claim7.holds Tryz.pinned (.plain (OpenSpec.upto relKeepsSpec)) relKeepsUptoCard
end Rows
end Go.Proofs.YtohnaepcgnbaiaaGreatDoor
