/-
  DERIVED. GIVEN WITH THE SEED: THE CARDS: each row of YtndlnadbnganeaaGreatDoorRows.lean that lists a variable, with what it lists TIED to the program's text (the seventh form; the later family's looks); each row that meets fmt, with fmt's text TOLD by the authors' own Lean function (tested against real Go, not proved from fmt's source: count such statements apart). THE CARD IS WHAT COUNTS. Prove the row's statement (the work); the ties are given (YtndlnadbnganeaaGreatDoorTie.lean); close each card by the builder's one call (the guide's Derived/Test/ToyasCard.lean, 'card_holds'). Laid BY PROGRAM, IN A SANDBOX (cutbox-door.mjs). By AI agents, Wed Nov 11 2026. No macro, syntax, notation, axiom, sorry.
-/
import Derived.Test.YtndlnadbnganeaaGreatDoorRows
import GoSem.ClaimSeven
namespace Go.Proofs.YtndlnadbnganeaaGreatDoor
namespace Rows

/-- THE TIED CARD OF 'osierlaw08.CodeRanges'. -/
def codeRangesCard : Claim7 := { stood := { row := codeRangesRow, standIns := [], harness := (true, "0e0d5cd8abebae8cdc0ced51562bed4ef1b46d623177703d48300600ddeb6f0b"), looks := false }, kinds := [], alts := [], laidByText := true, laidKinds := [.data, .pinned], laidTests := true, laidLooks := .later }
def CodeRangesCardSaid : Prop := Claim7.holds Tryz.pinned (.plain (OpenSpec.ofChange codeRangesSpec)) codeRangesCard

/-- THE TIED CARD OF 'osierlaw08.CodeEqual'. -/
def codeEqualCard : Claim7 := { stood := { row := codeEqualRow, standIns := [], harness := (true, "0e0d5cd8abebae8cdc0ced51562bed4ef1b46d623177703d48300600ddeb6f0b"), looks := false }, kinds := [], alts := [], laidByText := true, laidKinds := [.data, .pinned], laidTests := true, laidLooks := .later }
def CodeEqualCardSaid : Prop := Claim7.holds Tryz.pinned (.plain (OpenSpec.ofChange codeEqualSpec)) codeEqualCard

/-- THE TIED CARD OF 'osierlaw08.CodeTuples'. -/
def codeTuplesCard : Claim7 := { stood := { row := codeTuplesRow, standIns := [], harness := (true, "0e0d5cd8abebae8cdc0ced51562bed4ef1b46d623177703d48300600ddeb6f0b"), looks := false }, kinds := [], alts := [], laidByText := true, laidKinds := [.data, .pinned], laidTests := true, laidLooks := .later }
def CodeTuplesCardSaid : Prop := Claim7.holds Tryz.pinned (.plain (OpenSpec.ofChange codeTuplesSpec)) codeTuplesCard

/-- THE TIED CARD OF 'osierlaw08.CodeVars'. -/
def codeVarsCard : Claim7 := { stood := { row := codeVarsRow, standIns := [], harness := (true, "0e0d5cd8abebae8cdc0ced51562bed4ef1b46d623177703d48300600ddeb6f0b"), looks := false }, kinds := [], alts := [], laidByText := true, laidKinds := [.data, .pinned], laidTests := true, laidLooks := .later }
def CodeVarsCardSaid : Prop := Claim7.holds Tryz.pinned (.plain (OpenSpec.ofChange codeVarsSpec)) codeVarsCard

/-- THE TIED CARD OF 'osierlaw08.CodeAdds'. -/
def codeAddsCard : Claim7 := { stood := { row := codeAddsRow, standIns := [], harness := (true, "0e0d5cd8abebae8cdc0ced51562bed4ef1b46d623177703d48300600ddeb6f0b"), looks := false }, kinds := [], alts := [], laidByText := true, laidKinds := [.data, .pinned], laidTests := true, laidLooks := .later }
def CodeAddsCardSaid : Prop := Claim7.holds Tryz.pinned (.plain (OpenSpec.ofChange codeAddsSpec)) codeAddsCard

/-- THE TIED CARD OF 'osierlaw08.CodeOrders'. -/
def codeOrdersCard : Claim7 := { stood := { row := codeOrdersRow, standIns := [], harness := (true, "0e0d5cd8abebae8cdc0ced51562bed4ef1b46d623177703d48300600ddeb6f0b"), looks := false }, kinds := [], alts := [], laidByText := true, laidKinds := [.data, .pinned], laidTests := true, laidLooks := .later }
def CodeOrdersCardSaid : Prop := Claim7.holds Tryz.pinned (.plain (OpenSpec.ofChange codeOrdersSpec)) codeOrdersCard

/-- THE TIED CARD OF 'osierlaw08.CodeNobody'. -/
def codeNobodyCard : Claim7 := { stood := { row := codeNobodyRow, standIns := [], harness := (true, "0e0d5cd8abebae8cdc0ced51562bed4ef1b46d623177703d48300600ddeb6f0b"), looks := false }, kinds := [], alts := [], laidByText := true, laidKinds := [.data, .pinned], laidTests := true, laidLooks := .later }
def CodeNobodyCardSaid : Prop := Claim7.holds Tryz.pinned (.plain (OpenSpec.ofChange codeNobodySpec)) codeNobodyCard

/-- THE SECOND FORM's CARD OF 'osierlaw08.CodeRanges'. -/
def codeRangesUptoCard : Claim7 := { stood := { row := codeRangesUptoRow, standIns := [], harness := (true, "0e0d5cd8abebae8cdc0ced51562bed4ef1b46d623177703d48300600ddeb6f0b"), looks := false }, kinds := [], alts := [], laidByText := true, laidKinds := [.data, .pinned], laidTests := true, laidLooks := .later }
def CodeRangesUptoCardSaid : Prop := Claim7.holds Tryz.pinned (.plain (OpenSpec.upto codeRangesSpec)) codeRangesUptoCard

/-- THE SECOND FORM's CARD OF 'osierlaw08.CodeEqual'. -/
def codeEqualUptoCard : Claim7 := { stood := { row := codeEqualUptoRow, standIns := [], harness := (true, "0e0d5cd8abebae8cdc0ced51562bed4ef1b46d623177703d48300600ddeb6f0b"), looks := false }, kinds := [], alts := [], laidByText := true, laidKinds := [.data, .pinned], laidTests := true, laidLooks := .later }
def CodeEqualUptoCardSaid : Prop := Claim7.holds Tryz.pinned (.plain (OpenSpec.upto codeEqualSpec)) codeEqualUptoCard

/-- THE SECOND FORM's CARD OF 'osierlaw08.CodeTuples'. -/
def codeTuplesUptoCard : Claim7 := { stood := { row := codeTuplesUptoRow, standIns := [], harness := (true, "0e0d5cd8abebae8cdc0ced51562bed4ef1b46d623177703d48300600ddeb6f0b"), looks := false }, kinds := [], alts := [], laidByText := true, laidKinds := [.data, .pinned], laidTests := true, laidLooks := .later }
def CodeTuplesUptoCardSaid : Prop := Claim7.holds Tryz.pinned (.plain (OpenSpec.upto codeTuplesSpec)) codeTuplesUptoCard

/-- THE SECOND FORM's CARD OF 'osierlaw08.CodeVars'. -/
def codeVarsUptoCard : Claim7 := { stood := { row := codeVarsUptoRow, standIns := [], harness := (true, "0e0d5cd8abebae8cdc0ced51562bed4ef1b46d623177703d48300600ddeb6f0b"), looks := false }, kinds := [], alts := [], laidByText := true, laidKinds := [.data, .pinned], laidTests := true, laidLooks := .later }
def CodeVarsUptoCardSaid : Prop := Claim7.holds Tryz.pinned (.plain (OpenSpec.upto codeVarsSpec)) codeVarsUptoCard

/-- THE SECOND FORM's CARD OF 'osierlaw08.CodeAdds'. -/
def codeAddsUptoCard : Claim7 := { stood := { row := codeAddsUptoRow, standIns := [], harness := (true, "0e0d5cd8abebae8cdc0ced51562bed4ef1b46d623177703d48300600ddeb6f0b"), looks := false }, kinds := [], alts := [], laidByText := true, laidKinds := [.data, .pinned], laidTests := true, laidLooks := .later }
def CodeAddsUptoCardSaid : Prop := Claim7.holds Tryz.pinned (.plain (OpenSpec.upto codeAddsSpec)) codeAddsUptoCard

/-- THE SECOND FORM's CARD OF 'osierlaw08.CodeOrders'. -/
def codeOrdersUptoCard : Claim7 := { stood := { row := codeOrdersUptoRow, standIns := [], harness := (true, "0e0d5cd8abebae8cdc0ced51562bed4ef1b46d623177703d48300600ddeb6f0b"), looks := false }, kinds := [], alts := [], laidByText := true, laidKinds := [.data, .pinned], laidTests := true, laidLooks := .later }
def CodeOrdersUptoCardSaid : Prop := Claim7.holds Tryz.pinned (.plain (OpenSpec.upto codeOrdersSpec)) codeOrdersUptoCard

/-- THE SECOND FORM's CARD OF 'osierlaw08.CodeNobody'. -/
def codeNobodyUptoCard : Claim7 := { stood := { row := codeNobodyUptoRow, standIns := [], harness := (true, "0e0d5cd8abebae8cdc0ced51562bed4ef1b46d623177703d48300600ddeb6f0b"), looks := false }, kinds := [], alts := [], laidByText := true, laidKinds := [.data, .pinned], laidTests := true, laidLooks := .later }
def CodeNobodyUptoCardSaid : Prop := Claim7.holds Tryz.pinned (.plain (OpenSpec.upto codeNobodySpec)) codeNobodyUptoCard
end Rows
end Go.Proofs.YtndlnadbnganeaaGreatDoor
