/-
  DERIVED. GIVEN WITH THE SEED: THE CARDS: each row of YtbfgdblebepgcaaDoorRows.lean that lists a variable, with what it lists TIED to the program's text (the seventh form; the later family's looks); each row that meets fmt, with fmt's text TOLD by the authors' own Lean function (tested against real Go, not proved from fmt's source: count such statements apart). THE CARD IS WHAT COUNTS. Prove the row's statement (the work); the ties are given (YtbfgdblebepgcaaDoorTie.lean); close each card by the builder's one call (the guide's Derived/Test/ToyasCard.lean, 'card_holds'). Laid BY PROGRAM, IN A SANDBOX (cutbox-door.mjs). By AI agents, Wed Nov 11 2026. No macro, syntax, notation, axiom, sorry.
-/
import Derived.Test.YtbfgdblebepgcaaDoorRows
import GoSem.ClaimSeven
namespace Go.Proofs.YtbfgdblebepgcaaDoor
namespace Rows

/-- THE TIED CARD OF 'osierlaw11.RulePrints'. -/
def rulePrintsCard : Claim7 := { stood := { row := rulePrintsRow, standIns := [], harness := (true, "8ba1f2406d44b4fdb5c85373501944bdd64898f18901efcddfb170537a8859ca"), looks := true }, kinds := [], alts := [], laidByText := true, laidKinds := [.data, .data, .data, .sentinel, .sentinel], laidTests := true, laidLooks := .later }
def RulePrintsCardSaid : Prop := Claim7.holds Tryd.pinned (.plain (OpenSpec.ofChange rulePrintsSpec)) rulePrintsCard

/-- THE TIED CARD OF 'osierlaw11.RuleBack'. -/
def ruleBackCard : Claim7 := { stood := { row := ruleBackRow, standIns := [], harness := (true, "8ba1f2406d44b4fdb5c85373501944bdd64898f18901efcddfb170537a8859ca"), looks := true }, kinds := [], alts := [], laidByText := true, laidKinds := [.data, .data, .data, .sentinel, .sentinel], laidTests := true, laidLooks := .later }
def RuleBackCardSaid : Prop := Claim7.holds Tryd.pinned (.plain (OpenSpec.ofChange ruleBackSpec)) ruleBackCard

/-- THE TIED CARD OF 'osierlaw11.RuleAgain'. -/
def ruleAgainCard : Claim7 := { stood := { row := ruleAgainRow, standIns := [], harness := (true, "8ba1f2406d44b4fdb5c85373501944bdd64898f18901efcddfb170537a8859ca"), looks := true }, kinds := [], alts := [], laidByText := true, laidKinds := [.data, .data, .data, .sentinel, .sentinel], laidTests := true, laidLooks := .later }
def RuleAgainCardSaid : Prop := Claim7.holds Tryd.pinned (.plain (OpenSpec.ofChange ruleAgainSpec)) ruleAgainCard

/-- THE TIED CARD OF 'osierlaw11.RuleBlanks'. -/
def ruleBlanksCard : Claim7 := { stood := { row := ruleBlanksRow, standIns := [], harness := (true, "8ba1f2406d44b4fdb5c85373501944bdd64898f18901efcddfb170537a8859ca"), looks := true }, kinds := [], alts := [], laidByText := true, laidKinds := [.data, .data, .data, .sentinel, .sentinel], laidTests := true, laidLooks := .later }
def RuleBlanksCardSaid : Prop := Claim7.holds Tryd.pinned (.plain (OpenSpec.ofChange ruleBlanksSpec)) ruleBlanksCard

/-- THE SECOND FORM's CARD OF 'osierlaw11.RulePrints'. -/
def rulePrintsUptoCard : Claim7 := { stood := { row := rulePrintsUptoRow, standIns := [], harness := (true, "8ba1f2406d44b4fdb5c85373501944bdd64898f18901efcddfb170537a8859ca"), looks := true }, kinds := [], alts := [], laidByText := true, laidKinds := [.data, .data, .data, .sentinel, .sentinel], laidTests := true, laidLooks := .later }
def RulePrintsUptoCardSaid : Prop := Claim7.holds Tryd.pinned (.plain (OpenSpec.upto rulePrintsSpec)) rulePrintsUptoCard

/-- THE SECOND FORM's CARD OF 'osierlaw11.RuleBack'. -/
def ruleBackUptoCard : Claim7 := { stood := { row := ruleBackUptoRow, standIns := [], harness := (true, "8ba1f2406d44b4fdb5c85373501944bdd64898f18901efcddfb170537a8859ca"), looks := true }, kinds := [], alts := [], laidByText := true, laidKinds := [.data, .data, .data, .sentinel, .sentinel], laidTests := true, laidLooks := .later }
def RuleBackUptoCardSaid : Prop := Claim7.holds Tryd.pinned (.plain (OpenSpec.upto ruleBackSpec)) ruleBackUptoCard

/-- THE SECOND FORM's CARD OF 'osierlaw11.RuleAgain'. -/
def ruleAgainUptoCard : Claim7 := { stood := { row := ruleAgainUptoRow, standIns := [], harness := (true, "8ba1f2406d44b4fdb5c85373501944bdd64898f18901efcddfb170537a8859ca"), looks := true }, kinds := [], alts := [], laidByText := true, laidKinds := [.data, .data, .data, .sentinel, .sentinel], laidTests := true, laidLooks := .later }
def RuleAgainUptoCardSaid : Prop := Claim7.holds Tryd.pinned (.plain (OpenSpec.upto ruleAgainSpec)) ruleAgainUptoCard

/-- THE SECOND FORM's CARD OF 'osierlaw11.RuleBlanks'. -/
def ruleBlanksUptoCard : Claim7 := { stood := { row := ruleBlanksUptoRow, standIns := [], harness := (true, "8ba1f2406d44b4fdb5c85373501944bdd64898f18901efcddfb170537a8859ca"), looks := true }, kinds := [], alts := [], laidByText := true, laidKinds := [.data, .data, .data, .sentinel, .sentinel], laidTests := true, laidLooks := .later }
def RuleBlanksUptoCardSaid : Prop := Claim7.holds Tryd.pinned (.plain (OpenSpec.upto ruleBlanksSpec)) ruleBlanksUptoCard
end Rows
end Go.Proofs.YtbfgdblebepgcaaDoor
