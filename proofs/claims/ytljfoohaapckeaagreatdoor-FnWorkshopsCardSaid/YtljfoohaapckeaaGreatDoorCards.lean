/-
  DERIVED. GIVEN WITH THE SEED: THE CARDS: each row of YtljfoohaapckeaaGreatDoorRows.lean that lists a variable, with what it lists TIED to the program's text (the seventh form; the later family's looks); each row that meets fmt, with fmt's text TOLD by the authors' own Lean function (tested against real Go, not proved from fmt's source: count such statements apart). THE CARD IS WHAT COUNTS. Prove the row's statement (the work); the ties are given (YtljfoohaapckeaaGreatDoorTie.lean); close each card by the builder's one call (the guide's Derived/Test/ToyasCard.lean, 'card_holds'). Laid BY PROGRAM, IN A SANDBOX (cutbox-door.mjs). By AI agents, Wed Nov 11 2026. No macro, syntax, notation, axiom, sorry.
-/
import Derived.Test.YtljfoohaapckeaaGreatDoorRows
import GoSem.ClaimSeven
namespace Go.Proofs.YtljfoohaapckeaaGreatDoor
namespace Rows

/-- THE TIED CARD OF 'laws.FnScenarios'. -/
def fnScenariosCard : Claim7 := { stood := { row := fnScenariosRow, standIns := [], harness := (true, "e9fa8d7c3b8e9233a52d2b043cc5e2b2c62f1cc25c779ea3b76df28fd68ff679"), looks := true }, kinds := [], alts := [], laidByText := true, laidKinds := [.data, .data, .data], laidTests := true, laidLooks := .later }
def FnScenariosCardSaid : Prop := Claim7.holds Tryz.pinned (.plain (OpenSpec.ofChange fnScenariosSpec)) fnScenariosCard

/-- THE TIED CARD OF 'laws.FnReplays'. -/
def fnReplaysCard : Claim7 := { stood := { row := fnReplaysRow, standIns := [], harness := (true, "e9fa8d7c3b8e9233a52d2b043cc5e2b2c62f1cc25c779ea3b76df28fd68ff679"), looks := true }, kinds := [], alts := [], laidByText := true, laidKinds := [.data, .data, .data], laidTests := true, laidLooks := .later }
def FnReplaysCardSaid : Prop := Claim7.holds Tryz.pinned (.plain (OpenSpec.ofChange fnReplaysSpec)) fnReplaysCard

/-- THE TIED CARD OF 'laws.FnActParts'. -/
def fnActPartsCard : Claim7 := { stood := { row := fnActPartsRow, standIns := [], harness := (true, "e9fa8d7c3b8e9233a52d2b043cc5e2b2c62f1cc25c779ea3b76df28fd68ff679"), looks := true }, kinds := [], alts := [], laidByText := true, laidKinds := [.data, .data, .data], laidTests := true, laidLooks := .later }
def FnActPartsCardSaid : Prop := Claim7.holds Tryz.pinned (.plain (OpenSpec.ofChange fnActPartsSpec)) fnActPartsCard

/-- THE TIED CARD OF 'laws.FnWorkshops'. -/
def fnWorkshopsCard : Claim7 := { stood := { row := fnWorkshopsRow, standIns := [], harness := (true, "e9fa8d7c3b8e9233a52d2b043cc5e2b2c62f1cc25c779ea3b76df28fd68ff679"), looks := true }, kinds := [], alts := [], laidByText := true, laidKinds := [.data, .data, .data], laidTests := true, laidLooks := .later }
def FnWorkshopsCardSaid : Prop := Claim7.holds Tryz.pinned (.plain (OpenSpec.ofChange fnWorkshopsSpec)) fnWorkshopsCard

/-- THE TIED CARD OF 'laws.FnJournals'. -/
def fnJournalsCard : Claim7 := { stood := { row := fnJournalsRow, standIns := [], harness := (true, "e9fa8d7c3b8e9233a52d2b043cc5e2b2c62f1cc25c779ea3b76df28fd68ff679"), looks := true }, kinds := [], alts := [], laidByText := true, laidKinds := [.data, .data, .data], laidTests := true, laidLooks := .later }
def FnJournalsCardSaid : Prop := Claim7.holds Tryz.pinned (.plain (OpenSpec.ofChange fnJournalsSpec)) fnJournalsCard

/-- THE TIED CARD OF 'laws.FnTop'. -/
def fnTopCard : Claim7 := { stood := { row := fnTopRow, standIns := [], harness := (true, "e9fa8d7c3b8e9233a52d2b043cc5e2b2c62f1cc25c779ea3b76df28fd68ff679"), looks := true }, kinds := [], alts := [], laidByText := true, laidKinds := [.data, .data, .data], laidTests := true, laidLooks := .later }
def FnTopCardSaid : Prop := Claim7.holds Tryz.pinned (.plain (OpenSpec.ofChange fnTopSpec)) fnTopCard

/-- THE TIED CARD OF 'laws.FnSummaries'. -/
def fnSummariesCard : Claim7 := { stood := { row := fnSummariesRow, standIns := [], harness := (true, "e9fa8d7c3b8e9233a52d2b043cc5e2b2c62f1cc25c779ea3b76df28fd68ff679"), looks := true }, kinds := [], alts := [], laidByText := true, laidKinds := [.data, .data, .data], laidTests := true, laidLooks := .later }
def FnSummariesCardSaid : Prop := Claim7.holds Tryz.pinned (.plain (OpenSpec.ofChange fnSummariesSpec)) fnSummariesCard

/-- THE TIED CARD OF 'laws.FnActTexts'. -/
def fnActTextsCard : Claim7 := { stood := { row := fnActTextsRow, standIns := [], harness := (true, "e9fa8d7c3b8e9233a52d2b043cc5e2b2c62f1cc25c779ea3b76df28fd68ff679"), looks := true }, kinds := [], alts := [], laidByText := true, laidKinds := [.data, .data, .data, .sentinel, .sentinel], laidTests := true, laidLooks := .later }
def FnActTextsCardSaid : Prop := Claim7.holds Tryz.pinned (.plain (OpenSpec.ofChange fnActTextsSpec)) fnActTextsCard

/-- THE TIED CARD OF 'laws.FnScripts'. -/
def fnScriptsCard : Claim7 := { stood := { row := fnScriptsRow, standIns := [], harness := (true, "e9fa8d7c3b8e9233a52d2b043cc5e2b2c62f1cc25c779ea3b76df28fd68ff679"), looks := true }, kinds := [], alts := [], laidByText := true, laidKinds := [.data, .data, .data, .data, .sentinel, .sentinel, .pinned], laidTests := true, laidLooks := .later }
def FnScriptsCardSaid : Prop := Claim7.holds Tryz.pinned (.plain (OpenSpec.ofChange fnScriptsSpec)) fnScriptsCard

/-- THE TIED CARD OF 'laws.FnExactRunScript'. -/
def fnExactRunScriptCard : Claim7 := { stood := { row := fnExactRunScriptRow, standIns := [], harness := (true, "e9fa8d7c3b8e9233a52d2b043cc5e2b2c62f1cc25c779ea3b76df28fd68ff679"), looks := true }, kinds := [], alts := [], laidByText := true, laidKinds := [.data, .data, .data, .data, .sentinel, .sentinel, .pinned], laidTests := true, laidLooks := .later }
def FnExactRunScriptCardSaid : Prop := Claim7.holds Tryz.pinned (.plain (OpenSpec.ofChange fnExactRunScriptSpec)) fnExactRunScriptCard

/-- THE SECOND FORM's CARD OF 'laws.FnScenarios'. -/
def fnScenariosUptoCard : Claim7 := { stood := { row := fnScenariosUptoRow, standIns := [], harness := (true, "e9fa8d7c3b8e9233a52d2b043cc5e2b2c62f1cc25c779ea3b76df28fd68ff679"), looks := true }, kinds := [], alts := [], laidByText := true, laidKinds := [.data, .data, .data], laidTests := true, laidLooks := .later }
def FnScenariosUptoCardSaid : Prop := Claim7.holds Tryz.pinned (.plain (OpenSpec.upto fnScenariosSpec)) fnScenariosUptoCard

/-- THE SECOND FORM's CARD OF 'laws.FnReplays'. -/
def fnReplaysUptoCard : Claim7 := { stood := { row := fnReplaysUptoRow, standIns := [], harness := (true, "e9fa8d7c3b8e9233a52d2b043cc5e2b2c62f1cc25c779ea3b76df28fd68ff679"), looks := true }, kinds := [], alts := [], laidByText := true, laidKinds := [.data, .data, .data], laidTests := true, laidLooks := .later }
def FnReplaysUptoCardSaid : Prop := Claim7.holds Tryz.pinned (.plain (OpenSpec.upto fnReplaysSpec)) fnReplaysUptoCard

/-- THE SECOND FORM's CARD OF 'laws.FnActParts'. -/
def fnActPartsUptoCard : Claim7 := { stood := { row := fnActPartsUptoRow, standIns := [], harness := (true, "e9fa8d7c3b8e9233a52d2b043cc5e2b2c62f1cc25c779ea3b76df28fd68ff679"), looks := true }, kinds := [], alts := [], laidByText := true, laidKinds := [.data, .data, .data], laidTests := true, laidLooks := .later }
def FnActPartsUptoCardSaid : Prop := Claim7.holds Tryz.pinned (.plain (OpenSpec.upto fnActPartsSpec)) fnActPartsUptoCard

/-- THE SECOND FORM's CARD OF 'laws.FnWorkshops'. -/
def fnWorkshopsUptoCard : Claim7 := { stood := { row := fnWorkshopsUptoRow, standIns := [], harness := (true, "e9fa8d7c3b8e9233a52d2b043cc5e2b2c62f1cc25c779ea3b76df28fd68ff679"), looks := true }, kinds := [], alts := [], laidByText := true, laidKinds := [.data, .data, .data], laidTests := true, laidLooks := .later }
def FnWorkshopsUptoCardSaid : Prop := Claim7.holds Tryz.pinned (.plain (OpenSpec.upto fnWorkshopsSpec)) fnWorkshopsUptoCard

/-- THE SECOND FORM's CARD OF 'laws.FnJournals'. -/
def fnJournalsUptoCard : Claim7 := { stood := { row := fnJournalsUptoRow, standIns := [], harness := (true, "e9fa8d7c3b8e9233a52d2b043cc5e2b2c62f1cc25c779ea3b76df28fd68ff679"), looks := true }, kinds := [], alts := [], laidByText := true, laidKinds := [.data, .data, .data], laidTests := true, laidLooks := .later }
def FnJournalsUptoCardSaid : Prop := Claim7.holds Tryz.pinned (.plain (OpenSpec.upto fnJournalsSpec)) fnJournalsUptoCard

/-- THE SECOND FORM's CARD OF 'laws.FnTop'. -/
def fnTopUptoCard : Claim7 := { stood := { row := fnTopUptoRow, standIns := [], harness := (true, "e9fa8d7c3b8e9233a52d2b043cc5e2b2c62f1cc25c779ea3b76df28fd68ff679"), looks := true }, kinds := [], alts := [], laidByText := true, laidKinds := [.data, .data, .data], laidTests := true, laidLooks := .later }
def FnTopUptoCardSaid : Prop := Claim7.holds Tryz.pinned (.plain (OpenSpec.upto fnTopSpec)) fnTopUptoCard

/-- THE SECOND FORM's CARD OF 'laws.FnSummaries'. -/
def fnSummariesUptoCard : Claim7 := { stood := { row := fnSummariesUptoRow, standIns := [], harness := (true, "e9fa8d7c3b8e9233a52d2b043cc5e2b2c62f1cc25c779ea3b76df28fd68ff679"), looks := true }, kinds := [], alts := [], laidByText := true, laidKinds := [.data, .data, .data], laidTests := true, laidLooks := .later }
def FnSummariesUptoCardSaid : Prop := Claim7.holds Tryz.pinned (.plain (OpenSpec.upto fnSummariesSpec)) fnSummariesUptoCard

/-- THE SECOND FORM's CARD OF 'laws.FnActTexts'. -/
def fnActTextsUptoCard : Claim7 := { stood := { row := fnActTextsUptoRow, standIns := [], harness := (true, "e9fa8d7c3b8e9233a52d2b043cc5e2b2c62f1cc25c779ea3b76df28fd68ff679"), looks := true }, kinds := [], alts := [], laidByText := true, laidKinds := [.data, .data, .data, .sentinel, .sentinel], laidTests := true, laidLooks := .later }
def FnActTextsUptoCardSaid : Prop := Claim7.holds Tryz.pinned (.plain (OpenSpec.upto fnActTextsSpec)) fnActTextsUptoCard

/-- THE SECOND FORM's CARD OF 'laws.FnScripts'. -/
def fnScriptsUptoCard : Claim7 := { stood := { row := fnScriptsUptoRow, standIns := [], harness := (true, "e9fa8d7c3b8e9233a52d2b043cc5e2b2c62f1cc25c779ea3b76df28fd68ff679"), looks := true }, kinds := [], alts := [], laidByText := true, laidKinds := [.data, .data, .data, .data, .sentinel, .sentinel, .pinned], laidTests := true, laidLooks := .later }
def FnScriptsUptoCardSaid : Prop := Claim7.holds Tryz.pinned (.plain (OpenSpec.upto fnScriptsSpec)) fnScriptsUptoCard

/-- THE SECOND FORM's CARD OF 'laws.FnExactRunScript'. -/
def fnExactRunScriptUptoCard : Claim7 := { stood := { row := fnExactRunScriptUptoRow, standIns := [], harness := (true, "e9fa8d7c3b8e9233a52d2b043cc5e2b2c62f1cc25c779ea3b76df28fd68ff679"), looks := true }, kinds := [], alts := [], laidByText := true, laidKinds := [.data, .data, .data, .data, .sentinel, .sentinel, .pinned], laidTests := true, laidLooks := .later }
def FnExactRunScriptUptoCardSaid : Prop := Claim7.holds Tryz.pinned (.plain (OpenSpec.upto fnExactRunScriptSpec)) fnExactRunScriptUptoCard
end Rows
end Go.Proofs.YtljfoohaapckeaaGreatDoor
