/-
  DERIVED. GIVEN WITH THE SEED: THE CARDS: each row of YtbjfooibiioooaaGreatDoorRows.lean that lists a variable, with what it lists TIED to the program's text (the seventh form; the later family's looks); each row that meets fmt, with fmt's text TOLD by the authors' own Lean function (tested against real Go, not proved from fmt's source: count such statements apart). THE CARD IS WHAT COUNTS. Prove the row's statement (the work); the ties are given (YtbjfooibiioooaaGreatDoorTie.lean); close each card by the builder's one call (the guide's Derived/Test/ToyasCard.lean, 'card_holds'). Laid BY PROGRAM, IN A SANDBOX (cutbox-door.mjs). By AI agents, Wed Nov 11 2026. No macro, syntax, notation, axiom, sorry.
-/
import Derived.Test.YtbjfooibiioooaaGreatDoorRows
import GoSem.ClaimSeven
namespace Go.Proofs.YtbjfooibiioooaaGreatDoor
namespace Rows

/-- THE TIED CARD OF 'laws.FnExactShortenFlips'. -/
def fnExactShortenFlipsCard : Claim7 := { stood := { row := fnExactShortenFlipsRow, standIns := [], harness := (true, "cd5d58df5139249e33f291b4b323e17c90323abb9625041aa5bff99e6673eae7"), looks := false }, kinds := [], alts := [], laidByText := true, laidKinds := [.data, .data, .data], laidTests := true, laidLooks := .later }
def FnExactShortenFlipsCardSaid : Prop := Claim7.holds Tryz.pinned (.plain (OpenSpec.ofChange fnExactShortenFlipsSpec)) fnExactShortenFlipsCard

/-- THE TIED CARD OF 'laws.FnExactBreakDomino'. -/
def fnExactBreakDominoCard : Claim7 := { stood := { row := fnExactBreakDominoRow, standIns := [], harness := (true, "cd5d58df5139249e33f291b4b323e17c90323abb9625041aa5bff99e6673eae7"), looks := false }, kinds := [], alts := [], laidByText := true, laidKinds := [.data, .data, .data], laidTests := true, laidLooks := .later }
def FnExactBreakDominoCardSaid : Prop := Claim7.holds Tryz.pinned (.plain (OpenSpec.ofChange fnExactBreakDominoSpec)) fnExactBreakDominoCard

/-- THE TIED CARD OF 'laws.FnExactIsReplay'. -/
def fnExactIsReplayCard : Claim7 := { stood := { row := fnExactIsReplayRow, standIns := [], harness := (true, "cd5d58df5139249e33f291b4b323e17c90323abb9625041aa5bff99e6673eae7"), looks := false }, kinds := [], alts := [], laidByText := true, laidKinds := [.data, .data, .data], laidTests := true, laidLooks := .later }
def FnExactIsReplayCardSaid : Prop := Claim7.holds Tryz.pinned (.plain (OpenSpec.ofChange fnExactIsReplaySpec)) fnExactIsReplayCard

/-- THE TIED CARD OF 'laws.FnExactDoAct'. -/
def fnExactDoActCard : Claim7 := { stood := { row := fnExactDoActRow, standIns := [], harness := (true, "cd5d58df5139249e33f291b4b323e17c90323abb9625041aa5bff99e6673eae7"), looks := false }, kinds := [], alts := [], laidByText := true, laidKinds := [.data, .data, .data], laidTests := true, laidLooks := .later }
def FnExactDoActCardSaid : Prop := Claim7.holds Tryz.pinned (.plain (OpenSpec.ofChange fnExactDoActSpec)) fnExactDoActCard

/-- THE TIED CARD OF 'laws.FnExactRunActs'. -/
def fnExactRunActsCard : Claim7 := { stood := { row := fnExactRunActsRow, standIns := [], harness := (true, "cd5d58df5139249e33f291b4b323e17c90323abb9625041aa5bff99e6673eae7"), looks := false }, kinds := [], alts := [], laidByText := true, laidKinds := [.data, .data, .data], laidTests := true, laidLooks := .later }
def FnExactRunActsCardSaid : Prop := Claim7.holds Tryz.pinned (.plain (OpenSpec.ofChange fnExactRunActsSpec)) fnExactRunActsCard

/-- THE SECOND FORM's CARD OF 'laws.FnExactShortenFlips'. -/
def fnExactShortenFlipsUptoCard : Claim7 := { stood := { row := fnExactShortenFlipsUptoRow, standIns := [], harness := (true, "cd5d58df5139249e33f291b4b323e17c90323abb9625041aa5bff99e6673eae7"), looks := false }, kinds := [], alts := [], laidByText := true, laidKinds := [.data, .data, .data], laidTests := true, laidLooks := .later }
def FnExactShortenFlipsUptoCardSaid : Prop := Claim7.holds Tryz.pinned (.plain (OpenSpec.upto fnExactShortenFlipsSpec)) fnExactShortenFlipsUptoCard

/-- THE SECOND FORM's CARD OF 'laws.FnExactBreakDomino'. -/
def fnExactBreakDominoUptoCard : Claim7 := { stood := { row := fnExactBreakDominoUptoRow, standIns := [], harness := (true, "cd5d58df5139249e33f291b4b323e17c90323abb9625041aa5bff99e6673eae7"), looks := false }, kinds := [], alts := [], laidByText := true, laidKinds := [.data, .data, .data], laidTests := true, laidLooks := .later }
def FnExactBreakDominoUptoCardSaid : Prop := Claim7.holds Tryz.pinned (.plain (OpenSpec.upto fnExactBreakDominoSpec)) fnExactBreakDominoUptoCard

/-- THE SECOND FORM's CARD OF 'laws.FnExactIsReplay'. -/
def fnExactIsReplayUptoCard : Claim7 := { stood := { row := fnExactIsReplayUptoRow, standIns := [], harness := (true, "cd5d58df5139249e33f291b4b323e17c90323abb9625041aa5bff99e6673eae7"), looks := false }, kinds := [], alts := [], laidByText := true, laidKinds := [.data, .data, .data], laidTests := true, laidLooks := .later }
def FnExactIsReplayUptoCardSaid : Prop := Claim7.holds Tryz.pinned (.plain (OpenSpec.upto fnExactIsReplaySpec)) fnExactIsReplayUptoCard

/-- THE SECOND FORM's CARD OF 'laws.FnExactDoAct'. -/
def fnExactDoActUptoCard : Claim7 := { stood := { row := fnExactDoActUptoRow, standIns := [], harness := (true, "cd5d58df5139249e33f291b4b323e17c90323abb9625041aa5bff99e6673eae7"), looks := false }, kinds := [], alts := [], laidByText := true, laidKinds := [.data, .data, .data], laidTests := true, laidLooks := .later }
def FnExactDoActUptoCardSaid : Prop := Claim7.holds Tryz.pinned (.plain (OpenSpec.upto fnExactDoActSpec)) fnExactDoActUptoCard

/-- THE SECOND FORM's CARD OF 'laws.FnExactRunActs'. -/
def fnExactRunActsUptoCard : Claim7 := { stood := { row := fnExactRunActsUptoRow, standIns := [], harness := (true, "cd5d58df5139249e33f291b4b323e17c90323abb9625041aa5bff99e6673eae7"), looks := false }, kinds := [], alts := [], laidByText := true, laidKinds := [.data, .data, .data], laidTests := true, laidLooks := .later }
def FnExactRunActsUptoCardSaid : Prop := Claim7.holds Tryz.pinned (.plain (OpenSpec.upto fnExactRunActsSpec)) fnExactRunActsUptoCard
end Rows
end Go.Proofs.YtbjfooibiioooaaGreatDoor
