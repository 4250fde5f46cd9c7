/-
  DERIVED. GIVEN WITH THE SEED: THE CARDS: each row of YtklgbjgjojelbaaGreatDoorRows.lean that lists a variable, with what it lists TIED to the program's text (the seventh form; the later family's looks); each row that meets fmt, with fmt's text TOLD by the authors' own Lean function (tested against real Go, not proved from fmt's source: count such statements apart). THE CARD IS WHAT COUNTS. Prove the row's statement (the work); the ties are given (YtklgbjgjojelbaaGreatDoorTie.lean); close each card by the builder's one call (the guide's Derived/Test/ToyasCard.lean, 'card_holds'). Laid BY PROGRAM, IN A SANDBOX (cutbox-door.mjs). By AI agents, Wed Nov 11 2026. No macro, syntax, notation, axiom, sorry.
-/
import Derived.Test.YtklgbjgjojelbaaGreatDoorRows
import GoSem.ClaimSeven
namespace Go.Proofs.YtklgbjgjojelbaaGreatDoor
namespace Rows

/-- THE TIED CARD OF 'laws.FnExactFormatWorkshop'. -/
def fnExactFormatWorkshopCard : Claim7 := { stood := { row := fnExactFormatWorkshopRow, standIns := [], harness := (true, "abb5c32b0e456ea01a686e956a31d5dffac3af068cfa862a0447f0f62db502e3"), looks := false }, kinds := [], alts := [], laidByText := true, laidKinds := [.data, .data, .data], laidTests := true, laidLooks := .later }
def FnExactFormatWorkshopCardSaid : Prop := Claim7.holds Tryz.pinned (.plain (OpenSpec.ofChange fnExactFormatWorkshopSpec)) fnExactFormatWorkshopCard

/-- THE SECOND FORM's CARD OF 'laws.FnExactFormatWorkshop'. -/
def fnExactFormatWorkshopUptoCard : Claim7 := { stood := { row := fnExactFormatWorkshopUptoRow, standIns := [], harness := (true, "abb5c32b0e456ea01a686e956a31d5dffac3af068cfa862a0447f0f62db502e3"), looks := false }, kinds := [], alts := [], laidByText := true, laidKinds := [.data, .data, .data], laidTests := true, laidLooks := .later }
def FnExactFormatWorkshopUptoCardSaid : Prop := Claim7.holds Tryz.pinned (.plain (OpenSpec.upto fnExactFormatWorkshopSpec)) fnExactFormatWorkshopUptoCard
end Rows
end Go.Proofs.YtklgbjgjojelbaaGreatDoor
