/-
  No cell of these rows narrows 'for every input' (looked for: loops, veiled, ifaces, maps, wideKeys, modest, calm, conditions, laid).
  DERIVED. THE GIVEN ROWS OF THIS SEAT. 12 by the template 'for every input the law returns true; each argument reads behind the call as it read before'; 0 by the template 'total and deterministic' (their statements: YthmijfcoplillaaTotals.lean).
  GIVEN WITH THE SEED: the statements are not yours to turn. If you find one false, say at which input.
  Laid BY PROGRAM, IN A SANDBOX (cutbox-rows.mjs): the forced cells as the released guide's own fill.sh prints them over the translation 3475f34696b3a590… (all of the seat's roots in one cut). By AI agents, Wed Nov 11 2026. No macro, syntax, notation, axiom, sorry.
-/
import Derived.Test.YthmijfcoplillaaChecked
import GoSem.Claim
import GoSem.ClaimJoined
import GoSem.ClaimMapViews
import Derived.JoinedTies
import Derived.KernelRfl
namespace Go.Proofs.Ythmijfcoplillaa
/- THE CELL 'sum', in the pinned program and in every row, IS THE sha256 OF THE DUMP (.gsa) THAT YthmijfcoplillaaProg.lean LOADS. Nothing in Lean hashes anything: it is a label: what it is worth is what the hold of that sum in a sandbox is worth. -/
noncomputable def Try.pinned : Pinned := { name := "ythmijfcoplillaa", sum := "3475f34696b3a59079b604496969d27ee7965bf733ecc8f4a1b6b33ebabc1ac8", checked := Try.checked }
namespace Rows
def none {H : Type} : Left H := { results := [], args := [] }

/-- 'laws.FnExactActOk': WHATEVER THE INPUT: true; the input reads as it did. -/
def fnExactActOkSpec : ChangeSpec := { name := "fnExactActOk", fn := fun _ => fun
  | [d] => { results := [.lit (.bool true)], args := [d] }
  | _ => none }
def fnExactActOkRow : OpenClaim := { program := "ythmijfcoplillaa", sum := "3475f34696b3a59079b604496969d27ee7965bf733ecc8f4a1b6b33ebabc1ac8", func := "loop.example/g03300/laws.FnExactActOk", spec := "fnExactActOk", apart := false }
def FnExactActOkSaid : Prop := fnExactActOkRow.holds Try.pinned (OpenSpec.ofChange fnExactActOkSpec)

/-- ITS FALSE NEIGHBOUR: 'it returns false'. Refute it at one input. -/
def fnExactActOkWrong : ChangeSpec := { name := "fnExactActOk", fn := fun _ => fun
  | [d] => { results := [.lit (.bool false)], args := [d] }
  | _ => none }
def FnExactActOkWrongFalsely : Prop := fnExactActOkRow.holds Try.pinned (OpenSpec.ofChange fnExactActOkWrong)

/-- 'laws.FnExactSampleBoxes': WHATEVER THE INPUT: true; the input reads as it did. -/
def fnExactSampleBoxesSpec : ChangeSpec := { name := "fnExactSampleBoxes", fn := fun _ => fun
  | [] => { results := [.lit (.bool true)], args := [] }
  | _ => none }
def fnExactSampleBoxesRow : OpenClaim := { program := "ythmijfcoplillaa", sum := "3475f34696b3a59079b604496969d27ee7965bf733ecc8f4a1b6b33ebabc1ac8", func := "loop.example/g03300/laws.FnExactSampleBoxes", spec := "fnExactSampleBoxes", apart := false }
def FnExactSampleBoxesSaid : Prop := fnExactSampleBoxesRow.holds Try.pinned (OpenSpec.ofChange fnExactSampleBoxesSpec)

/-- ITS FALSE NEIGHBOUR: 'it returns false'. Refute it at one input. -/
def fnExactSampleBoxesWrong : ChangeSpec := { name := "fnExactSampleBoxes", fn := fun _ => fun
  | [] => { results := [.lit (.bool false)], args := [] }
  | _ => none }
def FnExactSampleBoxesWrongFalsely : Prop := fnExactSampleBoxesRow.holds Try.pinned (OpenSpec.ofChange fnExactSampleBoxesWrong)

/-- 'laws.FnExactSameFloor': WHATEVER THE INPUT: true; the input reads as it did. -/
def fnExactSameFloorSpec : ChangeSpec := { name := "fnExactSameFloor", fn := fun _ => fun
  | [d1, d2] => { results := [.lit (.bool true)], args := [d1, d2] }
  | _ => none }
def fnExactSameFloorRow : OpenClaim := { program := "ythmijfcoplillaa", sum := "3475f34696b3a59079b604496969d27ee7965bf733ecc8f4a1b6b33ebabc1ac8", func := "loop.example/g03300/laws.FnExactSameFloor", spec := "fnExactSameFloor", apart := false }
def FnExactSameFloorSaid : Prop := fnExactSameFloorRow.holds Try.pinned (OpenSpec.ofChange fnExactSameFloorSpec)

/-- ITS FALSE NEIGHBOUR: 'it returns false'. Refute it at one input. -/
def fnExactSameFloorWrong : ChangeSpec := { name := "fnExactSameFloor", fn := fun _ => fun
  | [d1, d2] => { results := [.lit (.bool false)], args := [d1, d2] }
  | _ => none }
def FnExactSameFloorWrongFalsely : Prop := fnExactSameFloorRow.holds Try.pinned (OpenSpec.ofChange fnExactSameFloorWrong)

/-- 'laws.FnExactCountSigns': WHATEVER THE INPUT: true; the input reads as it did. -/
def fnExactCountSignsSpec : ChangeSpec := { name := "fnExactCountSigns", fn := fun _ => fun
  | [d1, d2] => { results := [.lit (.bool true)], args := [d1, d2] }
  | _ => none }
def fnExactCountSignsRow : OpenClaim := { program := "ythmijfcoplillaa", sum := "3475f34696b3a59079b604496969d27ee7965bf733ecc8f4a1b6b33ebabc1ac8", func := "loop.example/g03300/laws.FnExactCountSigns", spec := "fnExactCountSigns", apart := false }
def FnExactCountSignsSaid : Prop := fnExactCountSignsRow.holds Try.pinned (OpenSpec.ofChange fnExactCountSignsSpec)

/-- ITS FALSE NEIGHBOUR: 'it returns false'. Refute it at one input. -/
def fnExactCountSignsWrong : ChangeSpec := { name := "fnExactCountSigns", fn := fun _ => fun
  | [d1, d2] => { results := [.lit (.bool false)], args := [d1, d2] }
  | _ => none }
def FnExactCountSignsWrongFalsely : Prop := fnExactCountSignsRow.holds Try.pinned (OpenSpec.ofChange fnExactCountSignsWrong)

/-- 'laws.FnExactBoxesOk': WHATEVER THE INPUT: true; the input reads as it did. -/
def fnExactBoxesOkSpec : ChangeSpec := { name := "fnExactBoxesOk", fn := fun _ => fun
  | [d] => { results := [.lit (.bool true)], args := [d] }
  | _ => none }
def fnExactBoxesOkRow : OpenClaim := { program := "ythmijfcoplillaa", sum := "3475f34696b3a59079b604496969d27ee7965bf733ecc8f4a1b6b33ebabc1ac8", func := "loop.example/g03300/laws.FnExactBoxesOk", spec := "fnExactBoxesOk", apart := false }
def FnExactBoxesOkSaid : Prop := fnExactBoxesOkRow.holds Try.pinned (OpenSpec.ofChange fnExactBoxesOkSpec)

/-- ITS FALSE NEIGHBOUR: 'it returns false'. Refute it at one input. -/
def fnExactBoxesOkWrong : ChangeSpec := { name := "fnExactBoxesOk", fn := fun _ => fun
  | [d] => { results := [.lit (.bool false)], args := [d] }
  | _ => none }
def FnExactBoxesOkWrongFalsely : Prop := fnExactBoxesOkRow.holds Try.pinned (OpenSpec.ofChange fnExactBoxesOkWrong)

/-- 'laws.FnExactBestBox': WHATEVER THE INPUT: true; the input reads as it did. -/
def fnExactBestBoxSpec : ChangeSpec := { name := "fnExactBestBox", fn := fun _ => fun
  | [d] => { results := [.lit (.bool true)], args := [d] }
  | _ => none }
def fnExactBestBoxRow : OpenClaim := { program := "ythmijfcoplillaa", sum := "3475f34696b3a59079b604496969d27ee7965bf733ecc8f4a1b6b33ebabc1ac8", func := "loop.example/g03300/laws.FnExactBestBox", spec := "fnExactBestBox", apart := false }
def FnExactBestBoxSaid : Prop := fnExactBestBoxRow.holds Try.pinned (OpenSpec.ofChange fnExactBestBoxSpec)

/-- ITS FALSE NEIGHBOUR: 'it returns false'. Refute it at one input. -/
def fnExactBestBoxWrong : ChangeSpec := { name := "fnExactBestBox", fn := fun _ => fun
  | [d] => { results := [.lit (.bool false)], args := [d] }
  | _ => none }
def FnExactBestBoxWrongFalsely : Prop := fnExactBestBoxRow.holds Try.pinned (OpenSpec.ofChange fnExactBestBoxWrong)

/-- 'laws.FnExactCheapestBoxes': WHATEVER THE INPUT: true; the input reads as it did. -/
def fnExactCheapestBoxesSpec : ChangeSpec := { name := "fnExactCheapestBoxes", fn := fun _ => fun
  | [d1, d2] => { results := [.lit (.bool true)], args := [d1, d2] }
  | _ => none }
def fnExactCheapestBoxesRow : OpenClaim := { program := "ythmijfcoplillaa", sum := "3475f34696b3a59079b604496969d27ee7965bf733ecc8f4a1b6b33ebabc1ac8", func := "loop.example/g03300/laws.FnExactCheapestBoxes", spec := "fnExactCheapestBoxes", apart := false }
def FnExactCheapestBoxesSaid : Prop := fnExactCheapestBoxesRow.holds Try.pinned (OpenSpec.ofChange fnExactCheapestBoxesSpec)

/-- ITS FALSE NEIGHBOUR: 'it returns false'. Refute it at one input. -/
def fnExactCheapestBoxesWrong : ChangeSpec := { name := "fnExactCheapestBoxes", fn := fun _ => fun
  | [d1, d2] => { results := [.lit (.bool false)], args := [d1, d2] }
  | _ => none }
def FnExactCheapestBoxesWrongFalsely : Prop := fnExactCheapestBoxesRow.holds Try.pinned (OpenSpec.ofChange fnExactCheapestBoxesWrong)

/-- 'laws.FnExactBoxesHold': WHATEVER THE INPUT: true; the input reads as it did. -/
def fnExactBoxesHoldSpec : ChangeSpec := { name := "fnExactBoxesHold", fn := fun _ => fun
  | [d1, d2] => { results := [.lit (.bool true)], args := [d1, d2] }
  | _ => none }
def fnExactBoxesHoldRow : OpenClaim := { program := "ythmijfcoplillaa", sum := "3475f34696b3a59079b604496969d27ee7965bf733ecc8f4a1b6b33ebabc1ac8", func := "loop.example/g03300/laws.FnExactBoxesHold", spec := "fnExactBoxesHold", apart := false }
def FnExactBoxesHoldSaid : Prop := fnExactBoxesHoldRow.holds Try.pinned (OpenSpec.ofChange fnExactBoxesHoldSpec)

/-- ITS FALSE NEIGHBOUR: 'it returns false'. Refute it at one input. -/
def fnExactBoxesHoldWrong : ChangeSpec := { name := "fnExactBoxesHold", fn := fun _ => fun
  | [d1, d2] => { results := [.lit (.bool false)], args := [d1, d2] }
  | _ => none }
def FnExactBoxesHoldWrongFalsely : Prop := fnExactBoxesHoldRow.holds Try.pinned (OpenSpec.ofChange fnExactBoxesHoldWrong)

/-- 'laws.FnBoxes': WHATEVER THE INPUT: true; the input reads as it did. -/
def fnBoxesSpec : ChangeSpec := { name := "fnBoxes", fn := fun _ => fun
  | [d] => { results := [.lit (.bool true)], args := [d] }
  | _ => none }
def fnBoxesRow : OpenClaim := { program := "ythmijfcoplillaa", sum := "3475f34696b3a59079b604496969d27ee7965bf733ecc8f4a1b6b33ebabc1ac8", func := "loop.example/g03300/laws.FnBoxes", spec := "fnBoxes", apart := false }
def FnBoxesSaid : Prop := fnBoxesRow.holds Try.pinned (OpenSpec.ofChange fnBoxesSpec)

/-- ITS FALSE NEIGHBOUR: 'it returns false'. Refute it at one input. -/
def fnBoxesWrong : ChangeSpec := { name := "fnBoxes", fn := fun _ => fun
  | [d] => { results := [.lit (.bool false)], args := [d] }
  | _ => none }
def FnBoxesWrongFalsely : Prop := fnBoxesRow.holds Try.pinned (OpenSpec.ofChange fnBoxesWrong)

/-- 'laws.FnExactFloorPrice': WHATEVER THE INPUT: true; the input reads as it did. -/
def fnExactFloorPriceSpec : ChangeSpec := { name := "fnExactFloorPrice", fn := fun _ => fun
  | [d1, d2] => { results := [.lit (.bool true)], args := [d1, d2] }
  | _ => none }
def fnExactFloorPriceRow : OpenClaim := { program := "ythmijfcoplillaa", sum := "3475f34696b3a59079b604496969d27ee7965bf733ecc8f4a1b6b33ebabc1ac8", func := "loop.example/g03300/laws.FnExactFloorPrice", spec := "fnExactFloorPrice", apart := false }
def FnExactFloorPriceSaid : Prop := fnExactFloorPriceRow.holds Try.pinned (OpenSpec.ofChange fnExactFloorPriceSpec)

/-- ITS FALSE NEIGHBOUR: 'it returns false'. Refute it at one input. -/
def fnExactFloorPriceWrong : ChangeSpec := { name := "fnExactFloorPrice", fn := fun _ => fun
  | [d1, d2] => { results := [.lit (.bool false)], args := [d1, d2] }
  | _ => none }
def FnExactFloorPriceWrongFalsely : Prop := fnExactFloorPriceRow.holds Try.pinned (OpenSpec.ofChange fnExactFloorPriceWrong)

/-- 'laws.FnExactWithCell': WHATEVER THE INPUT: true; the input reads as it did. -/
def fnExactWithCellSpec : ChangeSpec := { name := "fnExactWithCell", fn := fun _ => fun
  | [d1, d2, d3] => { results := [.lit (.bool true)], args := [d1, d2, d3] }
  | _ => none }
def fnExactWithCellRow : OpenClaim := { program := "ythmijfcoplillaa", sum := "3475f34696b3a59079b604496969d27ee7965bf733ecc8f4a1b6b33ebabc1ac8", func := "loop.example/g03300/laws.FnExactWithCell", spec := "fnExactWithCell", apart := false }
def FnExactWithCellSaid : Prop := fnExactWithCellRow.holds Try.pinned (OpenSpec.ofChange fnExactWithCellSpec)

/-- ITS FALSE NEIGHBOUR: 'it returns false'. Refute it at one input. -/
def fnExactWithCellWrong : ChangeSpec := { name := "fnExactWithCell", fn := fun _ => fun
  | [d1, d2, d3] => { results := [.lit (.bool false)], args := [d1, d2, d3] }
  | _ => none }
def FnExactWithCellWrongFalsely : Prop := fnExactWithCellRow.holds Try.pinned (OpenSpec.ofChange fnExactWithCellWrong)

/-- 'laws.FnRegions': WHATEVER THE INPUT: true; the input reads as it did. -/
def fnRegionsSpec : ChangeSpec := { name := "fnRegions", fn := fun _ => fun
  | [d] => { results := [.lit (.bool true)], args := [d] }
  | _ => none }
def fnRegionsRow : OpenClaim := { program := "ythmijfcoplillaa", sum := "3475f34696b3a59079b604496969d27ee7965bf733ecc8f4a1b6b33ebabc1ac8", func := "loop.example/g03300/laws.FnRegions", spec := "fnRegions", apart := false }
def FnRegionsSaid : Prop := fnRegionsRow.holds Try.pinned (OpenSpec.ofChange fnRegionsSpec)

/-- ITS FALSE NEIGHBOUR: 'it returns false'. Refute it at one input. -/
def fnRegionsWrong : ChangeSpec := { name := "fnRegions", fn := fun _ => fun
  | [d] => { results := [.lit (.bool false)], args := [d] }
  | _ => none }
def FnRegionsWrongFalsely : Prop := fnRegionsRow.holds Try.pinned (OpenSpec.ofChange fnRegionsWrong)

/- THE SECOND FORM. 'bulk': how many values and letters a reading holds, each counted each time it is reached (what is shared counts as often as it is met; a slice's spare places count too). A statement '..UptoSaid' is the law's where the arguments, and the package variables that the reading takes, are together of bulk at most 1048576: NARROWER than '..Said'. Prove '..Said' where nothing that the law and all that it calls make is longer than what came in: it says more and counts as full. Else prove '..UptoSaid'. A law counts once. -/
mutual
def uptoBulk {H : Type} : DataW H → Nat
  | .lit (.string bytes) => bytes.length + 1
  | .lit _ => 1
  | .nil => 1
  | .ptr d => uptoBulk d + 1
  | .slice elems spare => uptoBulkAll elems + uptoBulkAll spare + 1
  | .agg parts => uptoBulkAll parts + 1
  | .iface _ d => uptoBulk d + 1
  | .map entries => uptoBulkEntries entries + 1
  | .held _ => 1
def uptoBulkAll {H : Type} : List (DataW H) → Nat
  | [] => 0
  | d :: r => uptoBulk d + uptoBulkAll r
def uptoBulkEntries {H : Type} : List (Lit × DataW H) → Nat
  | [] => 0
  | x :: r => uptoBulkEntry x + uptoBulkEntries r
def uptoBulkEntry {H : Type} : Lit × DataW H → Nat
  | (.string bytes, d) => bytes.length + uptoBulk d + 1
  | (_, d) => uptoBulk d + 1
 end
def uptoSmall : (H : Type) → List (DataW H) → Bool := fun _ ds => decide (uptoBulkAll ds ≤ 1048576)
def OpenSpec.upto (s : _root_.Go.ChangeSpec) : _root_.Go.OpenSpec := { _root_.Go.OpenSpec.ofChange s with cond := some uptoSmall }

/-- 'laws.FnExactActOk', WHERE WHAT IT READS IS OF BULK AT MOST 1048576: true; the input reads as it did. -/
def fnExactActOkUptoRow : OpenClaim := { program := "ythmijfcoplillaa", sum := "3475f34696b3a59079b604496969d27ee7965bf733ecc8f4a1b6b33ebabc1ac8", func := "loop.example/g03300/laws.FnExactActOk", spec := "fnExactActOk", apart := false, narrowed := true }
def FnExactActOkUptoSaid : Prop := fnExactActOkUptoRow.holds Try.pinned (OpenSpec.upto fnExactActOkSpec)

/-- 'laws.FnExactSampleBoxes', WHERE WHAT IT READS IS OF BULK AT MOST 1048576: true; the input reads as it did. -/
def fnExactSampleBoxesUptoRow : OpenClaim := { program := "ythmijfcoplillaa", sum := "3475f34696b3a59079b604496969d27ee7965bf733ecc8f4a1b6b33ebabc1ac8", func := "loop.example/g03300/laws.FnExactSampleBoxes", spec := "fnExactSampleBoxes", apart := false, narrowed := true }
def FnExactSampleBoxesUptoSaid : Prop := fnExactSampleBoxesUptoRow.holds Try.pinned (OpenSpec.upto fnExactSampleBoxesSpec)

/-- 'laws.FnExactSameFloor', WHERE WHAT IT READS IS OF BULK AT MOST 1048576: true; the input reads as it did. -/
def fnExactSameFloorUptoRow : OpenClaim := { program := "ythmijfcoplillaa", sum := "3475f34696b3a59079b604496969d27ee7965bf733ecc8f4a1b6b33ebabc1ac8", func := "loop.example/g03300/laws.FnExactSameFloor", spec := "fnExactSameFloor", apart := false, narrowed := true }
def FnExactSameFloorUptoSaid : Prop := fnExactSameFloorUptoRow.holds Try.pinned (OpenSpec.upto fnExactSameFloorSpec)

/-- 'laws.FnExactCountSigns', WHERE WHAT IT READS IS OF BULK AT MOST 1048576: true; the input reads as it did. -/
def fnExactCountSignsUptoRow : OpenClaim := { program := "ythmijfcoplillaa", sum := "3475f34696b3a59079b604496969d27ee7965bf733ecc8f4a1b6b33ebabc1ac8", func := "loop.example/g03300/laws.FnExactCountSigns", spec := "fnExactCountSigns", apart := false, narrowed := true }
def FnExactCountSignsUptoSaid : Prop := fnExactCountSignsUptoRow.holds Try.pinned (OpenSpec.upto fnExactCountSignsSpec)

/-- 'laws.FnExactBoxesOk', WHERE WHAT IT READS IS OF BULK AT MOST 1048576: true; the input reads as it did. -/
def fnExactBoxesOkUptoRow : OpenClaim := { program := "ythmijfcoplillaa", sum := "3475f34696b3a59079b604496969d27ee7965bf733ecc8f4a1b6b33ebabc1ac8", func := "loop.example/g03300/laws.FnExactBoxesOk", spec := "fnExactBoxesOk", apart := false, narrowed := true }
def FnExactBoxesOkUptoSaid : Prop := fnExactBoxesOkUptoRow.holds Try.pinned (OpenSpec.upto fnExactBoxesOkSpec)

/-- 'laws.FnExactBestBox', WHERE WHAT IT READS IS OF BULK AT MOST 1048576: true; the input reads as it did. -/
def fnExactBestBoxUptoRow : OpenClaim := { program := "ythmijfcoplillaa", sum := "3475f34696b3a59079b604496969d27ee7965bf733ecc8f4a1b6b33ebabc1ac8", func := "loop.example/g03300/laws.FnExactBestBox", spec := "fnExactBestBox", apart := false, narrowed := true }
def FnExactBestBoxUptoSaid : Prop := fnExactBestBoxUptoRow.holds Try.pinned (OpenSpec.upto fnExactBestBoxSpec)

/-- 'laws.FnExactCheapestBoxes', WHERE WHAT IT READS IS OF BULK AT MOST 1048576: true; the input reads as it did. -/
def fnExactCheapestBoxesUptoRow : OpenClaim := { program := "ythmijfcoplillaa", sum := "3475f34696b3a59079b604496969d27ee7965bf733ecc8f4a1b6b33ebabc1ac8", func := "loop.example/g03300/laws.FnExactCheapestBoxes", spec := "fnExactCheapestBoxes", apart := false, narrowed := true }
def FnExactCheapestBoxesUptoSaid : Prop := fnExactCheapestBoxesUptoRow.holds Try.pinned (OpenSpec.upto fnExactCheapestBoxesSpec)

/-- 'laws.FnExactBoxesHold', WHERE WHAT IT READS IS OF BULK AT MOST 1048576: true; the input reads as it did. -/
def fnExactBoxesHoldUptoRow : OpenClaim := { program := "ythmijfcoplillaa", sum := "3475f34696b3a59079b604496969d27ee7965bf733ecc8f4a1b6b33ebabc1ac8", func := "loop.example/g03300/laws.FnExactBoxesHold", spec := "fnExactBoxesHold", apart := false, narrowed := true }
def FnExactBoxesHoldUptoSaid : Prop := fnExactBoxesHoldUptoRow.holds Try.pinned (OpenSpec.upto fnExactBoxesHoldSpec)

/-- 'laws.FnBoxes', WHERE WHAT IT READS IS OF BULK AT MOST 1048576: true; the input reads as it did. -/
def fnBoxesUptoRow : OpenClaim := { program := "ythmijfcoplillaa", sum := "3475f34696b3a59079b604496969d27ee7965bf733ecc8f4a1b6b33ebabc1ac8", func := "loop.example/g03300/laws.FnBoxes", spec := "fnBoxes", apart := false, narrowed := true }
def FnBoxesUptoSaid : Prop := fnBoxesUptoRow.holds Try.pinned (OpenSpec.upto fnBoxesSpec)

/-- 'laws.FnExactFloorPrice', WHERE WHAT IT READS IS OF BULK AT MOST 1048576: true; the input reads as it did. -/
def fnExactFloorPriceUptoRow : OpenClaim := { program := "ythmijfcoplillaa", sum := "3475f34696b3a59079b604496969d27ee7965bf733ecc8f4a1b6b33ebabc1ac8", func := "loop.example/g03300/laws.FnExactFloorPrice", spec := "fnExactFloorPrice", apart := false, narrowed := true }
def FnExactFloorPriceUptoSaid : Prop := fnExactFloorPriceUptoRow.holds Try.pinned (OpenSpec.upto fnExactFloorPriceSpec)

/-- 'laws.FnExactWithCell', WHERE WHAT IT READS IS OF BULK AT MOST 1048576: true; the input reads as it did. -/
def fnExactWithCellUptoRow : OpenClaim := { program := "ythmijfcoplillaa", sum := "3475f34696b3a59079b604496969d27ee7965bf733ecc8f4a1b6b33ebabc1ac8", func := "loop.example/g03300/laws.FnExactWithCell", spec := "fnExactWithCell", apart := false, narrowed := true }
def FnExactWithCellUptoSaid : Prop := fnExactWithCellUptoRow.holds Try.pinned (OpenSpec.upto fnExactWithCellSpec)

/-- 'laws.FnRegions', WHERE WHAT IT READS IS OF BULK AT MOST 1048576: true; the input reads as it did. -/
def fnRegionsUptoRow : OpenClaim := { program := "ythmijfcoplillaa", sum := "3475f34696b3a59079b604496969d27ee7965bf733ecc8f4a1b6b33ebabc1ac8", func := "loop.example/g03300/laws.FnRegions", spec := "fnRegions", apart := false, narrowed := true }
def FnRegionsUptoSaid : Prop := fnRegionsUptoRow.holds Try.pinned (OpenSpec.upto fnRegionsSpec)

end Rows
end Go.Proofs.Ythmijfcoplillaa
