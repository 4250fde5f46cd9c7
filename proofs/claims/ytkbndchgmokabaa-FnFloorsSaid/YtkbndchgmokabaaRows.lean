/-
  No cell of these rows narrows 'for every input' (looked for: loops, veiled, ifaces, maps, wideKeys, modest, calm, conditions, laid).
  DERIVED. THE GIVEN ROWS OF THIS SEAT. 12 by the template 'for every input the law returns true; each argument reads behind the call as it read before'; 0 by the template 'total and deterministic' (their statements: YtkbndchgmokabaaTotals.lean).
  GIVEN WITH THE SEED: the statements are not yours to turn. If you find one false, say at which input.
  Laid BY PROGRAM, IN A SANDBOX (cutbox-rows.mjs): the forced cells as the released guide's own fill.sh prints them over the translation 4b62f6795e08b7a6… (all of the seat's roots in one cut). By AI agents, Wed Nov 11 2026. No macro, syntax, notation, axiom, sorry.
-/
import Derived.Test.YtkbndchgmokabaaChecked
import GoSem.Claim
import GoSem.ClaimJoined
import GoSem.ClaimMapViews
import Derived.JoinedTies
import Derived.KernelRfl
namespace Go.Proofs.Ytkbndchgmokabaa
/- THE CELL 'sum', in the pinned program and in every row, IS THE sha256 OF THE DUMP (.gsa) THAT YtkbndchgmokabaaProg.lean LOADS. Nothing in Lean hashes anything: it is a label: what it is worth is what the hold of that sum in a sandbox is worth. -/
noncomputable def Try.pinned : Pinned := { name := "ytkbndchgmokabaa", sum := "4b62f6795e08b7a60384f8933179011f630d11a542b0e77e5bf860e3155423f7", checked := Try.checked }
namespace Rows
def none {H : Type} : Left H := { results := [], args := [] }

/-- 'laws.FnExactCheapestPrice': WHATEVER THE INPUT: true; the input reads as it did. -/
def fnExactCheapestPriceSpec : ChangeSpec := { name := "fnExactCheapestPrice", fn := fun _ => fun
  | [d1, d2] => { results := [.lit (.bool true)], args := [d1, d2] }
  | _ => none }
def fnExactCheapestPriceRow : OpenClaim := { program := "ytkbndchgmokabaa", sum := "4b62f6795e08b7a60384f8933179011f630d11a542b0e77e5bf860e3155423f7", func := "loop.example/g03300/laws.FnExactCheapestPrice", spec := "fnExactCheapestPrice", unfollowed := true, recurses := true, apart := false }
def FnExactCheapestPriceSaid : Prop := fnExactCheapestPriceRow.holds Try.pinned (OpenSpec.ofChange fnExactCheapestPriceSpec)

/-- ITS FALSE NEIGHBOUR: 'it returns false'. Refute it at one input. -/
def fnExactCheapestPriceWrong : ChangeSpec := { name := "fnExactCheapestPrice", fn := fun _ => fun
  | [d1, d2] => { results := [.lit (.bool false)], args := [d1, d2] }
  | _ => none }
def FnExactCheapestPriceWrongFalsely : Prop := fnExactCheapestPriceRow.holds Try.pinned (OpenSpec.ofChange fnExactCheapestPriceWrong)

/-- 'laws.FnFloors': WHATEVER THE INPUT: true; the input reads as it did. -/
def fnFloorsSpec : ChangeSpec := { name := "fnFloors", fn := fun _ => fun
  | [d] => { results := [.lit (.bool true)], args := [d] }
  | _ => none }
def fnFloorsRow : OpenClaim := { program := "ytkbndchgmokabaa", sum := "4b62f6795e08b7a60384f8933179011f630d11a542b0e77e5bf860e3155423f7", func := "loop.example/g03300/laws.FnFloors", spec := "fnFloors", apart := false }
def FnFloorsSaid : Prop := fnFloorsRow.holds Try.pinned (OpenSpec.ofChange fnFloorsSpec)

/-- ITS FALSE NEIGHBOUR: 'it returns false'. Refute it at one input. -/
def fnFloorsWrong : ChangeSpec := { name := "fnFloors", fn := fun _ => fun
  | [d] => { results := [.lit (.bool false)], args := [d] }
  | _ => none }
def FnFloorsWrongFalsely : Prop := fnFloorsRow.holds Try.pinned (OpenSpec.ofChange fnFloorsWrong)

/-- 'laws.FnExactFloorLines': WHATEVER THE INPUT: true; the input reads as it did. -/
def fnExactFloorLinesSpec : ChangeSpec := { name := "fnExactFloorLines", fn := fun _ => fun
  | [d1, d2] => { results := [.lit (.bool true)], args := [d1, d2] }
  | _ => none }
def fnExactFloorLinesRow : OpenClaim := { program := "ytkbndchgmokabaa", sum := "4b62f6795e08b7a60384f8933179011f630d11a542b0e77e5bf860e3155423f7", func := "loop.example/g03300/laws.FnExactFloorLines", spec := "fnExactFloorLines", apart := false }
def FnExactFloorLinesSaid : Prop := fnExactFloorLinesRow.holds Try.pinned (OpenSpec.ofChange fnExactFloorLinesSpec)

/-- ITS FALSE NEIGHBOUR: 'it returns false'. Refute it at one input. -/
def fnExactFloorLinesWrong : ChangeSpec := { name := "fnExactFloorLines", fn := fun _ => fun
  | [d1, d2] => { results := [.lit (.bool false)], args := [d1, d2] }
  | _ => none }
def FnExactFloorLinesWrongFalsely : Prop := fnExactFloorLinesRow.holds Try.pinned (OpenSpec.ofChange fnExactFloorLinesWrong)

/-- 'laws.FnExactFreeRegion': WHATEVER THE INPUT: true; the input reads as it did. -/
def fnExactFreeRegionSpec : ChangeSpec := { name := "fnExactFreeRegion", fn := fun _ => fun
  | [d] => { results := [.lit (.bool true)], args := [d] }
  | _ => none }
def fnExactFreeRegionRow : OpenClaim := { program := "ytkbndchgmokabaa", sum := "4b62f6795e08b7a60384f8933179011f630d11a542b0e77e5bf860e3155423f7", func := "loop.example/g03300/laws.FnExactFreeRegion", spec := "fnExactFreeRegion", unfollowed := true, recurses := true, apart := false }
def FnExactFreeRegionSaid : Prop := fnExactFreeRegionRow.holds Try.pinned (OpenSpec.ofChange fnExactFreeRegionSpec)

/-- ITS FALSE NEIGHBOUR: 'it returns false'. Refute it at one input. -/
def fnExactFreeRegionWrong : ChangeSpec := { name := "fnExactFreeRegion", fn := fun _ => fun
  | [d] => { results := [.lit (.bool false)], args := [d] }
  | _ => none }
def FnExactFreeRegionWrongFalsely : Prop := fnExactFreeRegionRow.holds Try.pinned (OpenSpec.ofChange fnExactFreeRegionWrong)

/-- 'laws.FnExactSavingBy': WHATEVER THE INPUT: true; the input reads as it did. -/
def fnExactSavingBySpec : ChangeSpec := { name := "fnExactSavingBy", fn := fun _ => fun
  | [d1, d2, d3] => { results := [.lit (.bool true)], args := [d1, d2, d3] }
  | _ => none }
def fnExactSavingByRow : OpenClaim := { program := "ytkbndchgmokabaa", sum := "4b62f6795e08b7a60384f8933179011f630d11a542b0e77e5bf860e3155423f7", func := "loop.example/g03300/laws.FnExactSavingBy", spec := "fnExactSavingBy", unfollowed := true, recurses := true, apart := false }
def FnExactSavingBySaid : Prop := fnExactSavingByRow.holds Try.pinned (OpenSpec.ofChange fnExactSavingBySpec)

/-- ITS FALSE NEIGHBOUR: 'it returns false'. Refute it at one input. -/
def fnExactSavingByWrong : ChangeSpec := { name := "fnExactSavingBy", fn := fun _ => fun
  | [d1, d2, d3] => { results := [.lit (.bool false)], args := [d1, d2, d3] }
  | _ => none }
def FnExactSavingByWrongFalsely : Prop := fnExactSavingByRow.holds Try.pinned (OpenSpec.ofChange fnExactSavingByWrong)

/-- 'laws.FnExactReadFloor': WHATEVER THE INPUT: true; the input reads as it did. -/
def fnExactReadFloorSpec : ChangeSpec := { name := "fnExactReadFloor", fn := fun _ => fun
  | [d] => { results := [.lit (.bool true)], args := [d] }
  | _ => none }
def fnExactReadFloorRow : OpenClaim := { program := "ytkbndchgmokabaa", sum := "4b62f6795e08b7a60384f8933179011f630d11a542b0e77e5bf860e3155423f7", func := "loop.example/g03300/laws.FnExactReadFloor", spec := "fnExactReadFloor", apart := false }
def FnExactReadFloorSaid : Prop := fnExactReadFloorRow.holds Try.pinned (OpenSpec.ofChange fnExactReadFloorSpec)

/-- ITS FALSE NEIGHBOUR: 'it returns false'. Refute it at one input. -/
def fnExactReadFloorWrong : ChangeSpec := { name := "fnExactReadFloor", fn := fun _ => fun
  | [d] => { results := [.lit (.bool false)], args := [d] }
  | _ => none }
def FnExactReadFloorWrongFalsely : Prop := fnExactReadFloorRow.holds Try.pinned (OpenSpec.ofChange fnExactReadFloorWrong)

/-- 'laws.FnForced': WHATEVER THE INPUT: true; the input reads as it did. -/
def fnForcedSpec : ChangeSpec := { name := "fnForced", fn := fun _ => fun
  | [d] => { results := [.lit (.bool true)], args := [d] }
  | _ => none }
def fnForcedRow : OpenClaim := { program := "ytkbndchgmokabaa", sum := "4b62f6795e08b7a60384f8933179011f630d11a542b0e77e5bf860e3155423f7", func := "loop.example/g03300/laws.FnForced", spec := "fnForced", unfollowed := true, recurses := true, apart := false }
def FnForcedSaid : Prop := fnForcedRow.holds Try.pinned (OpenSpec.ofChange fnForcedSpec)

/-- ITS FALSE NEIGHBOUR: 'it returns false'. Refute it at one input. -/
def fnForcedWrong : ChangeSpec := { name := "fnForced", fn := fun _ => fun
  | [d] => { results := [.lit (.bool false)], args := [d] }
  | _ => none }
def FnForcedWrongFalsely : Prop := fnForcedRow.holds Try.pinned (OpenSpec.ofChange fnForcedWrong)

/-- 'laws.FnExactCheapestTiling': WHATEVER THE INPUT: true; the input reads as it did. -/
def fnExactCheapestTilingSpec : ChangeSpec := { name := "fnExactCheapestTiling", fn := fun _ => fun
  | [d1, d2] => { results := [.lit (.bool true)], args := [d1, d2] }
  | _ => none }
def fnExactCheapestTilingRow : OpenClaim := { program := "ytkbndchgmokabaa", sum := "4b62f6795e08b7a60384f8933179011f630d11a542b0e77e5bf860e3155423f7", func := "loop.example/g03300/laws.FnExactCheapestTiling", spec := "fnExactCheapestTiling", unfollowed := true, recurses := true, apart := false }
def FnExactCheapestTilingSaid : Prop := fnExactCheapestTilingRow.holds Try.pinned (OpenSpec.ofChange fnExactCheapestTilingSpec)

/-- ITS FALSE NEIGHBOUR: 'it returns false'. Refute it at one input. -/
def fnExactCheapestTilingWrong : ChangeSpec := { name := "fnExactCheapestTiling", fn := fun _ => fun
  | [d1, d2] => { results := [.lit (.bool false)], args := [d1, d2] }
  | _ => none }
def FnExactCheapestTilingWrongFalsely : Prop := fnExactCheapestTilingRow.holds Try.pinned (OpenSpec.ofChange fnExactCheapestTilingWrong)

/-- 'laws.FnCheapest': WHATEVER THE INPUT: true; the input reads as it did. -/
def fnCheapestSpec : ChangeSpec := { name := "fnCheapest", fn := fun _ => fun
  | [d] => { results := [.lit (.bool true)], args := [d] }
  | _ => none }
def fnCheapestRow : OpenClaim := { program := "ytkbndchgmokabaa", sum := "4b62f6795e08b7a60384f8933179011f630d11a542b0e77e5bf860e3155423f7", func := "loop.example/g03300/laws.FnCheapest", spec := "fnCheapest", unfollowed := true, recurses := true, apart := false }
def FnCheapestSaid : Prop := fnCheapestRow.holds Try.pinned (OpenSpec.ofChange fnCheapestSpec)

/-- ITS FALSE NEIGHBOUR: 'it returns false'. Refute it at one input. -/
def fnCheapestWrong : ChangeSpec := { name := "fnCheapest", fn := fun _ => fun
  | [d] => { results := [.lit (.bool false)], args := [d] }
  | _ => none }
def FnCheapestWrongFalsely : Prop := fnCheapestRow.holds Try.pinned (OpenSpec.ofChange fnCheapestWrong)

/-- 'laws.FnExactNewFloor': WHATEVER THE INPUT: true; the input reads as it did. -/
def fnExactNewFloorSpec : ChangeSpec := { name := "fnExactNewFloor", fn := fun _ => fun
  | [d] => { results := [.lit (.bool true)], args := [d] }
  | _ => none }
def fnExactNewFloorRow : OpenClaim := { program := "ytkbndchgmokabaa", sum := "4b62f6795e08b7a60384f8933179011f630d11a542b0e77e5bf860e3155423f7", func := "loop.example/g03300/laws.FnExactNewFloor", spec := "fnExactNewFloor", unfollowed := true, recurses := true, apart := false }
def FnExactNewFloorSaid : Prop := fnExactNewFloorRow.holds Try.pinned (OpenSpec.ofChange fnExactNewFloorSpec)

/-- ITS FALSE NEIGHBOUR: 'it returns false'. Refute it at one input. -/
def fnExactNewFloorWrong : ChangeSpec := { name := "fnExactNewFloor", fn := fun _ => fun
  | [d] => { results := [.lit (.bool false)], args := [d] }
  | _ => none }
def FnExactNewFloorWrongFalsely : Prop := fnExactNewFloorRow.holds Try.pinned (OpenSpec.ofChange fnExactNewFloorWrong)

/-- 'laws.FnExactFloorOk': WHATEVER THE INPUT: true; the input reads as it did. -/
def fnExactFloorOkSpec : ChangeSpec := { name := "fnExactFloorOk", fn := fun _ => fun
  | [d] => { results := [.lit (.bool true)], args := [d] }
  | _ => none }
def fnExactFloorOkRow : OpenClaim := { program := "ytkbndchgmokabaa", sum := "4b62f6795e08b7a60384f8933179011f630d11a542b0e77e5bf860e3155423f7", func := "loop.example/g03300/laws.FnExactFloorOk", spec := "fnExactFloorOk", apart := false }
def FnExactFloorOkSaid : Prop := fnExactFloorOkRow.holds Try.pinned (OpenSpec.ofChange fnExactFloorOkSpec)

/-- ITS FALSE NEIGHBOUR: 'it returns false'. Refute it at one input. -/
def fnExactFloorOkWrong : ChangeSpec := { name := "fnExactFloorOk", fn := fun _ => fun
  | [d] => { results := [.lit (.bool false)], args := [d] }
  | _ => none }
def FnExactFloorOkWrongFalsely : Prop := fnExactFloorOkRow.holds Try.pinned (OpenSpec.ofChange fnExactFloorOkWrong)

/-- 'laws.FnExactWorkshopOk': WHATEVER THE INPUT: true; the input reads as it did. -/
def fnExactWorkshopOkSpec : ChangeSpec := { name := "fnExactWorkshopOk", fn := fun _ => fun
  | [d] => { results := [.lit (.bool true)], args := [d] }
  | _ => none }
def fnExactWorkshopOkRow : OpenClaim := { program := "ytkbndchgmokabaa", sum := "4b62f6795e08b7a60384f8933179011f630d11a542b0e77e5bf860e3155423f7", func := "loop.example/g03300/laws.FnExactWorkshopOk", spec := "fnExactWorkshopOk", apart := false }
def FnExactWorkshopOkSaid : Prop := fnExactWorkshopOkRow.holds Try.pinned (OpenSpec.ofChange fnExactWorkshopOkSpec)

/-- ITS FALSE NEIGHBOUR: 'it returns false'. Refute it at one input. -/
def fnExactWorkshopOkWrong : ChangeSpec := { name := "fnExactWorkshopOk", fn := fun _ => fun
  | [d] => { results := [.lit (.bool false)], args := [d] }
  | _ => none }
def FnExactWorkshopOkWrongFalsely : Prop := fnExactWorkshopOkRow.holds Try.pinned (OpenSpec.ofChange fnExactWorkshopOkWrong)

/- THE SECOND FORM. 'bulk': how many values and letters a reading holds, each counted each time it is reached (what is shared counts as often as it is met; a slice's spare places count too). A statement '..UptoSaid' is the law's where the arguments, and the package variables that the reading takes, are together of bulk at most 1048576: NARROWER than '..Said'. Prove '..Said' where nothing that the law and all that it calls make is longer than what came in: it says more and counts as full. Else prove '..UptoSaid'. A law counts once. -/
mutual
def uptoBulk {H : Type} : DataW H → Nat
  | .lit (.string bytes) => bytes.length + 1
  | .lit _ => 1
  | .nil => 1
  | .ptr d => uptoBulk d + 1
  | .slice elems spare => uptoBulkAll elems + uptoBulkAll spare + 1
  | .agg parts => uptoBulkAll parts + 1
  | .iface _ d => uptoBulk d + 1
  | .map entries => uptoBulkEntries entries + 1
  | .held _ => 1
def uptoBulkAll {H : Type} : List (DataW H) → Nat
  | [] => 0
  | d :: r => uptoBulk d + uptoBulkAll r
def uptoBulkEntries {H : Type} : List (Lit × DataW H) → Nat
  | [] => 0
  | x :: r => uptoBulkEntry x + uptoBulkEntries r
def uptoBulkEntry {H : Type} : Lit × DataW H → Nat
  | (.string bytes, d) => bytes.length + uptoBulk d + 1
  | (_, d) => uptoBulk d + 1
 end
def uptoSmall : (H : Type) → List (DataW H) → Bool := fun _ ds => decide (uptoBulkAll ds ≤ 1048576)
def OpenSpec.upto (s : _root_.Go.ChangeSpec) : _root_.Go.OpenSpec := { _root_.Go.OpenSpec.ofChange s with cond := some uptoSmall }

/-- 'laws.FnExactCheapestPrice', WHERE WHAT IT READS IS OF BULK AT MOST 1048576: true; the input reads as it did. -/
def fnExactCheapestPriceUptoRow : OpenClaim := { program := "ytkbndchgmokabaa", sum := "4b62f6795e08b7a60384f8933179011f630d11a542b0e77e5bf860e3155423f7", func := "loop.example/g03300/laws.FnExactCheapestPrice", spec := "fnExactCheapestPrice", unfollowed := true, recurses := true, apart := false, narrowed := true }
def FnExactCheapestPriceUptoSaid : Prop := fnExactCheapestPriceUptoRow.holds Try.pinned (OpenSpec.upto fnExactCheapestPriceSpec)

/-- 'laws.FnFloors', WHERE WHAT IT READS IS OF BULK AT MOST 1048576: true; the input reads as it did. -/
def fnFloorsUptoRow : OpenClaim := { program := "ytkbndchgmokabaa", sum := "4b62f6795e08b7a60384f8933179011f630d11a542b0e77e5bf860e3155423f7", func := "loop.example/g03300/laws.FnFloors", spec := "fnFloors", apart := false, narrowed := true }
def FnFloorsUptoSaid : Prop := fnFloorsUptoRow.holds Try.pinned (OpenSpec.upto fnFloorsSpec)

/-- 'laws.FnExactFloorLines', WHERE WHAT IT READS IS OF BULK AT MOST 1048576: true; the input reads as it did. -/
def fnExactFloorLinesUptoRow : OpenClaim := { program := "ytkbndchgmokabaa", sum := "4b62f6795e08b7a60384f8933179011f630d11a542b0e77e5bf860e3155423f7", func := "loop.example/g03300/laws.FnExactFloorLines", spec := "fnExactFloorLines", apart := false, narrowed := true }
def FnExactFloorLinesUptoSaid : Prop := fnExactFloorLinesUptoRow.holds Try.pinned (OpenSpec.upto fnExactFloorLinesSpec)

/-- 'laws.FnExactFreeRegion', WHERE WHAT IT READS IS OF BULK AT MOST 1048576: true; the input reads as it did. -/
def fnExactFreeRegionUptoRow : OpenClaim := { program := "ytkbndchgmokabaa", sum := "4b62f6795e08b7a60384f8933179011f630d11a542b0e77e5bf860e3155423f7", func := "loop.example/g03300/laws.FnExactFreeRegion", spec := "fnExactFreeRegion", unfollowed := true, recurses := true, apart := false, narrowed := true }
def FnExactFreeRegionUptoSaid : Prop := fnExactFreeRegionUptoRow.holds Try.pinned (OpenSpec.upto fnExactFreeRegionSpec)

/-- 'laws.FnExactSavingBy', WHERE WHAT IT READS IS OF BULK AT MOST 1048576: true; the input reads as it did. -/
def fnExactSavingByUptoRow : OpenClaim := { program := "ytkbndchgmokabaa", sum := "4b62f6795e08b7a60384f8933179011f630d11a542b0e77e5bf860e3155423f7", func := "loop.example/g03300/laws.FnExactSavingBy", spec := "fnExactSavingBy", unfollowed := true, recurses := true, apart := false, narrowed := true }
def FnExactSavingByUptoSaid : Prop := fnExactSavingByUptoRow.holds Try.pinned (OpenSpec.upto fnExactSavingBySpec)

/-- 'laws.FnExactReadFloor', WHERE WHAT IT READS IS OF BULK AT MOST 1048576: true; the input reads as it did. -/
def fnExactReadFloorUptoRow : OpenClaim := { program := "ytkbndchgmokabaa", sum := "4b62f6795e08b7a60384f8933179011f630d11a542b0e77e5bf860e3155423f7", func := "loop.example/g03300/laws.FnExactReadFloor", spec := "fnExactReadFloor", apart := false, narrowed := true }
def FnExactReadFloorUptoSaid : Prop := fnExactReadFloorUptoRow.holds Try.pinned (OpenSpec.upto fnExactReadFloorSpec)

/-- 'laws.FnForced', WHERE WHAT IT READS IS OF BULK AT MOST 1048576: true; the input reads as it did. -/
def fnForcedUptoRow : OpenClaim := { program := "ytkbndchgmokabaa", sum := "4b62f6795e08b7a60384f8933179011f630d11a542b0e77e5bf860e3155423f7", func := "loop.example/g03300/laws.FnForced", spec := "fnForced", unfollowed := true, recurses := true, apart := false, narrowed := true }
def FnForcedUptoSaid : Prop := fnForcedUptoRow.holds Try.pinned (OpenSpec.upto fnForcedSpec)

/-- 'laws.FnExactCheapestTiling', WHERE WHAT IT READS IS OF BULK AT MOST 1048576: true; the input reads as it did. -/
def fnExactCheapestTilingUptoRow : OpenClaim := { program := "ytkbndchgmokabaa", sum := "4b62f6795e08b7a60384f8933179011f630d11a542b0e77e5bf860e3155423f7", func := "loop.example/g03300/laws.FnExactCheapestTiling", spec := "fnExactCheapestTiling", unfollowed := true, recurses := true, apart := false, narrowed := true }
def FnExactCheapestTilingUptoSaid : Prop := fnExactCheapestTilingUptoRow.holds Try.pinned (OpenSpec.upto fnExactCheapestTilingSpec)

/-- 'laws.FnCheapest', WHERE WHAT IT READS IS OF BULK AT MOST 1048576: true; the input reads as it did. -/
def fnCheapestUptoRow : OpenClaim := { program := "ytkbndchgmokabaa", sum := "4b62f6795e08b7a60384f8933179011f630d11a542b0e77e5bf860e3155423f7", func := "loop.example/g03300/laws.FnCheapest", spec := "fnCheapest", unfollowed := true, recurses := true, apart := false, narrowed := true }
def FnCheapestUptoSaid : Prop := fnCheapestUptoRow.holds Try.pinned (OpenSpec.upto fnCheapestSpec)

/-- 'laws.FnExactNewFloor', WHERE WHAT IT READS IS OF BULK AT MOST 1048576: true; the input reads as it did. -/
def fnExactNewFloorUptoRow : OpenClaim := { program := "ytkbndchgmokabaa", sum := "4b62f6795e08b7a60384f8933179011f630d11a542b0e77e5bf860e3155423f7", func := "loop.example/g03300/laws.FnExactNewFloor", spec := "fnExactNewFloor", unfollowed := true, recurses := true, apart := false, narrowed := true }
def FnExactNewFloorUptoSaid : Prop := fnExactNewFloorUptoRow.holds Try.pinned (OpenSpec.upto fnExactNewFloorSpec)

/-- 'laws.FnExactFloorOk', WHERE WHAT IT READS IS OF BULK AT MOST 1048576: true; the input reads as it did. -/
def fnExactFloorOkUptoRow : OpenClaim := { program := "ytkbndchgmokabaa", sum := "4b62f6795e08b7a60384f8933179011f630d11a542b0e77e5bf860e3155423f7", func := "loop.example/g03300/laws.FnExactFloorOk", spec := "fnExactFloorOk", apart := false, narrowed := true }
def FnExactFloorOkUptoSaid : Prop := fnExactFloorOkUptoRow.holds Try.pinned (OpenSpec.upto fnExactFloorOkSpec)

/-- 'laws.FnExactWorkshopOk', WHERE WHAT IT READS IS OF BULK AT MOST 1048576: true; the input reads as it did. -/
def fnExactWorkshopOkUptoRow : OpenClaim := { program := "ytkbndchgmokabaa", sum := "4b62f6795e08b7a60384f8933179011f630d11a542b0e77e5bf860e3155423f7", func := "loop.example/g03300/laws.FnExactWorkshopOk", spec := "fnExactWorkshopOk", apart := false, narrowed := true }
def FnExactWorkshopOkUptoSaid : Prop := fnExactWorkshopOkUptoRow.holds Try.pinned (OpenSpec.upto fnExactWorkshopOkSpec)

end Rows
end Go.Proofs.Ytkbndchgmokabaa
