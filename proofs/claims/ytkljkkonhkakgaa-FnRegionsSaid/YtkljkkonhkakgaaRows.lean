/-
  No cell of these rows narrows 'for every input' (looked for: loops, veiled, ifaces, maps, wideKeys, modest, calm, conditions, laid).
  DERIVED. THE GIVEN ROWS OF THIS SEAT. 12 by the template 'for every input the law returns true; each argument reads behind the call as it read before'; 0 by the template 'total and deterministic' (their statements: YtkljkkonhkakgaaTotals.lean).
  GIVEN WITH THE SEED: the statements are not yours to turn. If you find one false, say at which input.
  Laid BY PROGRAM, IN A SANDBOX (cutbox-rows.mjs): the forced cells as the released guide's own fill.sh prints them over the translation 7e711154af008af0… (all of the seat's roots in one cut). By AI agents, Wed Nov 11 2026. No macro, syntax, notation, axiom, sorry.
-/
import Derived.Test.YtkljkkonhkakgaaChecked
import GoSem.Claim
import GoSem.ClaimJoined
import GoSem.ClaimMapViews
import Derived.JoinedTies
import Derived.KernelRfl
namespace Go.Proofs.Ytkljkkonhkakgaa
/- THE CELL 'sum', in the pinned program and in every row, IS THE sha256 OF THE DUMP (.gsa) THAT YtkljkkonhkakgaaProg.lean LOADS. Nothing in Lean hashes anything: it is a label: what it is worth is what the hold of that sum in a sandbox is worth. -/
noncomputable def Try.pinned : Pinned := { name := "ytkljkkonhkakgaa", sum := "7e711154af008af0ab0afc03f9216aaeccfb271bd6686a6abf7623ee920b28ca", checked := Try.checked }
namespace Rows
def none {H : Type} : Left H := { results := [], args := [] }

/-- 'laws.FnBoxes': WHATEVER THE INPUT: true; the input reads as it did. -/
def fnBoxesSpec : ChangeSpec := { name := "fnBoxes", fn := fun _ => fun
  | [d] => { results := [.lit (.bool true)], args := [d] }
  | _ => none }
def fnBoxesRow : OpenClaim := { program := "ytkljkkonhkakgaa", sum := "7e711154af008af0ab0afc03f9216aaeccfb271bd6686a6abf7623ee920b28ca", func := "loop.example/g03300/laws.FnBoxes", spec := "fnBoxes", apart := false }
def FnBoxesSaid : Prop := fnBoxesRow.holds Try.pinned (OpenSpec.ofChange fnBoxesSpec)

/-- ITS FALSE NEIGHBOUR: 'it returns false'. Refute it at one input. -/
def fnBoxesWrong : ChangeSpec := { name := "fnBoxes", fn := fun _ => fun
  | [d] => { results := [.lit (.bool false)], args := [d] }
  | _ => none }
def FnBoxesWrongFalsely : Prop := fnBoxesRow.holds Try.pinned (OpenSpec.ofChange fnBoxesWrong)

/-- 'laws.FnRegions': WHATEVER THE INPUT: true; the input reads as it did. -/
def fnRegionsSpec : ChangeSpec := { name := "fnRegions", fn := fun _ => fun
  | [d] => { results := [.lit (.bool true)], args := [d] }
  | _ => none }
def fnRegionsRow : OpenClaim := { program := "ytkljkkonhkakgaa", sum := "7e711154af008af0ab0afc03f9216aaeccfb271bd6686a6abf7623ee920b28ca", func := "loop.example/g03300/laws.FnRegions", spec := "fnRegions", apart := false }
def FnRegionsSaid : Prop := fnRegionsRow.holds Try.pinned (OpenSpec.ofChange fnRegionsSpec)

/-- ITS FALSE NEIGHBOUR: 'it returns false'. Refute it at one input. -/
def fnRegionsWrong : ChangeSpec := { name := "fnRegions", fn := fun _ => fun
  | [d] => { results := [.lit (.bool false)], args := [d] }
  | _ => none }
def FnRegionsWrongFalsely : Prop := fnRegionsRow.holds Try.pinned (OpenSpec.ofChange fnRegionsWrong)

/-- 'laws.FnExactChooseBoxes': WHATEVER THE INPUT: true; the input reads as it did. -/
def fnExactChooseBoxesSpec : ChangeSpec := { name := "fnExactChooseBoxes", fn := fun _ => fun
  | [d1, d2] => { results := [.lit (.bool true)], args := [d1, d2] }
  | _ => none }
def fnExactChooseBoxesRow : OpenClaim := { program := "ytkljkkonhkakgaa", sum := "7e711154af008af0ab0afc03f9216aaeccfb271bd6686a6abf7623ee920b28ca", func := "loop.example/g03300/laws.FnExactChooseBoxes", spec := "fnExactChooseBoxes", apart := false }
def FnExactChooseBoxesSaid : Prop := fnExactChooseBoxesRow.holds Try.pinned (OpenSpec.ofChange fnExactChooseBoxesSpec)

/-- ITS FALSE NEIGHBOUR: 'it returns false'. Refute it at one input. -/
def fnExactChooseBoxesWrong : ChangeSpec := { name := "fnExactChooseBoxes", fn := fun _ => fun
  | [d1, d2] => { results := [.lit (.bool false)], args := [d1, d2] }
  | _ => none }
def FnExactChooseBoxesWrongFalsely : Prop := fnExactChooseBoxesRow.holds Try.pinned (OpenSpec.ofChange fnExactChooseBoxesWrong)

/-- 'laws.FnExactCheapestPrice': WHATEVER THE INPUT: true; the input reads as it did. -/
def fnExactCheapestPriceSpec : ChangeSpec := { name := "fnExactCheapestPrice", fn := fun _ => fun
  | [d1, d2] => { results := [.lit (.bool true)], args := [d1, d2] }
  | _ => none }
def fnExactCheapestPriceRow : OpenClaim := { program := "ytkljkkonhkakgaa", sum := "7e711154af008af0ab0afc03f9216aaeccfb271bd6686a6abf7623ee920b28ca", func := "loop.example/g03300/laws.FnExactCheapestPrice", spec := "fnExactCheapestPrice", unfollowed := true, recurses := true, apart := false }
def FnExactCheapestPriceSaid : Prop := fnExactCheapestPriceRow.holds Try.pinned (OpenSpec.ofChange fnExactCheapestPriceSpec)

/-- ITS FALSE NEIGHBOUR: 'it returns false'. Refute it at one input. -/
def fnExactCheapestPriceWrong : ChangeSpec := { name := "fnExactCheapestPrice", fn := fun _ => fun
  | [d1, d2] => { results := [.lit (.bool false)], args := [d1, d2] }
  | _ => none }
def FnExactCheapestPriceWrongFalsely : Prop := fnExactCheapestPriceRow.holds Try.pinned (OpenSpec.ofChange fnExactCheapestPriceWrong)

/-- 'laws.FnFloors': WHATEVER THE INPUT: true; the input reads as it did. -/
def fnFloorsSpec : ChangeSpec := { name := "fnFloors", fn := fun _ => fun
  | [d] => { results := [.lit (.bool true)], args := [d] }
  | _ => none }
def fnFloorsRow : OpenClaim := { program := "ytkljkkonhkakgaa", sum := "7e711154af008af0ab0afc03f9216aaeccfb271bd6686a6abf7623ee920b28ca", func := "loop.example/g03300/laws.FnFloors", spec := "fnFloors", apart := false }
def FnFloorsSaid : Prop := fnFloorsRow.holds Try.pinned (OpenSpec.ofChange fnFloorsSpec)

/-- ITS FALSE NEIGHBOUR: 'it returns false'. Refute it at one input. -/
def fnFloorsWrong : ChangeSpec := { name := "fnFloors", fn := fun _ => fun
  | [d] => { results := [.lit (.bool false)], args := [d] }
  | _ => none }
def FnFloorsWrongFalsely : Prop := fnFloorsRow.holds Try.pinned (OpenSpec.ofChange fnFloorsWrong)

/-- 'laws.FnExactFloorLines': WHATEVER THE INPUT: true; the input reads as it did. -/
def fnExactFloorLinesSpec : ChangeSpec := { name := "fnExactFloorLines", fn := fun _ => fun
  | [d1, d2] => { results := [.lit (.bool true)], args := [d1, d2] }
  | _ => none }
def fnExactFloorLinesRow : OpenClaim := { program := "ytkljkkonhkakgaa", sum := "7e711154af008af0ab0afc03f9216aaeccfb271bd6686a6abf7623ee920b28ca", func := "loop.example/g03300/laws.FnExactFloorLines", spec := "fnExactFloorLines", apart := false }
def FnExactFloorLinesSaid : Prop := fnExactFloorLinesRow.holds Try.pinned (OpenSpec.ofChange fnExactFloorLinesSpec)

/-- ITS FALSE NEIGHBOUR: 'it returns false'. Refute it at one input. -/
def fnExactFloorLinesWrong : ChangeSpec := { name := "fnExactFloorLines", fn := fun _ => fun
  | [d1, d2] => { results := [.lit (.bool false)], args := [d1, d2] }
  | _ => none }
def FnExactFloorLinesWrongFalsely : Prop := fnExactFloorLinesRow.holds Try.pinned (OpenSpec.ofChange fnExactFloorLinesWrong)

/-- 'laws.FnExactFreeRegion': WHATEVER THE INPUT: true; the input reads as it did. -/
def fnExactFreeRegionSpec : ChangeSpec := { name := "fnExactFreeRegion", fn := fun _ => fun
  | [d] => { results := [.lit (.bool true)], args := [d] }
  | _ => none }
def fnExactFreeRegionRow : OpenClaim := { program := "ytkljkkonhkakgaa", sum := "7e711154af008af0ab0afc03f9216aaeccfb271bd6686a6abf7623ee920b28ca", func := "loop.example/g03300/laws.FnExactFreeRegion", spec := "fnExactFreeRegion", unfollowed := true, recurses := true, apart := false }
def FnExactFreeRegionSaid : Prop := fnExactFreeRegionRow.holds Try.pinned (OpenSpec.ofChange fnExactFreeRegionSpec)

/-- ITS FALSE NEIGHBOUR: 'it returns false'. Refute it at one input. -/
def fnExactFreeRegionWrong : ChangeSpec := { name := "fnExactFreeRegion", fn := fun _ => fun
  | [d] => { results := [.lit (.bool false)], args := [d] }
  | _ => none }
def FnExactFreeRegionWrongFalsely : Prop := fnExactFreeRegionRow.holds Try.pinned (OpenSpec.ofChange fnExactFreeRegionWrong)

/-- 'laws.FnExactSavingBy': WHATEVER THE INPUT: true; the input reads as it did. -/
def fnExactSavingBySpec : ChangeSpec := { name := "fnExactSavingBy", fn := fun _ => fun
  | [d1, d2, d3] => { results := [.lit (.bool true)], args := [d1, d2, d3] }
  | _ => none }
def fnExactSavingByRow : OpenClaim := { program := "ytkljkkonhkakgaa", sum := "7e711154af008af0ab0afc03f9216aaeccfb271bd6686a6abf7623ee920b28ca", func := "loop.example/g03300/laws.FnExactSavingBy", spec := "fnExactSavingBy", unfollowed := true, recurses := true, apart := false }
def FnExactSavingBySaid : Prop := fnExactSavingByRow.holds Try.pinned (OpenSpec.ofChange fnExactSavingBySpec)

/-- ITS FALSE NEIGHBOUR: 'it returns false'. Refute it at one input. -/
def fnExactSavingByWrong : ChangeSpec := { name := "fnExactSavingBy", fn := fun _ => fun
  | [d1, d2, d3] => { results := [.lit (.bool false)], args := [d1, d2, d3] }
  | _ => none }
def FnExactSavingByWrongFalsely : Prop := fnExactSavingByRow.holds Try.pinned (OpenSpec.ofChange fnExactSavingByWrong)

/-- 'laws.FnExactReadFloor': WHATEVER THE INPUT: true; the input reads as it did. -/
def fnExactReadFloorSpec : ChangeSpec := { name := "fnExactReadFloor", fn := fun _ => fun
  | [d] => { results := [.lit (.bool true)], args := [d] }
  | _ => none }
def fnExactReadFloorRow : OpenClaim := { program := "ytkljkkonhkakgaa", sum := "7e711154af008af0ab0afc03f9216aaeccfb271bd6686a6abf7623ee920b28ca", func := "loop.example/g03300/laws.FnExactReadFloor", spec := "fnExactReadFloor", apart := false }
def FnExactReadFloorSaid : Prop := fnExactReadFloorRow.holds Try.pinned (OpenSpec.ofChange fnExactReadFloorSpec)

/-- ITS FALSE NEIGHBOUR: 'it returns false'. Refute it at one input. -/
def fnExactReadFloorWrong : ChangeSpec := { name := "fnExactReadFloor", fn := fun _ => fun
  | [d] => { results := [.lit (.bool false)], args := [d] }
  | _ => none }
def FnExactReadFloorWrongFalsely : Prop := fnExactReadFloorRow.holds Try.pinned (OpenSpec.ofChange fnExactReadFloorWrong)

/-- 'laws.FnForced': WHATEVER THE INPUT: true; the input reads as it did. -/
def fnForcedSpec : ChangeSpec := { name := "fnForced", fn := fun _ => fun
  | [d] => { results := [.lit (.bool true)], args := [d] }
  | _ => none }
def fnForcedRow : OpenClaim := { program := "ytkljkkonhkakgaa", sum := "7e711154af008af0ab0afc03f9216aaeccfb271bd6686a6abf7623ee920b28ca", func := "loop.example/g03300/laws.FnForced", spec := "fnForced", unfollowed := true, recurses := true, apart := false }
def FnForcedSaid : Prop := fnForcedRow.holds Try.pinned (OpenSpec.ofChange fnForcedSpec)

/-- ITS FALSE NEIGHBOUR: 'it returns false'. Refute it at one input. -/
def fnForcedWrong : ChangeSpec := { name := "fnForced", fn := fun _ => fun
  | [d] => { results := [.lit (.bool false)], args := [d] }
  | _ => none }
def FnForcedWrongFalsely : Prop := fnForcedRow.holds Try.pinned (OpenSpec.ofChange fnForcedWrong)

/-- 'laws.FnExactCheapestTiling': WHATEVER THE INPUT: true; the input reads as it did. -/
def fnExactCheapestTilingSpec : ChangeSpec := { name := "fnExactCheapestTiling", fn := fun _ => fun
  | [d1, d2] => { results := [.lit (.bool true)], args := [d1, d2] }
  | _ => none }
def fnExactCheapestTilingRow : OpenClaim := { program := "ytkljkkonhkakgaa", sum := "7e711154af008af0ab0afc03f9216aaeccfb271bd6686a6abf7623ee920b28ca", func := "loop.example/g03300/laws.FnExactCheapestTiling", spec := "fnExactCheapestTiling", unfollowed := true, recurses := true, apart := false }
def FnExactCheapestTilingSaid : Prop := fnExactCheapestTilingRow.holds Try.pinned (OpenSpec.ofChange fnExactCheapestTilingSpec)

/-- ITS FALSE NEIGHBOUR: 'it returns false'. Refute it at one input. -/
def fnExactCheapestTilingWrong : ChangeSpec := { name := "fnExactCheapestTiling", fn := fun _ => fun
  | [d1, d2] => { results := [.lit (.bool false)], args := [d1, d2] }
  | _ => none }
def FnExactCheapestTilingWrongFalsely : Prop := fnExactCheapestTilingRow.holds Try.pinned (OpenSpec.ofChange fnExactCheapestTilingWrong)

/-- 'laws.FnCheapest': WHATEVER THE INPUT: true; the input reads as it did. -/
def fnCheapestSpec : ChangeSpec := { name := "fnCheapest", fn := fun _ => fun
  | [d] => { results := [.lit (.bool true)], args := [d] }
  | _ => none }
def fnCheapestRow : OpenClaim := { program := "ytkljkkonhkakgaa", sum := "7e711154af008af0ab0afc03f9216aaeccfb271bd6686a6abf7623ee920b28ca", func := "loop.example/g03300/laws.FnCheapest", spec := "fnCheapest", unfollowed := true, recurses := true, apart := false }
def FnCheapestSaid : Prop := fnCheapestRow.holds Try.pinned (OpenSpec.ofChange fnCheapestSpec)

/-- ITS FALSE NEIGHBOUR: 'it returns false'. Refute it at one input. -/
def fnCheapestWrong : ChangeSpec := { name := "fnCheapest", fn := fun _ => fun
  | [d] => { results := [.lit (.bool false)], args := [d] }
  | _ => none }
def FnCheapestWrongFalsely : Prop := fnCheapestRow.holds Try.pinned (OpenSpec.ofChange fnCheapestWrong)

/- THE SECOND FORM. 'bulk': how many values and letters a reading holds, each counted each time it is reached (what is shared counts as often as it is met; a slice's spare places count too). A statement '..UptoSaid' is the law's where the arguments, and the package variables that the reading takes, are together of bulk at most 1048576: NARROWER than '..Said'. Prove '..Said' where nothing that the law and all that it calls make is longer than what came in: it says more and counts as full. Else prove '..UptoSaid'. A law counts once. -/
mutual
def uptoBulk {H : Type} : DataW H → Nat
  | .lit (.string bytes) => bytes.length + 1
  | .lit _ => 1
  | .nil => 1
  | .ptr d => uptoBulk d + 1
  | .slice elems spare => uptoBulkAll elems + uptoBulkAll spare + 1
  | .agg parts => uptoBulkAll parts + 1
  | .iface _ d => uptoBulk d + 1
  | .map entries => uptoBulkEntries entries + 1
  | .held _ => 1
def uptoBulkAll {H : Type} : List (DataW H) → Nat
  | [] => 0
  | d :: r => uptoBulk d + uptoBulkAll r
def uptoBulkEntries {H : Type} : List (Lit × DataW H) → Nat
  | [] => 0
  | x :: r => uptoBulkEntry x + uptoBulkEntries r
def uptoBulkEntry {H : Type} : Lit × DataW H → Nat
  | (.string bytes, d) => bytes.length + uptoBulk d + 1
  | (_, d) => uptoBulk d + 1
 end
def uptoSmall : (H : Type) → List (DataW H) → Bool := fun _ ds => decide (uptoBulkAll ds ≤ 1048576)
def OpenSpec.upto (s : _root_.Go.ChangeSpec) : _root_.Go.OpenSpec := { _root_.Go.OpenSpec.ofChange s with cond := some uptoSmall }

/-- 'laws.FnBoxes', WHERE WHAT IT READS IS OF BULK AT MOST 1048576: true; the input reads as it did. -/
def fnBoxesUptoRow : OpenClaim := { program := "ytkljkkonhkakgaa", sum := "7e711154af008af0ab0afc03f9216aaeccfb271bd6686a6abf7623ee920b28ca", func := "loop.example/g03300/laws.FnBoxes", spec := "fnBoxes", apart := false, narrowed := true }
def FnBoxesUptoSaid : Prop := fnBoxesUptoRow.holds Try.pinned (OpenSpec.upto fnBoxesSpec)

/-- 'laws.FnRegions', WHERE WHAT IT READS IS OF BULK AT MOST 1048576: true; the input reads as it did. -/
def fnRegionsUptoRow : OpenClaim := { program := "ytkljkkonhkakgaa", sum := "7e711154af008af0ab0afc03f9216aaeccfb271bd6686a6abf7623ee920b28ca", func := "loop.example/g03300/laws.FnRegions", spec := "fnRegions", apart := false, narrowed := true }
def FnRegionsUptoSaid : Prop := fnRegionsUptoRow.holds Try.pinned (OpenSpec.upto fnRegionsSpec)

/-- 'laws.FnExactChooseBoxes', WHERE WHAT IT READS IS OF BULK AT MOST 1048576: true; the input reads as it did. -/
def fnExactChooseBoxesUptoRow : OpenClaim := { program := "ytkljkkonhkakgaa", sum := "7e711154af008af0ab0afc03f9216aaeccfb271bd6686a6abf7623ee920b28ca", func := "loop.example/g03300/laws.FnExactChooseBoxes", spec := "fnExactChooseBoxes", apart := false, narrowed := true }
def FnExactChooseBoxesUptoSaid : Prop := fnExactChooseBoxesUptoRow.holds Try.pinned (OpenSpec.upto fnExactChooseBoxesSpec)

/-- 'laws.FnExactCheapestPrice', WHERE WHAT IT READS IS OF BULK AT MOST 1048576: true; the input reads as it did. -/
def fnExactCheapestPriceUptoRow : OpenClaim := { program := "ytkljkkonhkakgaa", sum := "7e711154af008af0ab0afc03f9216aaeccfb271bd6686a6abf7623ee920b28ca", func := "loop.example/g03300/laws.FnExactCheapestPrice", spec := "fnExactCheapestPrice", unfollowed := true, recurses := true, apart := false, narrowed := true }
def FnExactCheapestPriceUptoSaid : Prop := fnExactCheapestPriceUptoRow.holds Try.pinned (OpenSpec.upto fnExactCheapestPriceSpec)

/-- 'laws.FnFloors', WHERE WHAT IT READS IS OF BULK AT MOST 1048576: true; the input reads as it did. -/
def fnFloorsUptoRow : OpenClaim := { program := "ytkljkkonhkakgaa", sum := "7e711154af008af0ab0afc03f9216aaeccfb271bd6686a6abf7623ee920b28ca", func := "loop.example/g03300/laws.FnFloors", spec := "fnFloors", apart := false, narrowed := true }
def FnFloorsUptoSaid : Prop := fnFloorsUptoRow.holds Try.pinned (OpenSpec.upto fnFloorsSpec)

/-- 'laws.FnExactFloorLines', WHERE WHAT IT READS IS OF BULK AT MOST 1048576: true; the input reads as it did. -/
def fnExactFloorLinesUptoRow : OpenClaim := { program := "ytkljkkonhkakgaa", sum := "7e711154af008af0ab0afc03f9216aaeccfb271bd6686a6abf7623ee920b28ca", func := "loop.example/g03300/laws.FnExactFloorLines", spec := "fnExactFloorLines", apart := false, narrowed := true }
def FnExactFloorLinesUptoSaid : Prop := fnExactFloorLinesUptoRow.holds Try.pinned (OpenSpec.upto fnExactFloorLinesSpec)

/-- 'laws.FnExactFreeRegion', WHERE WHAT IT READS IS OF BULK AT MOST 1048576: true; the input reads as it did. -/
def fnExactFreeRegionUptoRow : OpenClaim := { program := "ytkljkkonhkakgaa", sum := "7e711154af008af0ab0afc03f9216aaeccfb271bd6686a6abf7623ee920b28ca", func := "loop.example/g03300/laws.FnExactFreeRegion", spec := "fnExactFreeRegion", unfollowed := true, recurses := true, apart := false, narrowed := true }
def FnExactFreeRegionUptoSaid : Prop := fnExactFreeRegionUptoRow.holds Try.pinned (OpenSpec.upto fnExactFreeRegionSpec)

/-- 'laws.FnExactSavingBy', WHERE WHAT IT READS IS OF BULK AT MOST 1048576: true; the input reads as it did. -/
def fnExactSavingByUptoRow : OpenClaim := { program := "ytkljkkonhkakgaa", sum := "7e711154af008af0ab0afc03f9216aaeccfb271bd6686a6abf7623ee920b28ca", func := "loop.example/g03300/laws.FnExactSavingBy", spec := "fnExactSavingBy", unfollowed := true, recurses := true, apart := false, narrowed := true }
def FnExactSavingByUptoSaid : Prop := fnExactSavingByUptoRow.holds Try.pinned (OpenSpec.upto fnExactSavingBySpec)

/-- 'laws.FnExactReadFloor', WHERE WHAT IT READS IS OF BULK AT MOST 1048576: true; the input reads as it did. -/
def fnExactReadFloorUptoRow : OpenClaim := { program := "ytkljkkonhkakgaa", sum := "7e711154af008af0ab0afc03f9216aaeccfb271bd6686a6abf7623ee920b28ca", func := "loop.example/g03300/laws.FnExactReadFloor", spec := "fnExactReadFloor", apart := false, narrowed := true }
def FnExactReadFloorUptoSaid : Prop := fnExactReadFloorUptoRow.holds Try.pinned (OpenSpec.upto fnExactReadFloorSpec)

/-- 'laws.FnForced', WHERE WHAT IT READS IS OF BULK AT MOST 1048576: true; the input reads as it did. -/
def fnForcedUptoRow : OpenClaim := { program := "ytkljkkonhkakgaa", sum := "7e711154af008af0ab0afc03f9216aaeccfb271bd6686a6abf7623ee920b28ca", func := "loop.example/g03300/laws.FnForced", spec := "fnForced", unfollowed := true, recurses := true, apart := false, narrowed := true }
def FnForcedUptoSaid : Prop := fnForcedUptoRow.holds Try.pinned (OpenSpec.upto fnForcedSpec)

/-- 'laws.FnExactCheapestTiling', WHERE WHAT IT READS IS OF BULK AT MOST 1048576: true; the input reads as it did. -/
def fnExactCheapestTilingUptoRow : OpenClaim := { program := "ytkljkkonhkakgaa", sum := "7e711154af008af0ab0afc03f9216aaeccfb271bd6686a6abf7623ee920b28ca", func := "loop.example/g03300/laws.FnExactCheapestTiling", spec := "fnExactCheapestTiling", unfollowed := true, recurses := true, apart := false, narrowed := true }
def FnExactCheapestTilingUptoSaid : Prop := fnExactCheapestTilingUptoRow.holds Try.pinned (OpenSpec.upto fnExactCheapestTilingSpec)

/-- 'laws.FnCheapest', WHERE WHAT IT READS IS OF BULK AT MOST 1048576: true; the input reads as it did. -/
def fnCheapestUptoRow : OpenClaim := { program := "ytkljkkonhkakgaa", sum := "7e711154af008af0ab0afc03f9216aaeccfb271bd6686a6abf7623ee920b28ca", func := "loop.example/g03300/laws.FnCheapest", spec := "fnCheapest", unfollowed := true, recurses := true, apart := false, narrowed := true }
def FnCheapestUptoSaid : Prop := fnCheapestUptoRow.holds Try.pinned (OpenSpec.upto fnCheapestSpec)

end Rows
end Go.Proofs.Ytkljkkonhkakgaa
