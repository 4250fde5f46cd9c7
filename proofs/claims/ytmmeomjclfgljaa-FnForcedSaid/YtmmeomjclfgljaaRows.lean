/-
  No cell of these rows narrows 'for every input' (looked for: loops, veiled, ifaces, maps, wideKeys, modest, calm, conditions, laid).
  DERIVED. THE GIVEN ROWS OF THIS SEAT. 5 by the template 'for every input the law returns true; each argument reads behind the call as it read before'; 0 by the template 'total and deterministic' (their statements: YtmmeomjclfgljaaTotals.lean).
  GIVEN WITH THE SEED: the statements are not yours to turn. If you find one false, say at which input.
  Laid BY PROGRAM, IN A SANDBOX (cutbox-rows.mjs): the forced cells as the released guide's own fill.sh prints them over the translation 373fbd8c9a102754… (all of the seat's roots in one cut). By AI agents, Wed Nov 11 2026. No macro, syntax, notation, axiom, sorry.
-/
import Derived.Test.YtmmeomjclfgljaaChecked
import GoSem.Claim
import GoSem.ClaimJoined
import GoSem.ClaimMapViews
import Derived.JoinedTies
import Derived.KernelRfl
namespace Go.Proofs.Ytmmeomjclfgljaa
/- THE CELL 'sum', in the pinned program and in every row, IS THE sha256 OF THE DUMP (.gsa) THAT YtmmeomjclfgljaaProg.lean LOADS. Nothing in Lean hashes anything: it is a label: what it is worth is what the hold of that sum in a sandbox is worth. -/
noncomputable def Try.pinned : Pinned := { name := "ytmmeomjclfgljaa", sum := "373fbd8c9a102754617c78968a0ab55f43a2831fa5eda27001ad0881fc4e31d5", checked := Try.checked }
namespace Rows
def none {H : Type} : Left H := { results := [], args := [] }

/-- 'laws.FnExactOpenWorkshop': WHATEVER THE INPUT: true; the input reads as it did. -/
def fnExactOpenWorkshopSpec : ChangeSpec := { name := "fnExactOpenWorkshop", fn := fun _ => fun
  | [d1, d2] => { results := [.lit (.bool true)], args := [d1, d2] }
  | _ => none }
def fnExactOpenWorkshopRow : OpenClaim := { program := "ytmmeomjclfgljaa", sum := "373fbd8c9a102754617c78968a0ab55f43a2831fa5eda27001ad0881fc4e31d5", func := "loop.example/g03300/laws.FnExactOpenWorkshop", spec := "fnExactOpenWorkshop", unfollowed := true, recurses := true, apart := false }
def FnExactOpenWorkshopSaid : Prop := fnExactOpenWorkshopRow.holds Try.pinned (OpenSpec.ofChange fnExactOpenWorkshopSpec)

/-- ITS FALSE NEIGHBOUR: 'it returns false'. Refute it at one input. -/
def fnExactOpenWorkshopWrong : ChangeSpec := { name := "fnExactOpenWorkshop", fn := fun _ => fun
  | [d1, d2] => { results := [.lit (.bool false)], args := [d1, d2] }
  | _ => none }
def FnExactOpenWorkshopWrongFalsely : Prop := fnExactOpenWorkshopRow.holds Try.pinned (OpenSpec.ofChange fnExactOpenWorkshopWrong)

/-- 'laws.FnExactSampleWorkshop': WHATEVER THE INPUT: true; the input reads as it did. -/
def fnExactSampleWorkshopSpec : ChangeSpec := { name := "fnExactSampleWorkshop", fn := fun _ => fun
  | [] => { results := [.lit (.bool true)], args := [] }
  | _ => none }
def fnExactSampleWorkshopRow : OpenClaim := { program := "ytmmeomjclfgljaa", sum := "373fbd8c9a102754617c78968a0ab55f43a2831fa5eda27001ad0881fc4e31d5", func := "loop.example/g03300/laws.FnExactSampleWorkshop", spec := "fnExactSampleWorkshop", unfollowed := true, recurses := true, apart := false }
def FnExactSampleWorkshopSaid : Prop := fnExactSampleWorkshopRow.holds Try.pinned (OpenSpec.ofChange fnExactSampleWorkshopSpec)

/-- ITS FALSE NEIGHBOUR: 'it returns false'. Refute it at one input. -/
def fnExactSampleWorkshopWrong : ChangeSpec := { name := "fnExactSampleWorkshop", fn := fun _ => fun
  | [] => { results := [.lit (.bool false)], args := [] }
  | _ => none }
def FnExactSampleWorkshopWrongFalsely : Prop := fnExactSampleWorkshopRow.holds Try.pinned (OpenSpec.ofChange fnExactSampleWorkshopWrong)

/-- 'laws.FnExactCheapestTiling': WHATEVER THE INPUT: true; the input reads as it did. -/
def fnExactCheapestTilingSpec : ChangeSpec := { name := "fnExactCheapestTiling", fn := fun _ => fun
  | [d1, d2] => { results := [.lit (.bool true)], args := [d1, d2] }
  | _ => none }
def fnExactCheapestTilingRow : OpenClaim := { program := "ytmmeomjclfgljaa", sum := "373fbd8c9a102754617c78968a0ab55f43a2831fa5eda27001ad0881fc4e31d5", func := "loop.example/g03300/laws.FnExactCheapestTiling", spec := "fnExactCheapestTiling", unfollowed := true, recurses := true, apart := false }
def FnExactCheapestTilingSaid : Prop := fnExactCheapestTilingRow.holds Try.pinned (OpenSpec.ofChange fnExactCheapestTilingSpec)

/-- ITS FALSE NEIGHBOUR: 'it returns false'. Refute it at one input. -/
def fnExactCheapestTilingWrong : ChangeSpec := { name := "fnExactCheapestTiling", fn := fun _ => fun
  | [d1, d2] => { results := [.lit (.bool false)], args := [d1, d2] }
  | _ => none }
def FnExactCheapestTilingWrongFalsely : Prop := fnExactCheapestTilingRow.holds Try.pinned (OpenSpec.ofChange fnExactCheapestTilingWrong)

/-- 'laws.FnForced': WHATEVER THE INPUT: true; the input reads as it did. -/
def fnForcedSpec : ChangeSpec := { name := "fnForced", fn := fun _ => fun
  | [d] => { results := [.lit (.bool true)], args := [d] }
  | _ => none }
def fnForcedRow : OpenClaim := { program := "ytmmeomjclfgljaa", sum := "373fbd8c9a102754617c78968a0ab55f43a2831fa5eda27001ad0881fc4e31d5", func := "loop.example/g03300/laws.FnForced", spec := "fnForced", unfollowed := true, recurses := true, apart := false }
def FnForcedSaid : Prop := fnForcedRow.holds Try.pinned (OpenSpec.ofChange fnForcedSpec)

/-- ITS FALSE NEIGHBOUR: 'it returns false'. Refute it at one input. -/
def fnForcedWrong : ChangeSpec := { name := "fnForced", fn := fun _ => fun
  | [d] => { results := [.lit (.bool false)], args := [d] }
  | _ => none }
def FnForcedWrongFalsely : Prop := fnForcedRow.holds Try.pinned (OpenSpec.ofChange fnForcedWrong)

/-- 'laws.FnCheapest': WHATEVER THE INPUT: true; the input reads as it did. -/
def fnCheapestSpec : ChangeSpec := { name := "fnCheapest", fn := fun _ => fun
  | [d] => { results := [.lit (.bool true)], args := [d] }
  | _ => none }
def fnCheapestRow : OpenClaim := { program := "ytmmeomjclfgljaa", sum := "373fbd8c9a102754617c78968a0ab55f43a2831fa5eda27001ad0881fc4e31d5", func := "loop.example/g03300/laws.FnCheapest", spec := "fnCheapest", unfollowed := true, recurses := true, apart := false }
def FnCheapestSaid : Prop := fnCheapestRow.holds Try.pinned (OpenSpec.ofChange fnCheapestSpec)

/-- ITS FALSE NEIGHBOUR: 'it returns false'. Refute it at one input. -/
def fnCheapestWrong : ChangeSpec := { name := "fnCheapest", fn := fun _ => fun
  | [d] => { results := [.lit (.bool false)], args := [d] }
  | _ => none }
def FnCheapestWrongFalsely : Prop := fnCheapestRow.holds Try.pinned (OpenSpec.ofChange fnCheapestWrong)

/- THE SECOND FORM. 'bulk': how many values and letters a reading holds, each counted each time it is reached (what is shared counts as often as it is met; a slice's spare places count too). A statement '..UptoSaid' is the law's where the arguments, and the package variables that the reading takes, are together of bulk at most 1048576: NARROWER than '..Said'. Prove '..Said' where nothing that the law and all that it calls make is longer than what came in: it says more and counts as full. Else prove '..UptoSaid'. A law counts once. -/
mutual
def uptoBulk {H : Type} : DataW H → Nat
  | .lit (.string bytes) => bytes.length + 1
  | .lit _ => 1
  | .nil => 1
  | .ptr d => uptoBulk d + 1
  | .slice elems spare => uptoBulkAll elems + uptoBulkAll spare + 1
  | .agg parts => uptoBulkAll parts + 1
  | .iface _ d => uptoBulk d + 1
  | .map entries => uptoBulkEntries entries + 1
  | .held _ => 1
def uptoBulkAll {H : Type} : List (DataW H) → Nat
  | [] => 0
  | d :: r => uptoBulk d + uptoBulkAll r
def uptoBulkEntries {H : Type} : List (Lit × DataW H) → Nat
  | [] => 0
  | x :: r => uptoBulkEntry x + uptoBulkEntries r
def uptoBulkEntry {H : Type} : Lit × DataW H → Nat
  | (.string bytes, d) => bytes.length + uptoBulk d + 1
  | (_, d) => uptoBulk d + 1
 end
def uptoSmall : (H : Type) → List (DataW H) → Bool := fun _ ds => decide (uptoBulkAll ds ≤ 1048576)
def OpenSpec.upto (s : _root_.Go.ChangeSpec) : _root_.Go.OpenSpec := { _root_.Go.OpenSpec.ofChange s with cond := some uptoSmall }

/-- 'laws.FnExactOpenWorkshop', WHERE WHAT IT READS IS OF BULK AT MOST 1048576: true; the input reads as it did. -/
def fnExactOpenWorkshopUptoRow : OpenClaim := { program := "ytmmeomjclfgljaa", sum := "373fbd8c9a102754617c78968a0ab55f43a2831fa5eda27001ad0881fc4e31d5", func := "loop.example/g03300/laws.FnExactOpenWorkshop", spec := "fnExactOpenWorkshop", unfollowed := true, recurses := true, apart := false, narrowed := true }
def FnExactOpenWorkshopUptoSaid : Prop := fnExactOpenWorkshopUptoRow.holds Try.pinned (OpenSpec.upto fnExactOpenWorkshopSpec)

/-- 'laws.FnExactSampleWorkshop', WHERE WHAT IT READS IS OF BULK AT MOST 1048576: true; the input reads as it did. -/
def fnExactSampleWorkshopUptoRow : OpenClaim := { program := "ytmmeomjclfgljaa", sum := "373fbd8c9a102754617c78968a0ab55f43a2831fa5eda27001ad0881fc4e31d5", func := "loop.example/g03300/laws.FnExactSampleWorkshop", spec := "fnExactSampleWorkshop", unfollowed := true, recurses := true, apart := false, narrowed := true }
def FnExactSampleWorkshopUptoSaid : Prop := fnExactSampleWorkshopUptoRow.holds Try.pinned (OpenSpec.upto fnExactSampleWorkshopSpec)

/-- 'laws.FnExactCheapestTiling', WHERE WHAT IT READS IS OF BULK AT MOST 1048576: true; the input reads as it did. -/
def fnExactCheapestTilingUptoRow : OpenClaim := { program := "ytmmeomjclfgljaa", sum := "373fbd8c9a102754617c78968a0ab55f43a2831fa5eda27001ad0881fc4e31d5", func := "loop.example/g03300/laws.FnExactCheapestTiling", spec := "fnExactCheapestTiling", unfollowed := true, recurses := true, apart := false, narrowed := true }
def FnExactCheapestTilingUptoSaid : Prop := fnExactCheapestTilingUptoRow.holds Try.pinned (OpenSpec.upto fnExactCheapestTilingSpec)

/-- 'laws.FnForced', WHERE WHAT IT READS IS OF BULK AT MOST 1048576: true; the input reads as it did. -/
def fnForcedUptoRow : OpenClaim := { program := "ytmmeomjclfgljaa", sum := "373fbd8c9a102754617c78968a0ab55f43a2831fa5eda27001ad0881fc4e31d5", func := "loop.example/g03300/laws.FnForced", spec := "fnForced", unfollowed := true, recurses := true, apart := false, narrowed := true }
def FnForcedUptoSaid : Prop := fnForcedUptoRow.holds Try.pinned (OpenSpec.upto fnForcedSpec)

/-- 'laws.FnCheapest', WHERE WHAT IT READS IS OF BULK AT MOST 1048576: true; the input reads as it did. -/
def fnCheapestUptoRow : OpenClaim := { program := "ytmmeomjclfgljaa", sum := "373fbd8c9a102754617c78968a0ab55f43a2831fa5eda27001ad0881fc4e31d5", func := "loop.example/g03300/laws.FnCheapest", spec := "fnCheapest", unfollowed := true, recurses := true, apart := false, narrowed := true }
def FnCheapestUptoSaid : Prop := fnCheapestUptoRow.holds Try.pinned (OpenSpec.upto fnCheapestSpec)

end Rows
end Go.Proofs.Ytmmeomjclfgljaa
