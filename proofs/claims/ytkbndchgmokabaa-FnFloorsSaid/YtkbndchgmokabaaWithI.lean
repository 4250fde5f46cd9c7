/- WithCell of the program. No conditions but sizes. -/
import Derived.Test.YtkbndchgmokabaaReg2
namespace Go.Proofs.Ytkbndchgmokabaa
open Go.ChangeShapes Go.WideShapes Go.ChangeAt Go.RowKit
set_option linter.unusedVariables false

/-- The call returned a region of its own and a bool, and wrote nothing that was there. -/
def RetRegB (l : List Int) (b : Bool) (w : World) (e : Ending) (w' : World) : Prop := ∃ A c, e = .returned (.tuple #[.agg #[.slice A l.length c], .bool b]) ∧ OwnL 3 1 eInt w.heap.size w' (.slice A l.length c) l ∧ Below w.heap.size w w'
def withSet (s i : Nat) (on : Bool) : Nat := if on then sWith (sWithout s i) i else sWithout s i
def withCell (rows : List Int) (c : Cl) (on : Bool) : List Int × Bool := if regionOk rows && cellOk c then (rowsOf (withSet (setOf rows) (cellIx c).toNat on) 8, true) else (rows, false)

theorem Blk.bl {w w' : World} {g : Nat} {t : TypeId} {cs : Array Value} (h : Blk w g t cs) (hb : Below w.heap.size w w') : Blk w' g t cs := h.below hb h.lt
theorem Blk.set1 {w : World} {g : Nat} {t : TypeId} {v : Value} (h : Blk w g t #[v]) (u : Value) : Blk (w.setCell ⟨g, 0, none⟩ u) g t #[u] := h.set_ 0 u
theorem Blk.new2 (w : World) (t : TypeId) (cs : Array Value) (g : Nat) (hg : g = w.heap.size) : Blk (w.alloc (.cells cs t)) g t cs := by subst hg; exact Blk.new_ w t cs

theorem regionOf8 (s : Nat) (w : World) (hs : s < U64) : Calls Try.prog 106 #[.int .u64 s, .int .i64 8] w (RetReg (rowsOf s 8) w) := regionOf_any s 8 w hs (by decide)
end Go.Proofs.Ytkbndchgmokabaa
