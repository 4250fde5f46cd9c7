/- The cells of a set and of a region; HasCell, SameCells of the program: the walks. No conditions but sizes. -/
import Derived.Test.YtkbndchgmokabaaWithI
import Derived.Test.YtkbndchgmokabaaConvCell
import Derived.Test.YtkbndchgmokabaaDraw
import Derived.Deep.RegionHeld3
namespace Go.Proofs.Ytkbndchgmokabaa
open Go.ChangeShapes Go.WideShapes Go.ChangeAt Go.RowKit
set_option linter.unusedVariables false

def ixCell (i : Nat) : Cl := ((i : Int) % 8, (i : Int) / 8)
def cellsTo (s k : Nat) : List Cl := ((List.range k).filter fun i => s.testBit i).map ixCell
theorem cellsTo_succ (s k : Nat) : cellsTo s (k + 1) = cellsTo s k ++ if s.testBit k then [ixCell k] else [] := by
  unfold cellsTo
  rw [List.range_succ, List.filter_append, List.map_append]
  by_cases h : s.testBit k = true
  · rw [if_pos h]; simp [h]
  · rw [if_neg h]; simp [h]
theorem cellsTo_le (s k : Nat) : (cellsTo s k).length ≤ k := by
  unfold cellsTo; rw [List.length_map]; exact Nat.le_trans (List.length_filter_le _ _) (by simp)

theorem cellAtI_any (i : Nat) (w : World) (hi : i ≤ 64) : Calls Try.prog 155 #[.int .i64 i] w (Ret (aCell (ixCell i)) w) := by
  go_enter Try.func155, Try.ntmps155
  go_wp2
  refine bodyPost_ret (v := aCell (ixCell i)) (by simp [results, Try.results155, go_sem, ixCell]) rfl ⟨rfl, ?_⟩
  exact ((Below.refl _ _).al _)

/-- The cells of a region. -/
def regCells (rows : List Int) : List Cl := if regionOk rows then cellsTo (setOf rows) 64 else []
theorem regCells_le (rows : List Int) : (regCells rows).length ≤ 64 := by
  unfold regCells; split
  · exact cellsTo_le _ _
  · simp
def hasCell (rows : List Int) (c : Cl) : Bool := regionOk rows && (cellOk c && (setOf rows).testBit (cellIx c).toNat)
def sameCells (a b : List Int) : Bool := regionOk a && regionOk b && decide (setOf a = setOf b)
end Go.Proofs.Ytkbndchgmokabaa
