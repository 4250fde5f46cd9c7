/- Plain laws for FnRegions: cells put in and taken out, counts of cells. Conditions: valid regions and cells. -/
import Derived.Test.YtkbndchgmokabaaRegText
import Derived.Test.YtkbndchgmokabaaRect
namespace Go.Proofs.Ytkbndchgmokabaa
open Go.ChangeShapes Go.WideShapes Go.ChangeAt Go.RowKit
set_option linter.unusedVariables false

theorem wset_lt {s i : Nat} (hs : s < U64) (hi : i < 64) (on : Bool) : withSet s i on < U64 := by
  unfold withSet; split
  · exact sWith_lt (sDiff_lt hs) hi
  · exact sDiff_lt hs
theorem wset_bit {s i : Nat} (hs : s < U64) (hi : i < 64) (on : Bool) (j : Nat) : (withSet s i on).testBit j = if i = j then on else s.testBit j := by
  unfold withSet
  cases on
  · rw [if_neg (by simp), testBit_sWithout hs hi]
    by_cases h : i = j <;> simp [h]
  · rw [if_pos rfl, testBit_sWith, testBit_sWithout hs hi]
    by_cases h : i = j <;> simp [h]
theorem wset_same {s i : Nat} (hs : s < U64) (hi : i < 64) (on : Bool) : decide (s = withSet s i on) = (s.testBit i == on) := by
  rw [Bool.eq_iff_iff, decide_eq_true_iff, beq_iff_eq]
  refine ⟨fun h => ?_, fun h => ?_⟩
  · rw [h, wset_bit hs hi, if_pos rfl]
  · refine set_ext hs (wset_lt hs hi on) fun j _ => ?_
    rw [wset_bit hs hi]
    by_cases hij : i = j
    · subst hij; rw [if_pos rfl, h]
    · rw [if_neg hij]
theorem wset_two {s i : Nat} (hs : s < U64) (hi : i < 64) : withSet (withSet s i true) i false = withSet s i false := by
  refine set_ext (wset_lt (wset_lt hs hi _) hi _) (wset_lt hs hi _) fun j _ => ?_
  rw [wset_bit (wset_lt hs hi _) hi, wset_bit hs hi, wset_bit hs hi]
  by_cases h : i = j <;> simp [h]
theorem ixCell_ok {i : Nat} (hi : i < 64) : cellOk (ixCell i) = true := by
  rw [cellOk_iff]; unfold ixCell; simp only; omega
theorem cellIx_ix {i : Nat} (hi : i < 64) : (cellIx (ixCell i)).toNat = i := by
  rw [(cellIx_in (ixCell_ok hi)).1]; unfold ixCell; simp only; omega
theorem withCell_ix {rows : List Int} (h : RowsOk rows) {i : Nat} (hi : i < 64) (on : Bool) : withCell rows (ixCell i) on = (rowsOf (withSet (setOf rows) i on) 8, true) := by
  unfold withCell; rw [regionOk_iff.2 h, ixCell_ok hi, cellIx_ix hi]; rfl
theorem hasCell_ix {rows : List Int} (h : RowsOk rows) {i : Nat} (hi : i < 64) : hasCell rows (ixCell i) = (setOf rows).testBit i := by
  unfold hasCell; rw [regionOk_iff.2 h, ixCell_ok hi, cellIx_ix hi]; rfl
theorem cellsTo_past {rows : List Int} (h : RowsOk rows) : ∀ d, (cellsTo (setOf rows) (8 * rows.length + d)) = cellsTo (setOf rows) (8 * rows.length) := by
  intro d
  induction d with
  | zero => rfl
  | succ d ih =>
    rw [← Nat.add_assoc, cellsTo_succ, ih]
    have : (setOf rows).testBit (8 * rows.length + d) = false := by
      rw [setOf_bit h, List.getD_eq_getElem?_getD, List.getElem?_eq_none (by omega)]
      simp
    rw [this]; simp
theorem marks_all {rows : List Int} (h : RowsOk rows) : (cellsTo (setOf rows) (8 * rows.length)).length = (regCells rows).length := by
  unfold regCells
  rw [regionOk_iff.2 h, if_pos rfl, ← cellsTo_past h (64 - 8 * rows.length)]
  have := h.1
  congr 2; omega
theorem cellsTo_len (s k : Nat) : (cellsTo s (k + 1)).length = (cellsTo s k).length + if s.testBit k then 1 else 0 := by
  rw [cellsTo_succ, List.length_append]; split <;> rfl
theorem rect_all : ∀ a b : Fin 9, 1 ≤ a.val → 1 ≤ b.val → (regCells (rectRows a.val b.val)).length = a.val * b.val := by decide +kernel
theorem rect_count {a b : Nat} (ha : 1 ≤ a ∧ a ≤ 8) (hb : 1 ≤ b ∧ b ≤ 8) : (regCells (rectRows a b)).length = a * b := rect_all ⟨a, by omega⟩ ⟨b, by omega⟩ ha.1 hb.1
end Go.Proofs.Ytkbndchgmokabaa
