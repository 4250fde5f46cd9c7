/- SameCells, RegionText, Rectangle of the program: the walks. Conditions: valid regions. -/
import Derived.Test.YtkbndchgmokabaaRegCells
import Derived.Test.YtkbndchgmokabaaConvStr
namespace Go.Proofs.Ytkbndchgmokabaa
open Go.ChangeShapes Go.WideShapes Go.ChangeAt Go.RowKit
set_option linter.unusedVariables false

theorem regionOkI_of (v : Value) (rows : List Int) (w : World) (h : Rd 1 RInt w v rows) (Hok : Hid (RowsOk rows)) : Calls Try.prog 92 #[.agg #[v]] w (Ret (.bool true) w) := by
  have := regionOkI_any v rows w h; rw [regionOk_iff.2 Hok.out] at this; exact this
def sign (b : Bool) : UInt8 := if b then 35 else 46
def lineTo (s y k : Nat) : ByteArray := ⟨((List.range k).map fun x => sign (s.testBit (8 * y + x))).toArray⟩
theorem push_eq (a : ByteArray) (x : UInt8) : a ++ (⟨#[x]⟩ : ByteArray) = a.push x := by
  apply ByteArray.ext
  rw [ByteArray.data_append]
  simp [ByteArray.push]
theorem lineTo_succ (s y k : Nat) : lineTo s y k ++ (⟨#[sign (s.testBit (8 * y + k))]⟩ : ByteArray) = lineTo s y (k + 1) := by
  rw [push_eq]
  unfold lineTo ByteArray.push
  congr 1
  simp [List.range_succ]
theorem lineTo_size (s y k : Nat) : (lineTo s y k).size = k := by simp [lineTo, ByteArray.size]
def textTo (s n : Nat) : List ByteArray := (List.range n).map fun y => lineTo s y 8

end Go.Proofs.Ytkbndchgmokabaa
