/- The boxes that the reference draws: valid ones, one to four kinds. Conditions: the bytes read as a list. -/
import Derived.Test.YtkbndchgmokabaaDraw
import Derived.Test.YtkbndchgmokabaaBoxLaws2
namespace Go.Proofs.Ytkbndchgmokabaa
open Go.ChangeShapes Go.WideShapes Go.ChangeAt Go.RowKit
set_option linter.unusedVariables false

section
variable {α : Type} {E : TypeId} {size : Nat} {enc : α → List Value} {B : Nat} {w w' : World} {v : Value} {l : List α} {g : Nat} {u : Value} {n : Nat}
theorem OwnL.cur (h : OwnL E size enc B w v l) (hc : Cur w g u n) (hne : E ≠ 162) (hg : w.grownBy w' (some g)) : OwnL E size enc B w' v l := by
  obtain ⟨i, x, _, hb⟩ := hc
  exact World.ownsRow.kept h hg (.inr (h.apart hb hne))
theorem Cur.app {row : Option Nat} (hc : Cur w g u n) (o : Obj) (hg : (w.alloc o).grownBy w' row) (hne : row ≠ some g) : Cur w' g u n := by
  obtain ⟨i, x, hi, hb⟩ := hc
  exact ⟨i, x, hi, (hb.alloc o).grown hg (fun e => hne e.symm)⟩
theorem Cur.apart (h : OwnL E size enc B w v l) (hc : Cur w g u n) (hne : E ≠ 162) : v.ownBlock ≠ some g := by
  obtain ⟨i, x, _, hb⟩ := hc
  exact h.apart hb hne
theorem Cur.bl (hc : Cur w g u n) (hb : Below w.heap.size w w') : Cur w' g u n := by
  obtain ⟨i, x, hi, hk⟩ := hc
  exact ⟨i, x, hi, hk.below hb hk.lt⟩
theorem Cur.alloc (hc : Cur w g u n) (o : Obj) : Cur (w.alloc o) g u n := by
  obtain ⟨i, x, hi, hk⟩ := hc
  exact ⟨i, x, hi, hk.alloc o⟩
theorem Cur.drewN (hc : Cur w g u n) (k : Nat) : Cur (w.drewN k) g u n := by
  obtain ⟨i, x, hi, hk⟩ := hc
  exact ⟨i, x, hi, hk.drewN k⟩
end
/-- Boxes as the reference draws them. -/
def SmallBox (x : Int × Int) : Prop := 1 ≤ x.1 ∧ x.1 ≤ 12 ∧ x.1 + 1 ≤ x.2 ∧ x.2 ≤ x.1 + 9
theorem SmallBox.fine {x : Int × Int} (h : SmallBox x) : BoxFine x := by unfold SmallBox at h; unfold BoxFine; omega
end Go.Proofs.Ytkbndchgmokabaa
