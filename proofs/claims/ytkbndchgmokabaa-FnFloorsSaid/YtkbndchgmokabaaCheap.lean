/- CheapestBoxes and BoxesHold: the walks and the laws. For all arguments the laws return true. No conditions. -/
import Derived.Test.YtkbndchgmokabaaLeastS
namespace Go.Proofs.Ytkbndchgmokabaa
open Go.ChangeShapes Go.WideShapes Go.ChangeAt Go.RowKit
set_option linter.unusedVariables false

def cheapest (l : List (Int × Int)) (n : Int) : Int := if boxesOk l l.length && inB n 0 500 then (least l n.toNat).getD n.toNat 0 else -1
theorem cheapest_ok {l : List (Int × Int)} (h : boxesOk l l.length = true) {n : Nat} (hn : n ≤ 500) : cheapest l n = (least l n)[n]'(by rw [least_len]; omega) := by
  have hi : inB (n : Int) 0 500 = true := by simp [inB]; omega
  unfold cheapest
  rw [h, hi, if_pos (by rfl), Int.toNat_natCast, List.getD_eq_getElem?_getD, List.getElem?_eq_getElem (by rw [least_len]; omega)]; rfl

end Go.Proofs.Ytkbndchgmokabaa
