/- FnExactBoxesOk and FnExactSampleBoxes: the walks of the laws. For every list of boxes the law returns true, and its argument reads as before. No conditions. -/
import Derived.Test.YthmijfcoplillaaConvBox
import Derived.Test.YthmijfcoplillaaConvInt
import Derived.Test.YthmijfcoplillaaBoxes
namespace Go.Proofs.Ythmijfcoplillaa
open Go.ChangeShapes Go.WideShapes Go.ChangeAt Go.RowKit
set_option linter.unusedVariables false
theorem FnExactBoxesOk_walk (w : World) (v : Value) (l : List (Int × Int)) (h : Rd 2 RPair w v l) (ok : AllOk (fun x => I64 x.1 ∧ I64 x.2) l) :
    Calls Try.prog 7 #[v] w (Ret (.bool true) w) := by
  by_cases hsz : l.length ≤ 1048576
  · go_enter Try.func7, Try.ntmps7
    go_wp2_with fail
    refine (szBoxs_any _ l _ _ h (by decide) (by decide)).mono ?_
    rintro e w0 ⟨rfl, rfl⟩
    rw [szOf_ok (by omega)]
    go_wp2_with fail
    refine (toBoxs_any _ l _ h hsz).mono ?_
    rintro e w1 ⟨A1, c1, rfl, own1, hb1⟩
    go_wp2_with fail
    refine (boxesOkS_any _ l _ (own1.rd lenBox (by decide))).mono ?_
    rintro e w2 ⟨rfl, rfl⟩
    go_wp2_with fail
    refine (toBoxs_any _ l _ (h.below RE.stays hb1) hsz).mono ?_
    rintro e w3 ⟨A3, c3, rfl, own3, hb3⟩
    go_wp2_with fail
    refine (boxesOkI_any _ l _ (own3.rd lenBox (by decide))).mono ?_
    rintro e w4 ⟨rfl, hb4⟩
    go_wp2_with fail
    refine (toBoxs_any _ l _ (h.below RE.stays ((hb1.tr hb3).tr hb4)) hsz).mono ?_
    rintro e w5 ⟨A5, c5, rfl, own5, hb5⟩
    go_wp2_with fail
    refine (eqBoxs_any _ _ l l _ ((own3.rd lenBox (by decide)).below RE.stays (hb4.tr hb5)) (own5.rd lenBox (by decide))).mono ?_
    rintro e w6 ⟨rfl, hb6⟩
    rw [beq_self_eq_true]
    go_wp2
    go_ret
    exact ⟨rfl, (((hb1.tr hb3).tr hb4).tr hb5).tr hb6⟩
  · go_enter Try.func7, Try.ntmps7
    go_wp2_with fail
    refine (szBoxs_any _ l _ _ h (by decide) (by decide)).mono ?_
    rintro e w0 ⟨rfl, rfl⟩
    rw [szOf_no (by omega)]
    go_wp2
    go_ret
    exact ⟨rfl, Below.refl _ _⟩
end Go.Proofs.Ythmijfcoplillaa
