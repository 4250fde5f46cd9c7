/- FnExactBoxesOk and FnExactSampleBoxes: the walks of the laws. For every list of boxes the law returns true, and its argument reads as before. No conditions. -/
import Derived.Test.YthmijfcoplillaaConvBox
import Derived.Test.YthmijfcoplillaaConvInt
import Derived.Test.YthmijfcoplillaaBoxes
namespace Go.Proofs.Ythmijfcoplillaa
open Go.ChangeShapes Go.WideShapes Go.ChangeAt Go.RowKit
set_option linter.unusedVariables false
theorem FnExactBoxesOk_walk (w : World) (v : Value) (l : List (Int × Int)) (h : Rd 2 RPair w v l) (ok : AllOk (fun x => I64 x.1 ∧ I64 x.2) l) :
    Calls Try.prog 7 #[v] w (Ret (.bool true) w) := by
  by_cases hsz : l.length ≤ 1048576
  · go_enter Try.func7, Try.ntmps7
    go_wp2_with fail
    refine (szBoxs_any _ l _ _ h (by decide) (by decide)).mono ?_
    rintro e w0 ⟨rfl, rfl⟩
    rw [szOf_ok (by omega)]
    go_wp2_with fail
    refine (toBoxs_any _ l _ h hsz).mono ?_
    rintro e w1 ⟨A1, c1, rfl, own1, hb1⟩
    go_wp2_with fail
    refine (boxesOkS_any _ l _ (own1.rd lenBox (by decide))).mono ?_
    rintro e w2 ⟨rfl, rfl⟩
    go_wp2_with fail
    refine (toBoxs_any _ l _ (h.below RE.stays hb1) hsz).mono ?_
    rintro e w3 ⟨A3, c3, rfl, own3, hb3⟩
    go_wp2_with fail
    refine (boxesOkI_any _ l _ (own3.rd lenBox (by decide))).mono ?_
    rintro e w4 ⟨rfl, hb4⟩
    go_wp2_with fail
    refine (toBoxs_any _ l _ (h.below RE.stays ((hb1.tr hb3).tr hb4)) hsz).mono ?_
    rintro e w5 ⟨A5, c5, rfl, own5, hb5⟩
    go_wp2_with fail
    refine (eqBoxs_any _ _ l l _ ((own3.rd lenBox (by decide)).below RE.stays (hb4.tr hb5)) (own5.rd lenBox (by decide))).mono ?_
    rintro e w6 ⟨rfl, hb6⟩
    rw [beq_self_eq_true]
    go_wp2
    go_ret
    exact ⟨rfl, (((hb1.tr hb3).tr hb4).tr hb5).tr hb6⟩
  · go_enter Try.func7, Try.ntmps7
    go_wp2_with fail
    refine (szBoxs_any _ l _ _ h (by decide) (by decide)).mono ?_
    rintro e w0 ⟨rfl, rfl⟩
    rw [szOf_no (by omega)]
    go_wp2
    go_ret
    exact ⟨rfl, Below.refl _ _⟩

theorem two_len : ∀ x : Int × Int, (ePair x).length = 2 := fun _ => rfl
theorem own_lit2 (w : World) {E : TypeId} (x y : Int × Int) : OwnL E 2 ePair w.heap.size (w.alloc (.cells #[.int .i64 x.1, .int .i64 x.2, .int .i64 y.1, .int .i64 y.2] E)) (.slice (some ⟨w.heap.size, 0, none⟩) 2 2) [x, y] :=
  World.ownsRow_lit w _ 2 (Nat.le_refl _) (by simp [maxLen]) rfl
theorem sampleI_any (w : World) : Calls Try.prog 19 #[] w (RetOwn 58 2 ePair [(6, 7), (10, 11)] w) := by
  go_enter Try.func19, Try.ntmps19
  go_wp2
  go_ret
  exact ⟨_, _, rfl, own_lit2 w (6, 7) (10, 11), (Below.refl _ _).al _⟩
theorem sampleS_any (w : World) : Calls Try.prog 18 #[] w (RetOwn 58 2 ePair [(6, 7), (10, 11)] w) := by
  go_enter Try.func18, Try.ntmps18
  go_wp2
  go_ret
  exact ⟨_, _, rfl, own_lit2 w (6, 7) (10, 11), (Below.refl _ _).al _⟩
theorem FnExactSampleBoxes_walk (w : World) : Calls Try.prog 4 #[] w (Ret (.bool true) w) := by
  go_enter Try.func4, Try.ntmps4
  go_wp2_with fail
  refine (sampleS_any _).mono ?_
  rintro e w1 ⟨A1, c1, rfl, own1, hb1⟩
  go_wp2_with fail
  refine (sampleI_any _).mono ?_
  rintro e w2 ⟨A2, c2, rfl, own2, hb2⟩
  have B2 := hb1.tr hb2
  go_wp2_with fail
  refine (eqBoxs_any _ _ _ _ _ (own2.rd two_len (by decide)) ((own1.below hb2).rd two_len (by decide))).mono ?_
  rintro e w3 ⟨rfl, hb3⟩
  have B3 := B2.tr hb3
  rw [beq_self_eq_true]
  go_wp2_with fail
  refine (markBoxs_any _ _ 1 _ _ (own2.below hb3) (by decide) (by decide) (by decide)).mono ?_
  rintro e w4 ⟨rfl, own4, hg4⟩
  have B4 := below_mark B3 own2 hb1.size hg4
  have o1 := own1.kept_ own2 (Nat.le_refl _) ((own1.below hb2).below hb3) hg4
  go_wp2_with fail
  refine (heldBoxs_any _ 1 _ _ (own4.rd two_len (by decide)) (by decide) (by decide) (by decide)).mono ?_
  rintro e w5 ⟨rfl, rfl⟩
  go_wp2_with fail
  refine (sampleI_any _).mono ?_
  rintro e w6 ⟨A6, c6, rfl, own6, hb6⟩
  have B6 := B4.tr hb6
  go_wp2_with fail
  refine (eqBoxs_any _ _ _ _ _ (own6.rd two_len (by decide)) ((o1.below hb6).rd two_len (by decide))).mono ?_
  rintro e w7 ⟨rfl, hb7⟩
  have B7 := B6.tr hb7
  rw [beq_self_eq_true]
  go_wp2_with fail
  refine (heldBoxs_any _ 1 _ _ (((own4.below hb6).below hb7).rd two_len (by decide)) (by decide) (by decide) (by decide)).mono ?_
  rintro e w8 ⟨rfl, rfl⟩
  go_wp2
  go_ret
  exact ⟨rfl, B7⟩
end Go.Proofs.Ythmijfcoplillaa
