/- The law FnExactSampleWorkshop: the walk. No conditions. -/
import Derived.Test.YtmmeomjclfgljaaOpenW
import Derived.Test.YtmmeomjclfgljaaSampW
import Derived.Test.YtmmeomjclfgljaaFloorOkL
import Derived.Test.YtmmeomjclfgljaaLawBase
import Derived.Test.YtmmeomjclfgljaaWithCell
namespace Go.Proofs.Ytmmeomjclfgljaa
open Go.ChangeShapes Go.WideShapes Go.ChangeAt Go.RowKit
set_option linter.unusedVariables false
set_option linter.unusedSimpArgs false

set_option maxHeartbeats 4000000 in
set_option maxRecDepth 100000 in
theorem FnExactSampleWorkshop_walk (w : World)  : Calls Try.prog 4 #[] w (Ret (.bool true) w) := by
  have B := (Below.refl w.heap.size w)
  obtain ⟨b, hb⟩ : ∃ b, b = (tileB (rectRows 4 4) && inB 12 0 20000 && workOk (newFl (rectRows 4 4), 12 - ((newFl (rectRows 4 4)).2.2.1.length : Int), 0, 0)) := ⟨_, rfl⟩
  obtain ⟨y, hy⟩ : ∃ y, y = openFl b (rectRows 4 4) := ⟨_, rfl⟩
  obtain ⟨ys, hys⟩ : ∃ ys, ys = openSt b (rectRows 4 4) 12 := ⟨_, rfl⟩
  obtain ⟨yp, hyp⟩ : ∃ yp : Int, yp = 0 := ⟨_, rfl⟩
  obtain ⟨yr, hyr⟩ : ∃ yr : Int, yr = 0 := ⟨_, rfl⟩
  have hl : Small (rectRows 4 4).length := by unfold Small; decide
  have hsy : Small4 y := by rw [hy]; exact open_small hl
  have HY4 := Lib.hid hsy; clear hsy
  have CS : ∀ (w : World), Calls Try.prog 17 #[] w (RetWk y ys yp yr w) := fun w => by
    rw [hyp, hyr]
    exact sampS_any y ys b w (fun a1 w k1 => by rw [hy, hys, hb]; exact openS_any a1 (rectRows 4 4) 12 _ w k1 hl (fun u1 u2 u3 u4 w k1 k2 k3 k4 => workOkS_any u1 u2 u3 u4 (newFl (rectRows 4 4), 12 - ((newFl (rectRows 4 4)).2.2.1.length : Int), 0, 0) w k1 k2 k3 k4 (new_small hl).2.1))
  have CI : ∀ (w : World), Calls Try.prog 18 #[] w (RetWk y ys yp yr w) := fun w => by
    rw [hyp, hyr]
    exact sampI_any y ys b w (fun a1 w k1 => by rw [hy, hys, hb]; exact openI_any a1 (rectRows 4 4) 12 _ w k1 hl (fun u1 u2 u3 u4 w k1 k2 k3 k4 => workOkI_any u1 u2 u3 u4 (newFl (rectRows 4 4), 12 - ((newFl (rectRows 4 4)).2.2.1.length : Int), 0, 0) w k1 k2 k3 k4 (new_small hl).2.1))
  clear hy hys hyp hyr hb
  go_enter Try.func4, Try.ntmps4
  go_wp2_with fail
  refine (CS _).mono ?_
  rintro e w0 ⟨W1, cW1, W2, cW2, W3, cW3, W4, cW4, rfl, oW, hb⟩
  replace oW := oW.mono B.size
  replace B := B.tr hb
  clear hb
  replace B := B.al (.cells #[.slice W1 y.1.length cW1, .slice W2 y.2.1.length cW2, .slice W3 y.2.2.1.length cW3, .slice W4 y.2.2.2.length cW4, .int .i64 ys, .int .i64 yp, .int .i64 yr] 32)
  replace oW := oW.alloc (.cells #[.slice W1 y.1.length cW1, .slice W2 y.2.1.length cW2, .slice W3 y.2.2.1.length cW3, .slice W4 y.2.2.2.length cW4, .int .i64 ys, .int .i64 yp, .int .i64 yr] 32)
  have bW := Blk.new_ w0 32 #[.slice W1 y.1.length cW1, .slice W2 y.2.1.length cW2, .slice W3 y.2.2.1.length cW3, .slice W4 y.2.2.2.length cW4, .int .i64 ys, .int .i64 yp, .int .i64 yr]
  go_wp2_with fail
  refine (CI _).mono ?_
  rintro e w1 ⟨G1, cG1, G2, cG2, G3, cG3, G4, cG4, rfl, oG, hb⟩
  obtain ⟨gW, hgW⟩ : ∃ g, g = w0.heap.size := ⟨_, rfl⟩
  rw [← hgW] at bW ⊢
  clear hgW
  have ap_oW_oG := apart_of (fun k hk => (oW.lt hk).2) (fun k hk => (oG.lt hk).1) (Nat.le_refl _)
  replace oG := oG.mono B.size
  replace B := B.tr hb
  replace oW := oW.below hb
  replace bW := bW.bl hb
  clear hb
  replace B := B.al (.cells #[.slice G1 y.1.length cG1, .slice G2 y.2.1.length cG2, .slice G3 y.2.2.1.length cG3, .slice G4 y.2.2.2.length cG4, .int .i64 ys, .int .i64 yp, .int .i64 yr] 32)
  replace oW := oW.alloc (.cells #[.slice G1 y.1.length cG1, .slice G2 y.2.1.length cG2, .slice G3 y.2.2.1.length cG3, .slice G4 y.2.2.2.length cG4, .int .i64 ys, .int .i64 yp, .int .i64 yr] 32)
  replace bW := bW.alloc (.cells #[.slice G1 y.1.length cG1, .slice G2 y.2.1.length cG2, .slice G3 y.2.2.1.length cG3, .slice G4 y.2.2.2.length cG4, .int .i64 ys, .int .i64 yp, .int .i64 yr] 32)
  replace oG := oG.alloc (.cells #[.slice G1 y.1.length cG1, .slice G2 y.2.1.length cG2, .slice G3 y.2.2.1.length cG3, .slice G4 y.2.2.2.length cG4, .int .i64 ys, .int .i64 yp, .int .i64 yr] 32)
  have bG := Blk.new_ w1 32 #[.slice G1 y.1.length cG1, .slice G2 y.2.1.length cG2, .slice G3 y.2.2.1.length cG3, .slice G4 y.2.2.2.length cG4, .int .i64 ys, .int .i64 yp, .int .i64 yr]
  have u_0 := bG.cell 0
  have u_1 := bG.cell 1
  have u_2 := bG.cell 2
  have u_3 := bG.cell 3
  have u_4 := bG.cell 4
  have u_5 := bG.cell 5
  have u_6 := bG.cell 6
  simp only [List.getElem?_toArray, List.getElem?_cons_zero, List.getElem?_cons_succ] at u_0 u_1 u_2 u_3 u_4 u_5 u_6
  have v_0 := bW.cell 0
  have v_1 := bW.cell 1
  have v_2 := bW.cell 2
  have v_3 := bW.cell 3
  have v_4 := bW.cell 4
  have v_5 := bW.cell 5
  have v_6 := bW.cell 6
  simp only [List.getElem?_toArray, List.getElem?_cons_zero, List.getElem?_cons_succ] at v_0 v_1 v_2 v_3 v_4 v_5 v_6
  go_wp2_with fail
  refine (eqWork_same _ _ _ _ _ _ _ _ y ys yp yr _ oG.ra oG.rb oG.rc oG.rd oW.ra oW.rb oW.rc oW.rd).mono ?_
  rintro e w2 ⟨rfl, hb⟩
  obtain ⟨gG, hgG⟩ : ∃ g, g = w1.heap.size := ⟨_, rfl⟩
  rw [← hgG] at bG ⊢
  clear hgG
  clear u_0 u_1 u_2 u_3 u_4 u_5 u_6 v_0 v_1 v_2 v_3 v_4 v_5 v_6
  replace B := B.tr hb
  replace oW := oW.below hb
  replace bW := bW.bl hb
  replace oG := oG.below hb
  replace bG := bG.bl hb
  clear hb
  have hmy := mkEnd_pos y
  have u_0 := bG.cell 0
  have u_1 := bG.cell 1
  have u_2 := bG.cell 2
  have u_3 := bG.cell 3
  have u_4 := bG.cell 4
  have u_5 := bG.cell 5
  have u_6 := bG.cell 6
  simp only [List.getElem?_toArray, List.getElem?_cons_zero, List.getElem?_cons_succ] at u_0 u_1 u_2 u_3 u_4 u_5 u_6
  go_wp2_with fail
  refine (markWork_any _ _ _ _ y ys yp yr _ _ oG HY4.out).mono ?_
  rintro e w3 ⟨rfl, oM, hG⟩
  clear u_0 u_1 u_2 u_3 u_4 u_5 u_6
  replace oW := oW.grownS hG (ap_oW_oG)
  replace bW := bW.grownS hG (oG.apart bW (by decide) (by decide) (by decide))
  replace bG := bG.grownS hG (oG.apart bG (by decide) (by decide) (by decide))
  replace B := Below.grownS B hG B.size (fun k hk => (oG.lt hk).1)
  clear hG oG
  have oG := oM
  clear oM
  have u_0 := bG.cell 0
  have u_1 := bG.cell 1
  have u_2 := bG.cell 2
  have u_3 := bG.cell 3
  have u_4 := bG.cell 4
  have u_5 := bG.cell 5
  have u_6 := bG.cell 6
  simp only [List.getElem?_toArray, List.getElem?_cons_zero, List.getElem?_cons_succ] at u_0 u_1 u_2 u_3 u_4 u_5 u_6
  go_wp2_with fail
  refine (heldWork_any _ _ _ _ y ys yp yr _ _ oG HY4.out).mono ?_
  rintro e w4 ⟨rfl, hb⟩
  clear u_0 u_1 u_2 u_3 u_4 u_5 u_6
  replace B := B.tr hb
  replace oW := oW.below hb
  replace bW := bW.bl hb
  replace oG := oG.below hb
  replace bG := bG.bl hb
  clear hb
  go_wp2_with fail
  refine (CI _).mono ?_
  rintro e w5 ⟨H1, cH1, H2, cH2, H3, cH3, H4, cH4, rfl, oH, hb⟩
  replace oH := oH.mono B.size
  replace B := B.tr hb
  replace oW := oW.below hb
  replace bW := bW.bl hb
  replace oG := oG.below hb
  replace bG := bG.bl hb
  clear hb
  replace B := B.al (.cells #[.slice H1 y.1.length cH1, .slice H2 y.2.1.length cH2, .slice H3 y.2.2.1.length cH3, .slice H4 y.2.2.2.length cH4, .int .i64 ys, .int .i64 yp, .int .i64 yr] 32)
  replace oW := oW.alloc (.cells #[.slice H1 y.1.length cH1, .slice H2 y.2.1.length cH2, .slice H3 y.2.2.1.length cH3, .slice H4 y.2.2.2.length cH4, .int .i64 ys, .int .i64 yp, .int .i64 yr] 32)
  replace bW := bW.alloc (.cells #[.slice H1 y.1.length cH1, .slice H2 y.2.1.length cH2, .slice H3 y.2.2.1.length cH3, .slice H4 y.2.2.2.length cH4, .int .i64 ys, .int .i64 yp, .int .i64 yr] 32)
  replace oG := oG.alloc (.cells #[.slice H1 y.1.length cH1, .slice H2 y.2.1.length cH2, .slice H3 y.2.2.1.length cH3, .slice H4 y.2.2.2.length cH4, .int .i64 ys, .int .i64 yp, .int .i64 yr] 32)
  replace bG := bG.alloc (.cells #[.slice H1 y.1.length cH1, .slice H2 y.2.1.length cH2, .slice H3 y.2.2.1.length cH3, .slice H4 y.2.2.2.length cH4, .int .i64 ys, .int .i64 yp, .int .i64 yr] 32)
  replace oH := oH.alloc (.cells #[.slice H1 y.1.length cH1, .slice H2 y.2.1.length cH2, .slice H3 y.2.2.1.length cH3, .slice H4 y.2.2.2.length cH4, .int .i64 ys, .int .i64 yp, .int .i64 yr] 32)
  have bH := Blk.new_ w5 32 #[.slice H1 y.1.length cH1, .slice H2 y.2.1.length cH2, .slice H3 y.2.2.1.length cH3, .slice H4 y.2.2.2.length cH4, .int .i64 ys, .int .i64 yp, .int .i64 yr]
  have u_0 := bH.cell 0
  have u_1 := bH.cell 1
  have u_2 := bH.cell 2
  have u_3 := bH.cell 3
  have u_4 := bH.cell 4
  have u_5 := bH.cell 5
  have u_6 := bH.cell 6
  simp only [List.getElem?_toArray, List.getElem?_cons_zero, List.getElem?_cons_succ] at u_0 u_1 u_2 u_3 u_4 u_5 u_6
  have v_0 := bW.cell 0
  have v_1 := bW.cell 1
  have v_2 := bW.cell 2
  have v_3 := bW.cell 3
  have v_4 := bW.cell 4
  have v_5 := bW.cell 5
  have v_6 := bW.cell 6
  simp only [List.getElem?_toArray, List.getElem?_cons_zero, List.getElem?_cons_succ] at v_0 v_1 v_2 v_3 v_4 v_5 v_6
  go_wp2_with fail
  refine (eqWork_same _ _ _ _ _ _ _ _ y ys yp yr _ oH.ra oH.rb oH.rc oH.rd oW.ra oW.rb oW.rc oW.rd).mono ?_
  rintro e w6 ⟨rfl, hb⟩
  obtain ⟨gH, hgH⟩ : ∃ g, g = w5.heap.size := ⟨_, rfl⟩
  rw [← hgH] at bH ⊢
  clear hgH
  clear u_0 u_1 u_2 u_3 u_4 u_5 u_6 v_0 v_1 v_2 v_3 v_4 v_5 v_6
  replace B := B.tr hb
  replace oW := oW.below hb
  replace bW := bW.bl hb
  replace oG := oG.below hb
  replace bG := bG.bl hb
  replace oH := oH.below hb
  replace bH := bH.bl hb
  clear hb
  have u_0 := bG.cell 0
  have u_1 := bG.cell 1
  have u_2 := bG.cell 2
  have u_3 := bG.cell 3
  have u_4 := bG.cell 4
  have u_5 := bG.cell 5
  have u_6 := bG.cell 6
  simp only [List.getElem?_toArray, List.getElem?_cons_zero, List.getElem?_cons_succ] at u_0 u_1 u_2 u_3 u_4 u_5 u_6
  go_wp2_with fail
  refine (heldWork_any _ _ _ _ y ys yp yr _ _ oG HY4.out).mono ?_
  rintro e w7 ⟨rfl, hb⟩
  clear u_0 u_1 u_2 u_3 u_4 u_5 u_6
  replace B := B.tr hb
  replace oW := oW.below hb
  replace bW := bW.bl hb
  replace oG := oG.below hb
  replace bG := bG.bl hb
  replace oH := oH.below hb
  replace bH := bH.bl hb
  clear hb
  go_wp2
  go_ret
  exact ⟨rfl, B⟩
end Go.Proofs.Ytmmeomjclfgljaa
