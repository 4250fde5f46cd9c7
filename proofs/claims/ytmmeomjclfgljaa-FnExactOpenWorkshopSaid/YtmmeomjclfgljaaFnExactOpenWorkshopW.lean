/- The law FnExactOpenWorkshop: the walk. No conditions. -/
import Derived.Test.YtmmeomjclfgljaaOpenW
import Derived.Test.YtmmeomjclfgljaaFloorOkL
import Derived.Test.YtmmeomjclfgljaaLawBase
import Derived.Test.YtmmeomjclfgljaaWithCell
namespace Go.Proofs.Ytmmeomjclfgljaa
open Go.ChangeShapes Go.WideShapes Go.ChangeAt Go.RowKit
set_option linter.unusedVariables false
set_option linter.unusedSimpArgs false

abbrev oFnExactOpenWorkshopW0 : Oper := { dst := some 45, op := Go.Op.load 26 (Go.Operand.tmp 8), type := 26, pos := "exact.go:6716", after := #[], guard := none }
abbrev oFnExactOpenWorkshopW1 : Oper := { dst := some 46, op := Go.Op.load 24 (Go.Operand.tmp 2), type := 24, pos := "exact.go:6716", after := #[], guard := none }
abbrev oFnExactOpenWorkshopW2 : Oper := { dst := some 47, op := Go.Op.call { callee := Go.Callee.value (Go.Operand.func 10), args := #[Go.Operand.tmp 46], argTypes := #[24] }, type := 26, pos := "exact.go:6716", after := #[{ on := 1, ground := Go.Ground.data }], guard := none }
abbrev oFnExactOpenWorkshopW3 : Oper := { dst := some 48, op := Go.Op.call { callee := Go.Callee.value (Go.Operand.func 13), args := #[Go.Operand.tmp 45, Go.Operand.tmp 47], argTypes := #[26, 26] }, type := 4, pos := "exact.go:6716", after := #[{ on := 0, ground := Go.Ground.data }, { on := 2, ground := Go.Ground.data }, { on := 2, ground := Go.Ground.chain }], guard := none }
abbrev oFnExactOpenWorkshopW4 : Oper := { dst := some 49, op := Go.Op.unOp Go.UnOp.not 4 (Go.Operand.tmp 48), type := 4, pos := "exact.go:6716", after := #[{ on := 3, ground := Go.Ground.data }], guard := none }
set_option maxHeartbeats 4000000 in
set_option maxRecDepth 100000 in
theorem FnExactOpenWorkshop_walk (w : World) (csR : List Value) (rows : List Int) (hR0 : RSl 1 RInt w csR rows) (okR : AllOk I64 rows) (ai : Int) (oki : I64 ai) : Calls Try.prog 3 #[.agg csR.toArray, .int .i64 ai] w (Ret (.bool true) w) := by
  obtain ⟨vR, rfl, hr⟩ := hR0
  obtain ⟨P1, q1, rfl, _, _⟩ := hr.form
  have B := ((Below.refl w.heap.size w).al (.cells #[.slice P1 rows.length q1] 24))
  have bA0 := Blk.new_ w 24 #[.slice P1 rows.length q1]
  by_cases hsz0 : (rows.length : Int) ≤ 1048576
  · skip
    have hl : Small rows.length := by unfold Small; omega
    have hk0 : ¬ ((1048576 : Int) - rows.length < 0) := by omega
    obtain ⟨b, hb⟩ : ∃ b, b = (tileB rows && inB ai 0 20000 && workOk (newFl rows, ai - ((newFl rows).2.2.1.length : Int), 0, 0)) := ⟨_, rfl⟩
    obtain ⟨y, hy⟩ : ∃ y, y = openFl b rows := ⟨_, rfl⟩
    obtain ⟨ys, hys⟩ : ∃ ys, ys = openSt b rows ai := ⟨_, rfl⟩
    obtain ⟨yp, hyp⟩ : ∃ yp : Int, yp = 0 := ⟨_, rfl⟩
    obtain ⟨yr, hyr⟩ : ∃ yr : Int, yr = 0 := ⟨_, rfl⟩
    have hsy : Small4 y := by rw [hy]; exact open_small hl
    have HY4 := Lib.hid hsy; clear hsy
    have hbb : (b != b) = false := by simp
    have CS : ∀ (a1 : Value) (w : World), Rd 1 RInt w a1 rows → Calls Try.prog 9 #[.agg #[a1], .int .i64 ai] w (RetWkB y ys yp yr b w) := fun a1 w k1 => by
      rw [hy, hys, hyp, hyr, hb]; exact openS_any a1 rows ai _ w k1 hl (fun u1 u2 u3 u4 w k1 k2 k3 k4 => workOkS_any u1 u2 u3 u4 (newFl rows, ai - ((newFl rows).2.2.1.length : Int), 0, 0) w k1 k2 k3 k4 (new_small hl).2.1)
    have CI : ∀ (a1 : Value) (w : World), Rd 1 RInt w a1 rows → Calls Try.prog 11 #[.agg #[a1], .int .i64 ai] w (RetWkB y ys yp yr b w) := fun a1 w k1 => by
      rw [hy, hys, hyp, hyr, hb]; exact openI_any a1 rows ai _ w k1 hl (fun u1 u2 u3 u4 w k1 k2 k3 k4 => workOkI_any u1 u2 u3 u4 (newFl rows, ai - ((newFl rows).2.2.1.length : Int), 0, 0) w k1 k2 k3 k4 (new_small hl).2.1)
    clear hy hys hyp hyr hb
    go_enter Try.func3, Try.ntmps3
    go_wp2_with fail
    refine (szRegion_any _ rows _ _ (hr.below RE.stays B) (by omega) (by omega)).mono ?_
    rintro e w0 ⟨rfl, hb⟩
    rw [szOf_ok (by omega)]
    replace B := B.tr hb
    replace bA0 := bA0.bl hb
    clear hb
    have z0_0 := bA0.cell 0
    simp only [List.getElem?_toArray, List.getElem?_cons_zero, List.getElem?_cons_succ] at z0_0
    go_wp2_with fail
    refine (toRegion_any _ rows _ (hr.below RE.stays B) hl).mono ?_
    rintro e w1 ⟨T1, t1, rfl, oT, hb⟩
    clear z0_0
    replace B := B.tr hb
    replace bA0 := bA0.bl hb
    clear hb
    go_wp2_with fail
    refine (CS _ _ (oT.rd lenInt (by decide))).mono ?_
    rintro e w2 ⟨W1, cW1, W2, cW2, W3, cW3, W4, cW4, rfl, oW, hb⟩
    clear oT
    replace oW := oW.mono B.size
    replace B := B.tr hb
    replace bA0 := bA0.bl hb
    clear hb
    replace B := B.al (.cells #[.slice W1 y.1.length cW1, .slice W2 y.2.1.length cW2, .slice W3 y.2.2.1.length cW3, .slice W4 y.2.2.2.length cW4, .int .i64 ys, .int .i64 yp, .int .i64 yr] 32)
    replace bA0 := bA0.alloc (.cells #[.slice W1 y.1.length cW1, .slice W2 y.2.1.length cW2, .slice W3 y.2.2.1.length cW3, .slice W4 y.2.2.2.length cW4, .int .i64 ys, .int .i64 yp, .int .i64 yr] 32)
    replace oW := oW.alloc (.cells #[.slice W1 y.1.length cW1, .slice W2 y.2.1.length cW2, .slice W3 y.2.2.1.length cW3, .slice W4 y.2.2.2.length cW4, .int .i64 ys, .int .i64 yp, .int .i64 yr] 32)
    have bW := Blk.new_ w2 32 #[.slice W1 y.1.length cW1, .slice W2 y.2.1.length cW2, .slice W3 y.2.2.1.length cW3, .slice W4 y.2.2.2.length cW4, .int .i64 ys, .int .i64 yp, .int .i64 yr]
    have z0_0 := bA0.cell 0
    simp only [List.getElem?_toArray, List.getElem?_cons_zero, List.getElem?_cons_succ] at z0_0
    go_wp2_with fail
    refine (toRegion_any _ rows _ (hr.below RE.stays B) hl).mono ?_
    rintro e w3 ⟨X1, x1, rfl, oX, hb⟩
    obtain ⟨gW, hgW⟩ : ∃ g, g = w2.heap.size := ⟨_, rfl⟩
    rw [← hgW] at bW ⊢
    clear hgW
    clear z0_0
    have ap_oW_oX := apart_of (fun k hk => (oW.lt hk).2) (fun k hk => (World.ownsRow.lt oX k hk).1) (Nat.le_refl _)
    replace oX := oX.mono B.size
    replace B := B.tr hb
    replace bA0 := bA0.bl hb
    replace oW := oW.below hb
    replace bW := bW.bl hb
    clear hb
    replace B := B.al (.cells #[.slice X1 rows.length x1] 26)
    replace bA0 := bA0.alloc (.cells #[.slice X1 rows.length x1] 26)
    replace oW := oW.alloc (.cells #[.slice X1 rows.length x1] 26)
    replace bW := bW.alloc (.cells #[.slice X1 rows.length x1] 26)
    replace oX := oX.alloc (.cells #[.slice X1 rows.length x1] 26)
    have bX := Blk.new_ w3 26 #[.slice X1 rows.length x1]
    have x_0 := bX.cell 0
    simp only [List.getElem?_toArray, List.getElem?_cons_zero, List.getElem?_cons_succ] at x_0
    go_wp2_with fail
    refine (CI _ _ (oX.rd lenInt (by decide))).mono ?_
    rintro e w4 ⟨G1, cG1, G2, cG2, G3, cG3, G4, cG4, rfl, oG, hb⟩
    obtain ⟨gX, hgX⟩ : ∃ g, g = w3.heap.size := ⟨_, rfl⟩
    rw [← hgX] at bX ⊢
    clear hgX
    clear x_0
    have ap_oX_oG := apart_of (fun k hk => (World.ownsRow.lt oX k hk).2) (fun k hk => (oG.lt hk).1) (Nat.le_refl _)
    have ap_oW_oG := apart_of (fun k hk => (oW.lt hk).2) (fun k hk => (oG.lt hk).1) (Nat.le_refl _)
    replace oG := oG.mono B.size
    replace B := B.tr hb
    replace bA0 := bA0.bl hb
    replace oW := oW.below hb
    replace bW := bW.bl hb
    replace oX := oX.below hb
    replace bX := bX.bl hb
    clear hb
    replace B := B.al (.cells #[.slice G1 y.1.length cG1, .slice G2 y.2.1.length cG2, .slice G3 y.2.2.1.length cG3, .slice G4 y.2.2.2.length cG4, .int .i64 ys, .int .i64 yp, .int .i64 yr] 32)
    replace bA0 := bA0.alloc (.cells #[.slice G1 y.1.length cG1, .slice G2 y.2.1.length cG2, .slice G3 y.2.2.1.length cG3, .slice G4 y.2.2.2.length cG4, .int .i64 ys, .int .i64 yp, .int .i64 yr] 32)
    replace oW := oW.alloc (.cells #[.slice G1 y.1.length cG1, .slice G2 y.2.1.length cG2, .slice G3 y.2.2.1.length cG3, .slice G4 y.2.2.2.length cG4, .int .i64 ys, .int .i64 yp, .int .i64 yr] 32)
    replace bW := bW.alloc (.cells #[.slice G1 y.1.length cG1, .slice G2 y.2.1.length cG2, .slice G3 y.2.2.1.length cG3, .slice G4 y.2.2.2.length cG4, .int .i64 ys, .int .i64 yp, .int .i64 yr] 32)
    replace oX := oX.alloc (.cells #[.slice G1 y.1.length cG1, .slice G2 y.2.1.length cG2, .slice G3 y.2.2.1.length cG3, .slice G4 y.2.2.2.length cG4, .int .i64 ys, .int .i64 yp, .int .i64 yr] 32)
    replace bX := bX.alloc (.cells #[.slice G1 y.1.length cG1, .slice G2 y.2.1.length cG2, .slice G3 y.2.2.1.length cG3, .slice G4 y.2.2.2.length cG4, .int .i64 ys, .int .i64 yp, .int .i64 yr] 32)
    replace oG := oG.alloc (.cells #[.slice G1 y.1.length cG1, .slice G2 y.2.1.length cG2, .slice G3 y.2.2.1.length cG3, .slice G4 y.2.2.2.length cG4, .int .i64 ys, .int .i64 yp, .int .i64 yr] 32)
    have bG := Blk.new_ w4 32 #[.slice G1 y.1.length cG1, .slice G2 y.2.1.length cG2, .slice G3 y.2.2.1.length cG3, .slice G4 y.2.2.2.length cG4, .int .i64 ys, .int .i64 yp, .int .i64 yr]
    have u_0 := bG.cell 0
    have u_1 := bG.cell 1
    have u_2 := bG.cell 2
    have u_3 := bG.cell 3
    have u_4 := bG.cell 4
    have u_5 := bG.cell 5
    have u_6 := bG.cell 6
    simp only [List.getElem?_toArray, List.getElem?_cons_zero, List.getElem?_cons_succ] at u_0 u_1 u_2 u_3 u_4 u_5 u_6
    have v_0 := bW.cell 0
    have v_1 := bW.cell 1
    have v_2 := bW.cell 2
    have v_3 := bW.cell 3
    have v_4 := bW.cell 4
    have v_5 := bW.cell 5
    have v_6 := bW.cell 6
    simp only [List.getElem?_toArray, List.getElem?_cons_zero, List.getElem?_cons_succ] at v_0 v_1 v_2 v_3 v_4 v_5 v_6
    go_wp2_with fail
    refine (eqWork_same _ _ _ _ _ _ _ _ y ys yp yr _ oG.ra oG.rb oG.rc oG.rd oW.ra oW.rb oW.rc oW.rd).mono ?_
    rintro e w5 ⟨rfl, hb⟩
    obtain ⟨gG, hgG⟩ : ∃ g, g = w4.heap.size := ⟨_, rfl⟩
    rw [← hgG] at bG ⊢
    clear hgG
    clear u_0 u_1 u_2 u_3 u_4 u_5 u_6 v_0 v_1 v_2 v_3 v_4 v_5 v_6
    replace B := B.tr hb
    replace bA0 := bA0.bl hb
    replace oW := oW.below hb
    replace bW := bW.bl hb
    replace oX := oX.below hb
    replace bX := bX.bl hb
    replace oG := oG.below hb
    replace bG := bG.bl hb
    clear hb
    go_upto_region 10 with (fail)
    obtain ⟨W, hW⟩ : ∃ W, W = w5 := ⟨_, rfl⟩
    rw [← hW] at B bA0 oW bW oX bX oG bG ⊢
    clear hW
    have z_0 := bA0.cell 0
    simp only [List.getElem?_toArray, List.getElem?_cons_zero, List.getElem?_cons_succ] at z_0
    have x_0 := bX.cell 0
    simp only [List.getElem?_toArray, List.getElem?_cons_zero, List.getElem?_cons_succ] at x_0
    have hlA0 := bA0.lt
    have hlX := bX.lt
    have Bw : Below W.heap.size W W.drew := (Below.refl _ _).drew
    have hz : W.heap.size ≤ W.drew.heap.size := by simp
    refine wp_region_held_drew (S := (fun w' => w'.cell? ⟨gX, 0, none⟩ = some (.slice X1 rows.length x1) ∧ w'.cell? ⟨w.heap.size, 0, none⟩ = some (.slice P1 rows.length q1))) (by kernel_rfl) ?_ (fun hHeld => ?_)
    · (try dsimp only); (try go_keep)
    refine tk 0 oFnExactOpenWorkshopW0 rfl (by kernel_rfl) (v := ?_) (fun _ _ _ h => h) (Or.inl ⟨by rfl, ?_⟩) (by assumption) ?_
    rotate_left 1
    · (intro wS hSw; (try dsimp only at hSw); dsimp only [oFnExactOpenWorkshopW0]; go_simp; (all_goals with_reducible rfl))
    simp only [oFnExactOpenWorkshopW0, putL, List.set]
    refine tk 1 oFnExactOpenWorkshopW1 rfl (by kernel_rfl) (v := ?_) (fun _ _ _ h => h) (Or.inl ⟨by rfl, ?_⟩) (by assumption) ?_
    rotate_left 1
    · (intro wS hSw; (try dsimp only at hSw); dsimp only [oFnExactOpenWorkshopW1]; go_simp; (all_goals with_reducible rfl))
    simp only [oFnExactOpenWorkshopW1, putL, List.set]
    refine wpAnyH_ready (rs := [2]) (by kernel_rfl) (by simp) ?_
    refine AllReadyH.cons (o := oFnExactOpenWorkshopW2) rfl (fun K hK => ?_) AllReadyH.nil
    dsimp only [oFnExactOpenWorkshopW2]
    go_simp
    (first | (go_at_call 10; go_must (refine (toRegion_any _ rows _ (hr.below RE.stays (B.tr Bw)) hl).mono ?_; rintro e wX ⟨T1, t1, rfl, oT, hbX⟩; obtain ⟨hcX, hfX, hzX⟩ := bkn hbX W.heap.size hz; have hz := hzX; have Bw := Bw.tr hbX); (try go_wp2_with fail)) | (go_at_call 13; go_must (refine (eqRegion_same _ _ rows _ ((oX.below Bw).rd lenInt (by decide)) (oT.rd lenInt (by decide))).mono ?_; rintro e wX ⟨rfl, hbX⟩; obtain ⟨hcX, hfX, hzX⟩ := bkn hbX W.heap.size hz; have hz := hzX; have Bw := Bw.tr hbX); (try go_wp2_with fail)))
    refine hK.out _ _ ?_ (fun hHeld => ?_)
    · (try dsimp only); (try go_keep)
    clear hK K
    (try simp only [Act.put, List.setIfInBounds_toArray, List.set_cons_zero, List.set_cons_succ])
    refine wpAnyH_ready (rs := [3]) (by kernel_rfl) (by simp) ?_
    refine AllReadyH.cons (o := oFnExactOpenWorkshopW3) rfl (fun K hK => ?_) AllReadyH.nil
    dsimp only [oFnExactOpenWorkshopW3]
    go_simp
    (first | (go_at_call 10; go_must (refine (toRegion_any _ rows _ (hr.below RE.stays (B.tr Bw)) hl).mono ?_; rintro e wX ⟨T1, t1, rfl, oT, hbX⟩; obtain ⟨hcX, hfX, hzX⟩ := bkn hbX W.heap.size hz; have hz := hzX; have Bw := Bw.tr hbX); (try go_wp2_with fail)) | (go_at_call 13; go_must (refine (eqRegion_same _ _ rows _ ((oX.below Bw).rd lenInt (by decide)) (oT.rd lenInt (by decide))).mono ?_; rintro e wX ⟨rfl, hbX⟩; obtain ⟨hcX, hfX, hzX⟩ := bkn hbX W.heap.size hz; have hz := hzX; have Bw := Bw.tr hbX); (try go_wp2_with fail)))
    refine hK.out _ _ ?_ (fun hHeld => ?_)
    · (try dsimp only); (try go_keep)
    clear hK K
    (try simp only [Act.put, List.setIfInBounds_toArray, List.set_cons_zero, List.set_cons_succ])
    refine tk 4 oFnExactOpenWorkshopW4 rfl (by kernel_rfl) (v := ?_) (fun _ _ _ h => h) (Or.inl ⟨by rfl, ?_⟩) (by assumption) ?_
    rotate_left 1
    · (intro wS hSw; (try dsimp only at hSw); dsimp only [oFnExactOpenWorkshopW4]; go_simp; (all_goals with_reducible rfl))
    simp only [oFnExactOpenWorkshopW4, putL, List.set]
    refine wpAnyH_done (by kernel_rfl) ?_ _
    clear z_0 x_0
    replace B := B.tr Bw
    replace bA0 := bA0.bl Bw
    replace oW := oW.below Bw
    replace bW := bW.bl Bw
    replace oX := oX.below Bw
    replace bX := bX.bl Bw
    replace oG := oG.below Bw
    replace bG := bG.bl Bw
    clear Bw hz oT
    have x_0 := bX.cell 0
    simp only [List.getElem?_toArray, List.getElem?_cons_zero, List.getElem?_cons_succ] at x_0
    have hkm0 : ¬ ((1 : Int) + (rows.length : Int) < 0) := by omega
    have hmy := mkEnd_pos y
    go_wp2_with fail
    refine (markRegion_any _ rows 1 _ _ oX (by decide) (by decide) (by omega)).mono ?_
    rintro e w7 ⟨rfl, oM, hg⟩
    clear x_0
    have hG := Grown.of hg
    replace bA0 := bA0.grownS hG (oX.apart bA0 (by decide))
    replace oW := oW.grownS hG (ap_oW_oX)
    replace bW := bW.grownS hG (oX.apart bW (by decide))
    replace bX := bX.grownS hG (oX.apart bX (by decide))
    replace oG := oG.grownS hG (fun k hk hx => ap_oX_oG k hx hk)
    replace bG := bG.grownS hG (oX.apart bG (by decide))
    replace B := Below.grownS B hG B.size (fun k hk => (World.ownsRow.lt oX k hk).1)
    clear hG oM
    clear oX bX
    have u_0 := bG.cell 0
    have u_1 := bG.cell 1
    have u_2 := bG.cell 2
    have u_3 := bG.cell 3
    have u_4 := bG.cell 4
    have u_5 := bG.cell 5
    have u_6 := bG.cell 6
    simp only [List.getElem?_toArray, List.getElem?_cons_zero, List.getElem?_cons_succ] at u_0 u_1 u_2 u_3 u_4 u_5 u_6
    have v_0 := bW.cell 0
    have v_1 := bW.cell 1
    have v_2 := bW.cell 2
    have v_3 := bW.cell 3
    have v_4 := bW.cell 4
    have v_5 := bW.cell 5
    have v_6 := bW.cell 6
    simp only [List.getElem?_toArray, List.getElem?_cons_zero, List.getElem?_cons_succ] at v_0 v_1 v_2 v_3 v_4 v_5 v_6
    go_wp2_with fail
    refine (eqWork_same _ _ _ _ _ _ _ _ y ys yp yr _ oG.ra oG.rb oG.rc oG.rd oW.ra oW.rb oW.rc oW.rd).mono ?_
    rintro e w8 ⟨rfl, hb⟩
    clear u_0 u_1 u_2 u_3 u_4 u_5 u_6 v_0 v_1 v_2 v_3 v_4 v_5 v_6
    replace B := B.tr hb
    replace bA0 := bA0.bl hb
    replace oW := oW.below hb
    replace bW := bW.bl hb
    replace oG := oG.below hb
    replace bG := bG.bl hb
    clear hb
    have u_0 := bG.cell 0
    have u_1 := bG.cell 1
    have u_2 := bG.cell 2
    have u_3 := bG.cell 3
    have u_4 := bG.cell 4
    have u_5 := bG.cell 5
    have u_6 := bG.cell 6
    simp only [List.getElem?_toArray, List.getElem?_cons_zero, List.getElem?_cons_succ] at u_0 u_1 u_2 u_3 u_4 u_5 u_6
    go_wp2_with fail
    refine (markWork_any _ _ _ _ y ys yp yr _ _ oG HY4.out).mono ?_
    rintro e w9 ⟨rfl, oM, hG⟩
    clear u_0 u_1 u_2 u_3 u_4 u_5 u_6
    replace bA0 := bA0.grownS hG (oG.apart bA0 (by decide) (by decide) (by decide))
    replace oW := oW.grownS hG (ap_oW_oG)
    replace bW := bW.grownS hG (oG.apart bW (by decide) (by decide) (by decide))
    replace bG := bG.grownS hG (oG.apart bG (by decide) (by decide) (by decide))
    replace B := Below.grownS B hG B.size (fun k hk => (oG.lt hk).1)
    clear hG oG
    have oG := oM
    clear oM
    have u_0 := bG.cell 0
    have u_1 := bG.cell 1
    have u_2 := bG.cell 2
    have u_3 := bG.cell 3
    have u_4 := bG.cell 4
    have u_5 := bG.cell 5
    have u_6 := bG.cell 6
    simp only [List.getElem?_toArray, List.getElem?_cons_zero, List.getElem?_cons_succ] at u_0 u_1 u_2 u_3 u_4 u_5 u_6
    go_wp2_with fail
    refine (heldWork_any _ _ _ _ y ys yp yr _ _ oG HY4.out).mono ?_
    rintro e w10 ⟨rfl, hb⟩
    clear u_0 u_1 u_2 u_3 u_4 u_5 u_6
    replace B := B.tr hb
    replace bA0 := bA0.bl hb
    replace oW := oW.below hb
    replace bW := bW.bl hb
    replace oG := oG.below hb
    replace bG := bG.bl hb
    clear hb
    have z0_0 := bA0.cell 0
    simp only [List.getElem?_toArray, List.getElem?_cons_zero, List.getElem?_cons_succ] at z0_0
    go_wp2_with fail
    refine (toRegion_any _ rows _ (hr.below RE.stays B) hl).mono ?_
    rintro e w11 ⟨T1, t1, rfl, oT, hb⟩
    clear z0_0
    replace B := B.tr hb
    replace bA0 := bA0.bl hb
    replace oW := oW.below hb
    replace bW := bW.bl hb
    replace oG := oG.below hb
    replace bG := bG.bl hb
    clear hb
    go_wp2_with fail
    refine (CI _ _ (oT.rd lenInt (by decide))).mono ?_
    rintro e w12 ⟨H1, cH1, H2, cH2, H3, cH3, H4, cH4, rfl, oH, hb⟩
    clear oT
    replace oH := oH.mono B.size
    replace B := B.tr hb
    replace bA0 := bA0.bl hb
    replace oW := oW.below hb
    replace bW := bW.bl hb
    replace oG := oG.below hb
    replace bG := bG.bl hb
    clear hb
    replace B := B.al (.cells #[.slice H1 y.1.length cH1, .slice H2 y.2.1.length cH2, .slice H3 y.2.2.1.length cH3, .slice H4 y.2.2.2.length cH4, .int .i64 ys, .int .i64 yp, .int .i64 yr] 32)
    replace bA0 := bA0.alloc (.cells #[.slice H1 y.1.length cH1, .slice H2 y.2.1.length cH2, .slice H3 y.2.2.1.length cH3, .slice H4 y.2.2.2.length cH4, .int .i64 ys, .int .i64 yp, .int .i64 yr] 32)
    replace oW := oW.alloc (.cells #[.slice H1 y.1.length cH1, .slice H2 y.2.1.length cH2, .slice H3 y.2.2.1.length cH3, .slice H4 y.2.2.2.length cH4, .int .i64 ys, .int .i64 yp, .int .i64 yr] 32)
    replace bW := bW.alloc (.cells #[.slice H1 y.1.length cH1, .slice H2 y.2.1.length cH2, .slice H3 y.2.2.1.length cH3, .slice H4 y.2.2.2.length cH4, .int .i64 ys, .int .i64 yp, .int .i64 yr] 32)
    replace oG := oG.alloc (.cells #[.slice H1 y.1.length cH1, .slice H2 y.2.1.length cH2, .slice H3 y.2.2.1.length cH3, .slice H4 y.2.2.2.length cH4, .int .i64 ys, .int .i64 yp, .int .i64 yr] 32)
    replace bG := bG.alloc (.cells #[.slice H1 y.1.length cH1, .slice H2 y.2.1.length cH2, .slice H3 y.2.2.1.length cH3, .slice H4 y.2.2.2.length cH4, .int .i64 ys, .int .i64 yp, .int .i64 yr] 32)
    replace oH := oH.alloc (.cells #[.slice H1 y.1.length cH1, .slice H2 y.2.1.length cH2, .slice H3 y.2.2.1.length cH3, .slice H4 y.2.2.2.length cH4, .int .i64 ys, .int .i64 yp, .int .i64 yr] 32)
    have bH := Blk.new_ w12 32 #[.slice H1 y.1.length cH1, .slice H2 y.2.1.length cH2, .slice H3 y.2.2.1.length cH3, .slice H4 y.2.2.2.length cH4, .int .i64 ys, .int .i64 yp, .int .i64 yr]
    have u_0 := bH.cell 0
    have u_1 := bH.cell 1
    have u_2 := bH.cell 2
    have u_3 := bH.cell 3
    have u_4 := bH.cell 4
    have u_5 := bH.cell 5
    have u_6 := bH.cell 6
    simp only [List.getElem?_toArray, List.getElem?_cons_zero, List.getElem?_cons_succ] at u_0 u_1 u_2 u_3 u_4 u_5 u_6
    have v_0 := bW.cell 0
    have v_1 := bW.cell 1
    have v_2 := bW.cell 2
    have v_3 := bW.cell 3
    have v_4 := bW.cell 4
    have v_5 := bW.cell 5
    have v_6 := bW.cell 6
    simp only [List.getElem?_toArray, List.getElem?_cons_zero, List.getElem?_cons_succ] at v_0 v_1 v_2 v_3 v_4 v_5 v_6
    go_wp2_with fail
    refine (eqWork_same _ _ _ _ _ _ _ _ y ys yp yr _ oH.ra oH.rb oH.rc oH.rd oW.ra oW.rb oW.rc oW.rd).mono ?_
    rintro e w13 ⟨rfl, hb⟩
    obtain ⟨gH, hgH⟩ : ∃ g, g = w12.heap.size := ⟨_, rfl⟩
    rw [← hgH] at bH ⊢
    clear hgH
    clear u_0 u_1 u_2 u_3 u_4 u_5 u_6 v_0 v_1 v_2 v_3 v_4 v_5 v_6
    replace B := B.tr hb
    replace bA0 := bA0.bl hb
    replace oW := oW.below hb
    replace bW := bW.bl hb
    replace oG := oG.below hb
    replace bG := bG.bl hb
    replace oH := oH.below hb
    replace bH := bH.bl hb
    clear hb
    have u_0 := bG.cell 0
    have u_1 := bG.cell 1
    have u_2 := bG.cell 2
    have u_3 := bG.cell 3
    have u_4 := bG.cell 4
    have u_5 := bG.cell 5
    have u_6 := bG.cell 6
    simp only [List.getElem?_toArray, List.getElem?_cons_zero, List.getElem?_cons_succ] at u_0 u_1 u_2 u_3 u_4 u_5 u_6
    go_wp2_with fail
    refine (heldWork_any _ _ _ _ y ys yp yr _ _ oG HY4.out).mono ?_
    rintro e w14 ⟨rfl, hb⟩
    clear u_0 u_1 u_2 u_3 u_4 u_5 u_6
    replace B := B.tr hb
    replace bA0 := bA0.bl hb
    replace oW := oW.below hb
    replace bW := bW.bl hb
    replace oG := oG.below hb
    replace bG := bG.bl hb
    replace oH := oH.below hb
    replace bH := bH.bl hb
    clear hb
    go_wp2
    go_ret
    exact ⟨rfl, B⟩
  · skip
    go_enter Try.func3, Try.ntmps3
    go_wp2_with fail
    refine (szRegion_any _ rows _ _ (hr.below RE.stays B) (by omega) (by omega)).mono ?_
    rintro e w0 ⟨rfl, hb⟩
    rw [szOf_no (by omega)]
    go_wp2
    go_ret
    exact ⟨rfl, B.tr hb⟩
end Go.Proofs.Ytmmeomjclfgljaa
