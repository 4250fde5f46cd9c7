/- The law FnExactFormatWorkshop: the walk. No conditions. -/
import Derived.Test.YtklgbjgjojelbaaGreatDoorFmtWkS
import Derived.Test.YtklgbjgjojelbaaGreatDoorK12
import Derived.Test.YtklgbjgjojelbaaGreatDoorLawBase
namespace Go.Proofs.YtklgbjgjojelbaaGreatDoor
open Go.ChangeShapes Go.WideShapes Go.ChangeAt Go.RowKit
set_option linter.unusedVariables false
set_option linter.unusedSimpArgs false

abbrev oFnExactFormatWorkshopW0 : Oper := { dst := some 27, op := Go.Op.load 40 (Go.Operand.tmp 5), type := 40, pos := "exact.go:7112", after := #[], guard := none }
abbrev oFnExactFormatWorkshopW1 : Oper := { dst := some 28, op := Go.Op.load 30 (Go.Operand.tmp 1), type := 30, pos := "exact.go:7112", after := #[], guard := none }
abbrev oFnExactFormatWorkshopW2 : Oper := { dst := some 29, op := Go.Op.call { callee := Go.Callee.value (Go.Operand.func 6), args := #[Go.Operand.tmp 28], argTypes := #[30] }, type := 40, pos := "exact.go:7112", after := #[{ on := 1, ground := Go.Ground.data }], guard := none }
abbrev oFnExactFormatWorkshopW3 : Oper := { dst := some 30, op := Go.Op.call { callee := Go.Callee.value (Go.Operand.func 9), args := #[Go.Operand.tmp 27, Go.Operand.tmp 29], argTypes := #[40, 40] }, type := 4, pos := "exact.go:7112", after := #[{ on := 0, ground := Go.Ground.data }, { on := 2, ground := Go.Ground.data }, { on := 2, ground := Go.Ground.chain }], guard := none }
abbrev oFnExactFormatWorkshopW4 : Oper := { dst := some 31, op := Go.Op.unOp Go.UnOp.not 4 (Go.Operand.tmp 30), type := 4, pos := "exact.go:7112", after := #[{ on := 3, ground := Go.Ground.data }], guard := none }
set_option maxHeartbeats 4000000 in
set_option maxRecDepth 100000 in
theorem FnExactFormatWorkshop_walk (w : World) (tab : Tab w) (cs0 : List Value) (x0 : Wk) (h0 : RWork w cs0 x0) (okx0 : WorkIn x0) : Calls Tryz.prog 3 #[.agg cs0.toArray] w (Ret (.bool true) w) := by
  obtain ⟨v1, v2, v3, v4, rfl, h1, h2, h3, h4⟩ := h0.form
  obtain ⟨⟨rows, f, n, fl⟩, s, p, r⟩ := x0
  simp only at h1 h2 h3 h4 ⊢
  obtain ⟨P1, q1, rfl, _, _⟩ := h1.form
  obtain ⟨P2, q2, rfl, _, _⟩ := h2.form
  obtain ⟨P3, q3, rfl, _, _⟩ := h3.form
  obtain ⟨P4, q4, rfl, _, _⟩ := h4.form
  have B := ((Below.refl w.heap.size w).al (.cells #[.slice P1 rows.length q1, .slice P2 f.length q2, .slice P3 n.length q3, .slice P4 fl.length q4, .int .i64 s, .int .i64 p, .int .i64 r] 30))
  have bA0 := Blk.new_ w 30 #[.slice P1 rows.length q1, .slice P2 f.length q2, .slice P3 n.length q3, .slice P4 fl.length q4, .int .i64 s, .int .i64 p, .int .i64 r]
  by_cases hsz0 : (total (rows, f, n, fl) : Int) ≤ 1048576
  · skip
    have hs4 : Small4 (rows, f, n, fl) := by unfold total at hsz0; unfold Small4 Small; simp only at hsz0 ⊢; omega
    have hk0 : ¬ ((1048576 : Int) - rows.length - f.length - n.length - fl.length < 0) := by unfold total at hsz0; simp only at hsz0; omega
    have HT := Lib.hid tab; clear tab
    obtain ⟨t, ht0⟩ : ∃ t, t = wkTexts ((rows, f, n, fl), s, p, r) := ⟨_, rfl⟩
    have ht : t.length ≤ 1048576 := by rw [ht0]; exact wkTexts_len _
    have CS : ∀ (a1 a2 a3 a4 : Value) (w : World), Rd 1 RInt w a1 rows → Rd 3 RDom w a2 f → Rd 3 RDom w a3 n → Rd 2 RPair w a4 fl → Calls Tryz.prog 5 #[.agg #[a1, a2, a3, a4, .int .i64 s, .int .i64 p, .int .i64 r]] w (RetOwn 9 1 eStr t w) := fun a1 a2 a3 a4 w k1 k2 k3 k4 => by
      rw [ht0]; exact fmtWkS_any a1 a2 a3 a4 rows f n fl s p r w k1 k2 k3 k4 hs4
    have CI : ∀ (a1 a2 a3 a4 : Value) (w : World), Rd 1 RInt w a1 rows → Rd 3 RDom w a2 f → Rd 3 RDom w a3 n → Rd 2 RPair w a4 fl → Tab w → Calls Tryz.prog 7 #[.agg #[a1, a2, a3, a4, .int .i64 s, .int .i64 p, .int .i64 r]] w (RetOwn 9 1 eStr t w) := fun a1 a2 a3 a4 w k1 k2 k3 k4 q => by
      rw [ht0]; exact fmtWkI_any a1 a2 a3 a4 rows f n fl s p r w k1 k2 k3 k4 hs4 q
    clear ht0
    have HS := Lib.hid hs4
    have HZ0 := Lib.hid hsz0
    clear hs4 hsz0
    go_enter Tryz.func3, Tryz.ntmps3
    go_wp2_with fail
    refine (szWork_ok _ _ _ _ (rows, f, n, fl) s p r _ (h1.below RE.stays B) (h2.below RE.stays B) (h3.below RE.stays B) (h4.below RE.stays B) HZ0.out).mono ?_
    rintro e w0 ⟨rfl, hb⟩
    replace B := B.tr hb
    replace bA0 := bA0.bl hb
    clear hb
    have z0_0 := bA0.cell 0
    have z0_1 := bA0.cell 1
    have z0_2 := bA0.cell 2
    have z0_3 := bA0.cell 3
    have z0_4 := bA0.cell 4
    have z0_5 := bA0.cell 5
    have z0_6 := bA0.cell 6
    simp only [List.getElem?_toArray, List.getElem?_cons_zero, List.getElem?_cons_succ] at z0_0 z0_1 z0_2 z0_3 z0_4 z0_5 z0_6
    go_wp2_with fail
    refine (toWork_any _ _ _ _ ((rows, f, n, fl), s, p, r) _ (h1.below RE.stays B) (h2.below RE.stays B) (h3.below RE.stays B) (h4.below RE.stays B) HS.out).mono ?_
    rintro e w1 ⟨T1, t1, T2, t2, T3, t3, T4, t4, rfl, oT, hb⟩
    clear z0_0 z0_1 z0_2 z0_3 z0_4 z0_5 z0_6
    replace B := B.tr hb
    replace bA0 := bA0.bl hb
    clear hb
    go_wp2_with fail
    refine (CS _ _ _ _ _ oT.ra oT.rb oT.rc oT.rd).mono ?_
    rintro e w2 ⟨W1, cW1, rfl, oW, hb⟩
    clear oT
    replace oW := oW.mono B.size
    replace B := B.tr hb
    replace bA0 := bA0.bl hb
    clear hb
    have z0_0 := bA0.cell 0
    have z0_1 := bA0.cell 1
    have z0_2 := bA0.cell 2
    have z0_3 := bA0.cell 3
    have z0_4 := bA0.cell 4
    have z0_5 := bA0.cell 5
    have z0_6 := bA0.cell 6
    simp only [List.getElem?_toArray, List.getElem?_cons_zero, List.getElem?_cons_succ] at z0_0 z0_1 z0_2 z0_3 z0_4 z0_5 z0_6
    go_wp2_with fail
    refine (toWork_any _ _ _ _ ((rows, f, n, fl), s, p, r) _ (h1.below RE.stays B) (h2.below RE.stays B) (h3.below RE.stays B) (h4.below RE.stays B) HS.out).mono ?_
    rintro e w3 ⟨X1, x1, X2, x2, X3, x3, X4, x4, rfl, oX, hb⟩
    clear z0_0 z0_1 z0_2 z0_3 z0_4 z0_5 z0_6
    have ap_oW_oX := apart_of (fun k hk => (World.ownsRow.lt oW k hk).2) (fun k hk => (oX.lt hk).1) (Nat.le_refl _)
    replace oX := oX.mono B.size
    replace B := B.tr hb
    replace bA0 := bA0.bl hb
    replace oW := oW.below hb
    clear hb
    replace B := B.al (.cells #[.slice X1 rows.length x1, .slice X2 f.length x2, .slice X3 n.length x3, .slice X4 fl.length x4, .int .i64 s, .int .i64 p, .int .i64 r] 40)
    replace bA0 := bA0.alloc (.cells #[.slice X1 rows.length x1, .slice X2 f.length x2, .slice X3 n.length x3, .slice X4 fl.length x4, .int .i64 s, .int .i64 p, .int .i64 r] 40)
    replace oW := oW.alloc (.cells #[.slice X1 rows.length x1, .slice X2 f.length x2, .slice X3 n.length x3, .slice X4 fl.length x4, .int .i64 s, .int .i64 p, .int .i64 r] 40)
    replace oX := oX.alloc (.cells #[.slice X1 rows.length x1, .slice X2 f.length x2, .slice X3 n.length x3, .slice X4 fl.length x4, .int .i64 s, .int .i64 p, .int .i64 r] 40)
    have bX := Blk.new_ w3 40 #[.slice X1 rows.length x1, .slice X2 f.length x2, .slice X3 n.length x3, .slice X4 fl.length x4, .int .i64 s, .int .i64 p, .int .i64 r]
    have x_0 := bX.cell 0
    have x_1 := bX.cell 1
    have x_2 := bX.cell 2
    have x_3 := bX.cell 3
    have x_4 := bX.cell 4
    have x_5 := bX.cell 5
    have x_6 := bX.cell 6
    simp only [List.getElem?_toArray, List.getElem?_cons_zero, List.getElem?_cons_succ] at x_0 x_1 x_2 x_3 x_4 x_5 x_6
    go_wp2_with fail
    refine (CI _ _ _ _ _ oX.ra oX.rb oX.rc oX.rd (HT.out.below B)).mono ?_
    rintro e w4 ⟨G1, cG1, rfl, oG, hb⟩
    obtain ⟨gX, hgX⟩ : ∃ g, g = w3.heap.size := ⟨_, rfl⟩
    rw [← hgX] at bX ⊢
    clear hgX
    clear x_0 x_1 x_2 x_3 x_4 x_5 x_6
    have ap_oX_oG := apart_of (fun k hk => (oX.lt hk).2) (fun k hk => (World.ownsRow.lt oG k hk).1) (Nat.le_refl _)
    have ap_oW_oG := apart_of (fun k hk => (World.ownsRow.lt oW k hk).2) (fun k hk => (World.ownsRow.lt oG k hk).1) (Nat.le_refl _)
    replace oG := oG.mono B.size
    replace B := B.tr hb
    replace bA0 := bA0.bl hb
    replace oW := oW.below hb
    replace oX := oX.below hb
    replace bX := bX.bl hb
    clear hb
    go_wp2_with fail
    refine (eqStrsL _ _ t _ (oG.rd lenStr (by decide)) (oW.rd lenStr (by decide))).mono ?_
    rintro e w5 ⟨rfl, hb⟩
    replace B := B.tr hb
    replace bA0 := bA0.bl hb
    replace oW := oW.below hb
    replace oX := oX.below hb
    replace bX := bX.bl hb
    replace oG := oG.below hb
    clear hb
    go_upto_region 10 with (fail)
    obtain ⟨W, hW⟩ : ∃ W, W = w5 := ⟨_, rfl⟩
    rw [← hW] at B bA0 oW oX bX oG ⊢
    clear hW
    have z_0 := bA0.cell 0
    have z_1 := bA0.cell 1
    have z_2 := bA0.cell 2
    have z_3 := bA0.cell 3
    have z_4 := bA0.cell 4
    have z_5 := bA0.cell 5
    have z_6 := bA0.cell 6
    simp only [List.getElem?_toArray, List.getElem?_cons_zero, List.getElem?_cons_succ] at z_0 z_1 z_2 z_3 z_4 z_5 z_6
    have x_0 := bX.cell 0
    have x_1 := bX.cell 1
    have x_2 := bX.cell 2
    have x_3 := bX.cell 3
    have x_4 := bX.cell 4
    have x_5 := bX.cell 5
    have x_6 := bX.cell 6
    simp only [List.getElem?_toArray, List.getElem?_cons_zero, List.getElem?_cons_succ] at x_0 x_1 x_2 x_3 x_4 x_5 x_6
    have hlA0 := bA0.lt
    have hlX := bX.lt
    have Bw : Below W.heap.size W W.drew := (Below.refl _ _).drew
    have hz : W.heap.size ≤ W.drew.heap.size := by simp
    refine wp_region_held_drew (S := (fun w' => w'.cell? ⟨gX, 0, none⟩ = some (.slice X1 rows.length x1) ∧ w'.cell? ⟨gX, 1, none⟩ = some (.slice X2 f.length x2) ∧ w'.cell? ⟨gX, 2, none⟩ = some (.slice X3 n.length x3) ∧ w'.cell? ⟨gX, 3, none⟩ = some (.slice X4 fl.length x4) ∧ w'.cell? ⟨gX, 4, none⟩ = some (.int .i64 s) ∧ w'.cell? ⟨gX, 5, none⟩ = some (.int .i64 p) ∧ w'.cell? ⟨gX, 6, none⟩ = some (.int .i64 r) ∧ w'.cell? ⟨w.heap.size, 0, none⟩ = some (.slice P1 rows.length q1) ∧ w'.cell? ⟨w.heap.size, 1, none⟩ = some (.slice P2 f.length q2) ∧ w'.cell? ⟨w.heap.size, 2, none⟩ = some (.slice P3 n.length q3) ∧ w'.cell? ⟨w.heap.size, 3, none⟩ = some (.slice P4 fl.length q4) ∧ w'.cell? ⟨w.heap.size, 4, none⟩ = some (.int .i64 s) ∧ w'.cell? ⟨w.heap.size, 5, none⟩ = some (.int .i64 p) ∧ w'.cell? ⟨w.heap.size, 6, none⟩ = some (.int .i64 r))) (by kernel_rfl) ?_ (fun hHeld => ?_)
    · (try dsimp only); (try go_keep)
    refine tk 0 oFnExactFormatWorkshopW0 rfl (by kernel_rfl) (v := ?_) (fun _ _ _ h => h) (Or.inl ⟨by rfl, ?_⟩) (by assumption) ?_
    rotate_left 1
    · (intro wS hSw; (try dsimp only at hSw); dsimp only [oFnExactFormatWorkshopW0]; go_simp; (all_goals with_reducible rfl))
    simp only [oFnExactFormatWorkshopW0, putL, List.set]
    refine tk 1 oFnExactFormatWorkshopW1 rfl (by kernel_rfl) (v := ?_) (fun _ _ _ h => h) (Or.inl ⟨by rfl, ?_⟩) (by assumption) ?_
    rotate_left 1
    · (intro wS hSw; (try dsimp only at hSw); dsimp only [oFnExactFormatWorkshopW1]; go_simp; (all_goals with_reducible rfl))
    simp only [oFnExactFormatWorkshopW1, putL, List.set]
    refine wpAnyH_ready (rs := [2]) (by kernel_rfl) (by simp) ?_
    refine AllReadyH.cons (o := oFnExactFormatWorkshopW2) rfl (fun K hK => ?_) AllReadyH.nil
    dsimp only [oFnExactFormatWorkshopW2]
    go_simp
    (first | (go_at_call 6; go_must (refine (toWork_any _ _ _ _ ((rows, f, n, fl), s, p, r) _ (h1.below RE.stays (B.tr Bw)) (h2.below RE.stays (B.tr Bw)) (h3.below RE.stays (B.tr Bw)) (h4.below RE.stays (B.tr Bw)) HS.out).mono ?_; rintro e wX ⟨T1, t1, T2, t2, T3, t3, T4, t4, rfl, oT, hbX⟩; obtain ⟨hcX, hfX, hzX⟩ := bkn hbX W.heap.size hz; have hz := hzX; have Bw := Bw.tr hbX); (try go_wp2_with fail)) | (go_at_call 9; go_must (refine (eqWork_same _ _ _ _ _ _ _ _ (rows, f, n, fl) s p r _ (oX.below Bw).ra (oX.below Bw).rb (oX.below Bw).rc (oX.below Bw).rd oT.ra oT.rb oT.rc oT.rd).mono ?_; rintro e wX ⟨rfl, hbX⟩; obtain ⟨hcX, hfX, hzX⟩ := bkn hbX W.heap.size hz; have hz := hzX; have Bw := Bw.tr hbX); (try go_wp2_with fail)))
    refine hK.out _ _ ?_ (fun hHeld => ?_)
    · (try dsimp only); (try go_keep)
    clear hK K
    (try simp only [Act.put, List.setIfInBounds_toArray, List.set_cons_zero, List.set_cons_succ])
    refine wpAnyH_ready (rs := [3]) (by kernel_rfl) (by simp) ?_
    refine AllReadyH.cons (o := oFnExactFormatWorkshopW3) rfl (fun K hK => ?_) AllReadyH.nil
    dsimp only [oFnExactFormatWorkshopW3]
    go_simp
    (first | (go_at_call 6; go_must (refine (toWork_any _ _ _ _ ((rows, f, n, fl), s, p, r) _ (h1.below RE.stays (B.tr Bw)) (h2.below RE.stays (B.tr Bw)) (h3.below RE.stays (B.tr Bw)) (h4.below RE.stays (B.tr Bw)) HS.out).mono ?_; rintro e wX ⟨T1, t1, T2, t2, T3, t3, T4, t4, rfl, oT, hbX⟩; obtain ⟨hcX, hfX, hzX⟩ := bkn hbX W.heap.size hz; have hz := hzX; have Bw := Bw.tr hbX); (try go_wp2_with fail)) | (go_at_call 9; go_must (refine (eqWork_same _ _ _ _ _ _ _ _ (rows, f, n, fl) s p r _ (oX.below Bw).ra (oX.below Bw).rb (oX.below Bw).rc (oX.below Bw).rd oT.ra oT.rb oT.rc oT.rd).mono ?_; rintro e wX ⟨rfl, hbX⟩; obtain ⟨hcX, hfX, hzX⟩ := bkn hbX W.heap.size hz; have hz := hzX; have Bw := Bw.tr hbX); (try go_wp2_with fail)))
    refine hK.out _ _ ?_ (fun hHeld => ?_)
    · (try dsimp only); (try go_keep)
    clear hK K
    (try simp only [Act.put, List.setIfInBounds_toArray, List.set_cons_zero, List.set_cons_succ])
    refine tk 4 oFnExactFormatWorkshopW4 rfl (by kernel_rfl) (v := ?_) (fun _ _ _ h => h) (Or.inl ⟨by rfl, ?_⟩) (by assumption) ?_
    rotate_left 1
    · (intro wS hSw; (try dsimp only at hSw); dsimp only [oFnExactFormatWorkshopW4]; go_simp; (all_goals with_reducible rfl))
    simp only [oFnExactFormatWorkshopW4, putL, List.set]
    refine wpAnyH_done (by kernel_rfl) ?_ _
    clear z_0 z_1 z_2 z_3 z_4 z_5 z_6 x_0 x_1 x_2 x_3 x_4 x_5 x_6
    replace B := B.tr Bw
    replace bA0 := bA0.bl Bw
    replace oW := oW.below Bw
    replace oX := oX.below Bw
    replace bX := bX.bl Bw
    replace oG := oG.below Bw
    clear Bw hz oT
    have x_0 := bX.cell 0
    have x_1 := bX.cell 1
    have x_2 := bX.cell 2
    have x_3 := bX.cell 3
    have x_4 := bX.cell 4
    have x_5 := bX.cell 5
    have x_6 := bX.cell 6
    simp only [List.getElem?_toArray, List.getElem?_cons_zero, List.getElem?_cons_succ] at x_0 x_1 x_2 x_3 x_4 x_5 x_6
    have hmx := mkEnd_pos (rows, f, n, fl)
    have hmp : ¬ ((1 : Int) + (t.length : Int) < 0) := by omega
    go_wp2_with fail
    refine (markWork_any _ _ _ _ (rows, f, n, fl) s p r _ _ oX HS.out).mono ?_
    rintro e w7 ⟨rfl, oM, hG⟩
    clear x_0 x_1 x_2 x_3 x_4 x_5 x_6
    replace bA0 := bA0.grownS hG (oX.apart bA0 (by decide) (by decide) (by decide))
    replace oW := oW.grownS hG (ap_oW_oX)
    replace bX := bX.grownS hG (oX.apart bX (by decide) (by decide) (by decide))
    replace oG := oG.grownS hG (fun k hk hx => ap_oX_oG k hx hk)
    replace B := Below.grownS B hG B.size (fun k hk => (oX.lt hk).1)
    clear hG oM
    clear oX bX
    go_wp2_with fail
    refine (eqStrsL _ _ t _ (oG.rd lenStr (by decide)) (oW.rd lenStr (by decide))).mono ?_
    rintro e w8 ⟨rfl, hb⟩
    replace B := B.tr hb
    replace bA0 := bA0.bl hb
    replace oW := oW.below hb
    replace oG := oG.below hb
    clear hb
    go_wp2_with fail
    refine (markStrs_any _ t 1 _ _ oG (by decide) (by decide) ht).mono ?_
    rintro e w9 ⟨rfl, oM, hg⟩
    have hG := Grown.of hg
    replace bA0 := bA0.grownS hG (oG.apart bA0 (by decide))
    replace oW := oW.grownS hG (ap_oW_oG)
    replace B := Below.grownS B hG B.size (fun k hk => (World.ownsRow.lt oG k hk).1)
    clear hG oG
    have oG := oM
    clear oM
    go_wp2_with fail
    refine (heldStrs_any _ 1 t.length _ (OwnL.rd (l := marksStr 1 t.length) oG lenStr (by decide)) (by decide) (by decide) ht).mono ?_
    rintro e w10 ⟨rfl, hb⟩
    replace B := B.tr hb
    replace bA0 := bA0.bl hb
    replace oW := oW.below hb
    replace oG := oG.below hb
    clear hb
    have z0_0 := bA0.cell 0
    have z0_1 := bA0.cell 1
    have z0_2 := bA0.cell 2
    have z0_3 := bA0.cell 3
    have z0_4 := bA0.cell 4
    have z0_5 := bA0.cell 5
    have z0_6 := bA0.cell 6
    simp only [List.getElem?_toArray, List.getElem?_cons_zero, List.getElem?_cons_succ] at z0_0 z0_1 z0_2 z0_3 z0_4 z0_5 z0_6
    go_wp2_with fail
    refine (toWork_any _ _ _ _ ((rows, f, n, fl), s, p, r) _ (h1.below RE.stays B) (h2.below RE.stays B) (h3.below RE.stays B) (h4.below RE.stays B) HS.out).mono ?_
    rintro e w11 ⟨T1, t1, T2, t2, T3, t3, T4, t4, rfl, oT, hb⟩
    clear z0_0 z0_1 z0_2 z0_3 z0_4 z0_5 z0_6
    replace B := B.tr hb
    replace bA0 := bA0.bl hb
    replace oW := oW.below hb
    replace oG := oG.below hb
    clear hb
    go_wp2_with fail
    refine (CI _ _ _ _ _ oT.ra oT.rb oT.rc oT.rd (HT.out.below B)).mono ?_
    rintro e w12 ⟨H1, cH1, rfl, oH, hb⟩
    clear oT
    replace oH := oH.mono B.size
    replace B := B.tr hb
    replace bA0 := bA0.bl hb
    replace oW := oW.below hb
    replace oG := oG.below hb
    clear hb
    go_wp2_with fail
    refine (eqStrsL _ _ t _ (oH.rd lenStr (by decide)) (oW.rd lenStr (by decide))).mono ?_
    rintro e w13 ⟨rfl, hb⟩
    replace B := B.tr hb
    replace bA0 := bA0.bl hb
    replace oW := oW.below hb
    replace oG := oG.below hb
    replace oH := oH.below hb
    clear hb
    go_wp2_with fail
    refine (heldStrs_any _ 1 t.length _ (OwnL.rd (l := marksStr 1 t.length) oG lenStr (by decide)) (by decide) (by decide) ht).mono ?_
    rintro e w14 ⟨rfl, hb⟩
    replace B := B.tr hb
    replace bA0 := bA0.bl hb
    replace oW := oW.below hb
    replace oG := oG.below hb
    replace oH := oH.below hb
    clear hb
    go_wp2
    go_ret
    exact ⟨rfl, B⟩
  · skip
    have HZ0 := Lib.hid hsz0
    clear hsz0
    go_enter Tryz.func3, Tryz.ntmps3
    go_wp2_with fail
    refine (szWork_no _ _ _ _ (rows, f, n, fl) s p r _ (h1.below RE.stays B) (h2.below RE.stays B) (h3.below RE.stays B) (h4.below RE.stays B) (by have := HZ0.out; omega)).mono ?_
    rintro e w0 ⟨rfl, hb⟩
    go_wp2
    go_ret
    exact ⟨rfl, B.tr hb⟩
end Go.Proofs.YtklgbjgjojelbaaGreatDoor
