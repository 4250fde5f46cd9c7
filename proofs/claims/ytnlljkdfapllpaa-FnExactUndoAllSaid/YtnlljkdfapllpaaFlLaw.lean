/- The laws FnExactUndoFlip and FnExactUndoAll: the walks. No conditions. -/
import Derived.Test.YtnlljkdfapllpaaFlAll
import Derived.Test.YtnlljkdfapllpaaK8
namespace Go.Proofs.Ytnlljkdfapllpaa
open Go.ChangeShapes Go.WideShapes Go.ChangeAt Go.RowKit
set_option linter.unusedVariables false
set_option linter.unusedSimpArgs false

theorem undo_small {x z : Fl} {b : Bool} (hs : Small4 x) (h : undoFl x = (z, b)) : Small4 z := by
  rcases b with _ | _
  · unfold undoFl at h
    split at h
    · cases h
    · injection h with h _; rw [← h]; exact hs
  · exact (undo_true hs h).2.2.2
theorem undoAll_small {x : Fl} (hs : Small4 x) : Small4 (undoAllFl x) := by
  unfold undoAllFl
  split
  · rename_i q; exact flSt_small hs q 0
  · exact hs
abbrev op_FlLaw_lawsFnExactUndoFlip_10_0 : Oper := { dst := some 41, op := Go.Op.load 34 (Go.Operand.tmp 6), type := 34, pos := "exact.go:6559", after := #[], guard := none }
abbrev op_FlLaw_lawsFnExactUndoFlip_10_1 : Oper := { dst := some 42, op := Go.Op.load 28 (Go.Operand.tmp 1), type := 28, pos := "exact.go:6559", after := #[], guard := none }
abbrev op_FlLaw_lawsFnExactUndoFlip_10_2 : Oper := { dst := some 43, op := Go.Op.call { callee := Go.Callee.value (Go.Operand.func 17), args := #[Go.Operand.tmp 42], argTypes := #[28] }, type := 34, pos := "exact.go:6559", after := #[{ on := 1, ground := Go.Ground.data }], guard := none }
abbrev op_FlLaw_lawsFnExactUndoFlip_10_3 : Oper := { dst := some 44, op := Go.Op.call { callee := Go.Callee.value (Go.Operand.func 19), args := #[Go.Operand.tmp 41, Go.Operand.tmp 43], argTypes := #[34, 34] }, type := 4, pos := "exact.go:6559", after := #[{ on := 0, ground := Go.Ground.data }, { on := 2, ground := Go.Ground.data }, { on := 2, ground := Go.Ground.chain }], guard := none }
abbrev op_FlLaw_lawsFnExactUndoFlip_10_4 : Oper := { dst := some 45, op := Go.Op.unOp Go.UnOp.not 4 (Go.Operand.tmp 44), type := 4, pos := "exact.go:6559", after := #[{ on := 3, ground := Go.Ground.data }], guard := none }
set_option maxHeartbeats 4000000 in
set_option maxRecDepth 100000 in
theorem FnExactUndoFlip_walk (w : World) (cs : List Value) (x : Fl) (h : RFloor w cs x) (okx : FloorIn x) : Calls Try.prog 3 #[.agg cs.toArray] w (Ret (.bool true) w) := by
  obtain ⟨v1, v2, v3, v4, rfl, h1, h2, h3, h4⟩ := h.form
  obtain ⟨rows, f, n, fl⟩ := x
  simp only at h1 h2 h3 h4
  obtain ⟨P1, q1, rfl, _, _⟩ := h1.form
  obtain ⟨P2, q2, rfl, _, _⟩ := h2.form
  obtain ⟨P3, q3, rfl, _, _⟩ := h3.form
  obtain ⟨P4, q4, rfl, _, _⟩ := h4.form
  have hA := (Below.refl w.heap.size w).al (.cells #[.slice P1 rows.length q1, .slice P2 f.length q2, .slice P3 n.length q3, .slice P4 fl.length q4] 28)
  have bA := Blk.new_ w 28 #[.slice P1 rows.length q1, .slice P2 f.length q2, .slice P3 n.length q3, .slice P4 fl.length q4]
  by_cases hsz : (total (rows, f, n, fl) : Int) ≤ 1048576
  · skip
    have hs4 : Small4 (rows, f, n, fl) := by unfold total at hsz; unfold Small4 Small; simp only at hsz ⊢; omega
    have hk : ¬ ((1048576 : Int) - rows.length - f.length - n.length - fl.length < 0) := by unfold total at hsz; simp only at hsz; omega
    obtain ⟨y, b, hy⟩ : ∃ y b, undoFl (rows, f, n, fl) = (y, b) := ⟨_, _, rfl⟩
    have hsy := undo_small hs4 hy
    have hbb : (b != b) = false := by simp
    have CS : ∀ (a1 a2 a3 a4 : Value) (w : World), Rd 1 RInt w a1 rows → Rd 3 RDom w a2 f → Rd 3 RDom w a3 n → Rd 2 RPair w a4 fl → Calls Try.prog 16 #[.agg #[a1, a2, a3, a4]] w (RetFlB y b w) := fun a1 a2 a3 a4 w k1 k2 k3 k4 => by
      have := undoS_any a1 a2 a3 a4 (rows, f, n, fl) w k1 k2 k3 k4 hs4
      rw [hy] at this; exact this
    have CI : ∀ (a1 a2 a3 a4 : Value) (w : World), Rd 1 RInt w a1 rows → Rd 3 RDom w a2 f → Rd 3 RDom w a3 n → Rd 2 RPair w a4 fl → Calls Try.prog 18 #[.agg #[a1, a2, a3, a4]] w (RetFlB y b w) := fun a1 a2 a3 a4 w k1 k2 k3 k4 => by
      have := undoI_any a1 a2 a3 a4 (rows, f, n, fl) w k1 k2 k3 k4 hs4
      rw [hy] at this; exact this
    clear hy
    have HS := Lib.hid hs4; have HZ := Lib.hid hsz; have HY4 := Lib.hid hsy; clear hs4 hsz hsy
    go_enter Try.func3, Try.ntmps3
    go_wp2_with fail
    refine (szFloor_ok _ _ _ _ (rows, f, n, fl) _ _ (h1.below RE.stays hA) (h2.below RE.stays hA) (h3.below RE.stays hA) (h4.below RE.stays hA) (by decide) HZ.out).mono ?_
    rintro e w0 ⟨rfl, hb0⟩
    have B0 := hA.tr hb0
    have bA0 := bA.bl hb0
    clear bA hA
    have z_0 := bA0.cell 0
    have z_1 := bA0.cell 1
    have z_2 := bA0.cell 2
    have z_3 := bA0.cell 3
    simp only [List.getElem?_toArray, List.getElem?_cons_zero, List.getElem?_cons_succ] at z_0 z_1 z_2 z_3
    go_wp2_with fail
    refine (toFloor_any _ _ _ _ (rows, f, n, fl) _ (h1.below RE.stays B0) (h2.below RE.stays B0) (h3.below RE.stays B0) (h4.below RE.stays B0) HS.out).mono ?_
    rintro e w1 ⟨A1, c1, A2, c2, A3, c3, A4, c4, rfl, o1, hb1⟩
    go_wp2_with fail
    refine (CS _ _ _ _ _ o1.ra o1.rb o1.rc o1.rd).mono ?_
    rintro e w2 ⟨W1, k1, W2, k2, W3, k3, W4, k4, rfl, oW, hb2⟩
    have B2 := ((B0.tr hb1).tr hb2).al (.cells #[.slice W1 y.1.length k1, .slice W2 y.2.1.length k2, .slice W3 y.2.2.1.length k3, .slice W4 y.2.2.2.length k4] 34)
    have bA2 := ((bA0.bl hb1).bl hb2).alloc (.cells #[.slice W1 y.1.length k1, .slice W2 y.2.1.length k2, .slice W3 y.2.2.1.length k3, .slice W4 y.2.2.2.length k4] 34)
    have bW2 := Blk.new_ w2 34 #[.slice W1 y.1.length k1, .slice W2 y.2.1.length k2, .slice W3 y.2.2.1.length k3, .slice W4 y.2.2.2.length k4]
    have oW2 := (oW.mono (B0.tr hb1).size).alloc (.cells #[.slice W1 y.1.length k1, .slice W2 y.2.1.length k2, .slice W3 y.2.2.1.length k3, .slice W4 y.2.2.2.length k4] 34)
    clear z_0 z_1 z_2 z_3 bA0 o1 hb0 hb1 hb2 oW B0
    have z_0 := bA2.cell 0
    have z_1 := bA2.cell 1
    have z_2 := bA2.cell 2
    have z_3 := bA2.cell 3
    simp only [List.getElem?_toArray, List.getElem?_cons_zero, List.getElem?_cons_succ] at z_0 z_1 z_2 z_3
    go_wp2_with fail
    refine (toFloor_any _ _ _ _ (rows, f, n, fl) _ (h1.below RE.stays B2) (h2.below RE.stays B2) (h3.below RE.stays B2) (h4.below RE.stays B2) HS.out).mono ?_
    rintro e w3 ⟨D1, d1, D2, d2, D3, d3, D4, d4, rfl, oX, hb3⟩
    have apWX := fun k hk => oW2.early oX (Nat.le_refl _) (k := k) hk
    have B3 := (B2.tr hb3).al (.cells #[.slice D1 rows.length d1, .slice D2 f.length d2, .slice D3 n.length d3, .slice D4 fl.length d4] 34)
    have bA3 := (bA2.bl hb3).alloc (.cells #[.slice D1 rows.length d1, .slice D2 f.length d2, .slice D3 n.length d3, .slice D4 fl.length d4] 34)
    have bW3 := (bW2.bl hb3).alloc (.cells #[.slice D1 rows.length d1, .slice D2 f.length d2, .slice D3 n.length d3, .slice D4 fl.length d4] 34)
    have bX3 := Blk.new_ w3 34 #[.slice D1 rows.length d1, .slice D2 f.length d2, .slice D3 n.length d3, .slice D4 fl.length d4]
    have oW3 := (oW2.below hb3).alloc (.cells #[.slice D1 rows.length d1, .slice D2 f.length d2, .slice D3 n.length d3, .slice D4 fl.length d4] 34)
    have oX3 := (oX.mono B2.size).alloc (.cells #[.slice D1 rows.length d1, .slice D2 f.length d2, .slice D3 n.length d3, .slice D4 fl.length d4] 34)
    obtain ⟨gW, hgW⟩ : ∃ g, g = w2.heap.size := ⟨_, rfl⟩
    rw [← hgW] at bW3 ⊢
    clear z_0 z_1 z_2 z_3 bA2 oX oW2 hb3 B2 bW2 hgW
    go_wp2_with fail
    refine (CI _ _ _ _ _ oX3.ra oX3.rb oX3.rc oX3.rd).mono ?_
    rintro e w4 ⟨G1, g1, G2, g2, G3, g3, G4, g4, rfl, oG, hb4⟩
    have apXG := fun k hk => oX3.early oG (Nat.le_refl _) (k := k) hk
    have apWG := fun k hk => oW3.early oG (Nat.le_refl _) (k := k) hk
    have B4 := (B3.tr hb4).al (.cells #[.slice G1 y.1.length g1, .slice G2 y.2.1.length g2, .slice G3 y.2.2.1.length g3, .slice G4 y.2.2.2.length g4] 34)
    have bA4 := (bA3.bl hb4).alloc (.cells #[.slice G1 y.1.length g1, .slice G2 y.2.1.length g2, .slice G3 y.2.2.1.length g3, .slice G4 y.2.2.2.length g4] 34)
    have bW4 := (bW3.bl hb4).alloc (.cells #[.slice G1 y.1.length g1, .slice G2 y.2.1.length g2, .slice G3 y.2.2.1.length g3, .slice G4 y.2.2.2.length g4] 34)
    have bX4 := (bX3.bl hb4).alloc (.cells #[.slice G1 y.1.length g1, .slice G2 y.2.1.length g2, .slice G3 y.2.2.1.length g3, .slice G4 y.2.2.2.length g4] 34)
    have bG4 := Blk.new_ w4 34 #[.slice G1 y.1.length g1, .slice G2 y.2.1.length g2, .slice G3 y.2.2.1.length g3, .slice G4 y.2.2.2.length g4]
    have oW4 := (oW3.below hb4).alloc (.cells #[.slice G1 y.1.length g1, .slice G2 y.2.1.length g2, .slice G3 y.2.2.1.length g3, .slice G4 y.2.2.2.length g4] 34)
    have oX4 := (oX3.below hb4).alloc (.cells #[.slice G1 y.1.length g1, .slice G2 y.2.1.length g2, .slice G3 y.2.2.1.length g3, .slice G4 y.2.2.2.length g4] 34)
    have oG4 := (oG.mono B3.size).alloc (.cells #[.slice G1 y.1.length g1, .slice G2 y.2.1.length g2, .slice G3 y.2.2.1.length g3, .slice G4 y.2.2.2.length g4] 34)
    obtain ⟨gX, hgX⟩ : ∃ g, g = w3.heap.size := ⟨_, rfl⟩
    rw [← hgX] at bX4 ⊢
    clear bA3 bW3 bX3 oW3 oX3 oG hb4 B3 hgX
    have u_0 := bG4.cell 0
    have u_1 := bG4.cell 1
    have u_2 := bG4.cell 2
    have u_3 := bG4.cell 3
    simp only [List.getElem?_toArray, List.getElem?_cons_zero, List.getElem?_cons_succ] at u_0 u_1 u_2 u_3
    have v_0 := bW4.cell 0
    have v_1 := bW4.cell 1
    have v_2 := bW4.cell 2
    have v_3 := bW4.cell 3
    simp only [List.getElem?_toArray, List.getElem?_cons_zero, List.getElem?_cons_succ] at v_0 v_1 v_2 v_3
    go_wp2_with fail
    refine (eqFloor_same _ _ _ _ _ _ _ _ y _ oG4.ra oG4.rb oG4.rc oG4.rd oW4.ra oW4.rb oW4.rc oW4.rd).mono ?_
    rintro e w5 ⟨rfl, hb5⟩
    have B5 := B4.tr hb5
    have bA5 := bA4.bl hb5
    have bW5 := bW4.bl hb5
    have bX5 := bX4.bl hb5
    have bG5 := bG4.bl hb5
    obtain ⟨gG, hgG⟩ : ∃ g, g = w4.heap.size := ⟨_, rfl⟩
    rw [← hgG] at bG5 ⊢
    clear hgG
    have oW5 := oW4.below hb5
    have oX5 := oX4.below hb5
    have oG5 := oG4.below hb5
    clear u_0 u_1 u_2 u_3 v_0 v_1 v_2 v_3 bA4 bW4 bX4 bG4 oW4 oX4 oG4 hb5 B4
    have z_0 := bA5.cell 0
    have z_1 := bA5.cell 1
    have z_2 := bA5.cell 2
    have z_3 := bA5.cell 3
    simp only [List.getElem?_toArray, List.getElem?_cons_zero, List.getElem?_cons_succ] at z_0 z_1 z_2 z_3
    have x_0 := bX5.cell 0
    have x_1 := bX5.cell 1
    have x_2 := bX5.cell 2
    have x_3 := bX5.cell 3
    simp only [List.getElem?_toArray, List.getElem?_cons_zero, List.getElem?_cons_succ] at x_0 x_1 x_2 x_3
    have hp0 := bA5.lt
    have hp1 := bX5.lt
    have Bw : Below w5.heap.size w5 w5.drew := (Below.refl _ _).drew
    have hz : w5.heap.size ≤ w5.drew.heap.size := by simp
    go_wp2_with fail
    refine wp_region_held_drew (S := (fun w' => w'.cell? ⟨gX, 0, none⟩ = some (.slice D1 rows.length d1) ∧ w'.cell? ⟨gX, 1, none⟩ = some (.slice D2 f.length d2) ∧ w'.cell? ⟨gX, 2, none⟩ = some (.slice D3 n.length d3) ∧ w'.cell? ⟨gX, 3, none⟩ = some (.slice D4 fl.length d4) ∧ w'.cell? ⟨w.heap.size, 0, none⟩ = some (.slice P1 rows.length q1) ∧ w'.cell? ⟨w.heap.size, 1, none⟩ = some (.slice P2 f.length q2) ∧ w'.cell? ⟨w.heap.size, 2, none⟩ = some (.slice P3 n.length q3) ∧ w'.cell? ⟨w.heap.size, 3, none⟩ = some (.slice P4 fl.length q4))) (by kernel_rfl) ?_ (fun hHeld => ?_)
    · (try dsimp only); (try go_keep)
    refine wpAnyH_take (i := 0) (oi := op_FlLaw_lawsFnExactUndoFlip_10_0) (v := ?_) rfl (by kernel_rfl) (by kernel_rfl) (by kernel_rfl) (fun _ _ _ h => h) (Or.inl ⟨by rfl, ?_⟩) (by assumption) ?_
    rotate_left 1
    · (intro wS hSw; (try dsimp only at hSw); dsimp only [op_FlLaw_lawsFnExactUndoFlip_10_0]; go_simp; (all_goals with_reducible rfl))
    simp only [op_FlLaw_lawsFnExactUndoFlip_10_0, Act.put, List.setIfInBounds_toArray, List.set_cons_zero, List.set_cons_succ]
    refine wpAnyH_take (i := 1) (oi := op_FlLaw_lawsFnExactUndoFlip_10_1) (v := ?_) rfl (by kernel_rfl) (by kernel_rfl) (by kernel_rfl) (fun _ _ _ h => h) (Or.inl ⟨by rfl, ?_⟩) (by assumption) ?_
    rotate_left 1
    · (intro wS hSw; (try dsimp only at hSw); dsimp only [op_FlLaw_lawsFnExactUndoFlip_10_1]; go_simp; (all_goals with_reducible rfl))
    simp only [op_FlLaw_lawsFnExactUndoFlip_10_1, Act.put, List.setIfInBounds_toArray, List.set_cons_zero, List.set_cons_succ]
    refine wpAnyH_ready (rs := [2]) (by kernel_rfl) (by simp) ?_
    refine AllReadyH.cons (o := op_FlLaw_lawsFnExactUndoFlip_10_2) rfl (fun K hK => ?_) AllReadyH.nil
    dsimp only [op_FlLaw_lawsFnExactUndoFlip_10_2]
    go_simp
    (first | (go_at_call 17; go_must (refine (toFloor_any _ _ _ _ (rows, f, n, fl) _ (h1.below RE.stays (B5.tr Bw)) (h2.below RE.stays (B5.tr Bw)) (h3.below RE.stays (B5.tr Bw)) (h4.below RE.stays (B5.tr Bw)) HS.out).mono ?_; rintro e wX ⟨E1, e1, E2, e2, E3, e3, E4, e4, rfl, oR, hbX⟩; obtain ⟨hcX, hfX, hzX⟩ := bkn hbX w5.heap.size hz; have hz := hzX; have Bw := Bw.tr hbX); (try go_wp2_with fail)) | (go_at_call 19; go_must (refine (eqFloor_same _ _ _ _ _ _ _ _ (rows, f, n, fl) _ (oX5.below Bw).ra (oX5.below Bw).rb (oX5.below Bw).rc (oX5.below Bw).rd oR.ra oR.rb oR.rc oR.rd).mono ?_; rintro e wX ⟨rfl, hbX⟩; obtain ⟨hcX, hfX, hzX⟩ := bkn hbX w5.heap.size hz; have hz := hzX; have Bw := Bw.tr hbX); (try go_wp2_with fail)))
    refine hK.out _ _ ?_ (fun hHeld => ?_)
    · (try dsimp only); (try go_keep)
    clear hK K
    (try simp only [Act.put, List.setIfInBounds_toArray, List.set_cons_zero, List.set_cons_succ])
    refine wpAnyH_ready (rs := [3]) (by kernel_rfl) (by simp) ?_
    refine AllReadyH.cons (o := op_FlLaw_lawsFnExactUndoFlip_10_3) rfl (fun K hK => ?_) AllReadyH.nil
    dsimp only [op_FlLaw_lawsFnExactUndoFlip_10_3]
    go_simp
    (first | (go_at_call 17; go_must (refine (toFloor_any _ _ _ _ (rows, f, n, fl) _ (h1.below RE.stays (B5.tr Bw)) (h2.below RE.stays (B5.tr Bw)) (h3.below RE.stays (B5.tr Bw)) (h4.below RE.stays (B5.tr Bw)) HS.out).mono ?_; rintro e wX ⟨E1, e1, E2, e2, E3, e3, E4, e4, rfl, oR, hbX⟩; obtain ⟨hcX, hfX, hzX⟩ := bkn hbX w5.heap.size hz; have hz := hzX; have Bw := Bw.tr hbX); (try go_wp2_with fail)) | (go_at_call 19; go_must (refine (eqFloor_same _ _ _ _ _ _ _ _ (rows, f, n, fl) _ (oX5.below Bw).ra (oX5.below Bw).rb (oX5.below Bw).rc (oX5.below Bw).rd oR.ra oR.rb oR.rc oR.rd).mono ?_; rintro e wX ⟨rfl, hbX⟩; obtain ⟨hcX, hfX, hzX⟩ := bkn hbX w5.heap.size hz; have hz := hzX; have Bw := Bw.tr hbX); (try go_wp2_with fail)))
    refine hK.out _ _ ?_ (fun hHeld => ?_)
    · (try dsimp only); (try go_keep)
    clear hK K
    (try simp only [Act.put, List.setIfInBounds_toArray, List.set_cons_zero, List.set_cons_succ])
    refine wpAnyH_take (i := 4) (oi := op_FlLaw_lawsFnExactUndoFlip_10_4) (v := ?_) rfl (by kernel_rfl) (by kernel_rfl) (by kernel_rfl) (fun _ _ _ h => h) (Or.inl ⟨by rfl, ?_⟩) (by assumption) ?_
    rotate_left 1
    · (intro wS hSw; (try dsimp only at hSw); dsimp only [op_FlLaw_lawsFnExactUndoFlip_10_4]; go_simp; (all_goals with_reducible rfl))
    simp only [op_FlLaw_lawsFnExactUndoFlip_10_4, Act.put, List.setIfInBounds_toArray, List.set_cons_zero, List.set_cons_succ]
    refine wpAnyH_done (by kernel_rfl) ?_ _
    have B6 := B5.tr Bw
    have bA6 := bA5.bl Bw
    have bW6 := bW5.bl Bw
    have bX6 := bX5.bl Bw
    have bG6 := bG5.bl Bw
    have oW6 := oW5.below Bw
    have oX6 := oX5.below Bw
    have oG6 := oG5.below Bw
    clear z_0 z_1 z_2 z_3 x_0 x_1 x_2 x_3 bA5 bW5 bX5 bG5 oW5 oX5 oG5 B5
    have x_0 := bX6.cell 0
    have x_1 := bX6.cell 1
    have x_2 := bX6.cell 2
    have x_3 := bX6.cell 3
    simp only [List.getElem?_toArray, List.getElem?_cons_zero, List.getElem?_cons_succ] at x_0 x_1 x_2 x_3
    go_wp2_with fail
    refine (markFloor_any _ _ _ _ (rows, f, n, fl) _ _ oX6 HS.out).mono ?_
    rintro e w7 ⟨rfl, oX7, G7⟩
    have B7 := Below.grownS B6 G7 B6.size (fun k hk => (oX6.lt hk).1)
    have bA7 := bA6.grownS G7 (oX6.apart bA6 (by decide) (by decide) (by decide))
    have bW7 := bW6.grownS G7 (oX6.apart bW6 (by decide) (by decide) (by decide))
    have bG7 := bG6.grownS G7 (oX6.apart bG6 (by decide) (by decide) (by decide))
    have oW7 := oW6.grownS G7 (fun k hk => apWX k hk)
    have oG7 := oG6.grownS G7 (fun k hk hx => apXG k hx hk)
    clear x_0 x_1 x_2 x_3 bA6 bW6 bX6 bG6 oW6 oX6 oG6 B6 oX7 G7
    have hm1 := mkEnd_pos (rows, f, n, fl)
    have hm2 := mkEnd_pos y
    have u_0 := bG7.cell 0
    have u_1 := bG7.cell 1
    have u_2 := bG7.cell 2
    have u_3 := bG7.cell 3
    simp only [List.getElem?_toArray, List.getElem?_cons_zero, List.getElem?_cons_succ] at u_0 u_1 u_2 u_3
    have v_0 := bW7.cell 0
    have v_1 := bW7.cell 1
    have v_2 := bW7.cell 2
    have v_3 := bW7.cell 3
    simp only [List.getElem?_toArray, List.getElem?_cons_zero, List.getElem?_cons_succ] at v_0 v_1 v_2 v_3
    go_wp2_with fail
    refine (eqFloor_same _ _ _ _ _ _ _ _ y _ oG7.ra oG7.rb oG7.rc oG7.rd oW7.ra oW7.rb oW7.rc oW7.rd).mono ?_
    rintro e w8 ⟨rfl, hb8⟩
    have B8 := B7.tr hb8
    have bA8 := bA7.bl hb8
    have bW8 := bW7.bl hb8
    have bG8 := bG7.bl hb8
    have oW8 := oW7.below hb8
    have oG8 := oG7.below hb8
    clear u_0 u_1 u_2 u_3 v_0 v_1 v_2 v_3 bA7 bW7 bG7 oW7 oG7 hb8 B7
    have u_0 := bG8.cell 0
    have u_1 := bG8.cell 1
    have u_2 := bG8.cell 2
    have u_3 := bG8.cell 3
    simp only [List.getElem?_toArray, List.getElem?_cons_zero, List.getElem?_cons_succ] at u_0 u_1 u_2 u_3
    go_wp2_with fail
    refine (markFloor_any _ _ _ _ y _ _ oG8 HY4.out).mono ?_
    rintro e w9 ⟨rfl, oG9, G9⟩
    have B9 := Below.grownS B8 G9 B8.size (fun k hk => (oG8.lt hk).1)
    have bA9 := bA8.grownS G9 (oG8.apart bA8 (by decide) (by decide) (by decide))
    have bW9 := bW8.grownS G9 (oG8.apart bW8 (by decide) (by decide) (by decide))
    have bG9 := bG8.grownS G9 (oG8.apart bG8 (by decide) (by decide) (by decide))
    have oW9 := oW8.grownS G9 (fun k hk => apWG k hk)
    clear u_0 u_1 u_2 u_3 bA8 bW8 bG8 oW8 oG8 B8 G9
    have u_0 := bG9.cell 0
    have u_1 := bG9.cell 1
    have u_2 := bG9.cell 2
    have u_3 := bG9.cell 3
    simp only [List.getElem?_toArray, List.getElem?_cons_zero, List.getElem?_cons_succ] at u_0 u_1 u_2 u_3
    go_wp2_with fail
    refine (heldFloor_any _ _ _ _ y _ _ oG9 HY4.out).mono ?_
    rintro e w10 ⟨rfl, hb10⟩
    have B10 := B9.tr hb10
    have bA10 := bA9.bl hb10
    have bW10 := bW9.bl hb10
    have bG10 := bG9.bl hb10
    have oW10 := oW9.below hb10
    have oG10 := oG9.below hb10
    clear u_0 u_1 u_2 u_3 bA9 bW9 bG9 oW9 oG9 hb10 B9
    have z_0 := bA10.cell 0
    have z_1 := bA10.cell 1
    have z_2 := bA10.cell 2
    have z_3 := bA10.cell 3
    simp only [List.getElem?_toArray, List.getElem?_cons_zero, List.getElem?_cons_succ] at z_0 z_1 z_2 z_3
    go_wp2_with fail
    refine (toFloor_any _ _ _ _ (rows, f, n, fl) _ (h1.below RE.stays B10) (h2.below RE.stays B10) (h3.below RE.stays B10) (h4.below RE.stays B10) HS.out).mono ?_
    rintro e w11 ⟨F1, e1, F2, e2, F3, e3, F4, e4, rfl, oY, hb11⟩
    go_wp2_with fail
    refine (CI _ _ _ _ _ oY.ra oY.rb oY.rc oY.rd).mono ?_
    rintro e w12 ⟨H1, h1, H2, h2, H3, h3, H4, h4, rfl, oH, hb12⟩
    have B12 := ((B10.tr hb11).tr hb12).al (.cells #[.slice H1 y.1.length h1, .slice H2 y.2.1.length h2, .slice H3 y.2.2.1.length h3, .slice H4 y.2.2.2.length h4] 34)
    have bW12 := ((bW10.bl hb11).bl hb12).alloc (.cells #[.slice H1 y.1.length h1, .slice H2 y.2.1.length h2, .slice H3 y.2.2.1.length h3, .slice H4 y.2.2.2.length h4] 34)
    have bG12 := ((bG10.bl hb11).bl hb12).alloc (.cells #[.slice H1 y.1.length h1, .slice H2 y.2.1.length h2, .slice H3 y.2.2.1.length h3, .slice H4 y.2.2.2.length h4] 34)
    have bH12 := Blk.new_ w12 34 #[.slice H1 y.1.length h1, .slice H2 y.2.1.length h2, .slice H3 y.2.2.1.length h3, .slice H4 y.2.2.2.length h4]
    have oW12 := ((oW10.below hb11).below hb12).alloc (.cells #[.slice H1 y.1.length h1, .slice H2 y.2.1.length h2, .slice H3 y.2.2.1.length h3, .slice H4 y.2.2.2.length h4] 34)
    have oG12 := ((oG10.below hb11).below hb12).alloc (.cells #[.slice H1 y.1.length h1, .slice H2 y.2.1.length h2, .slice H3 y.2.2.1.length h3, .slice H4 y.2.2.2.length h4] 34)
    have oH12 := oH.alloc (.cells #[.slice H1 y.1.length h1, .slice H2 y.2.1.length h2, .slice H3 y.2.2.1.length h3, .slice H4 y.2.2.2.length h4] 34)
    clear z_0 z_1 z_2 z_3 bA10 bW10 bG10 oW10 oG10 oY oH B10 hb11 hb12
    have u_0 := bH12.cell 0
    have u_1 := bH12.cell 1
    have u_2 := bH12.cell 2
    have u_3 := bH12.cell 3
    simp only [List.getElem?_toArray, List.getElem?_cons_zero, List.getElem?_cons_succ] at u_0 u_1 u_2 u_3
    have v_0 := bW12.cell 0
    have v_1 := bW12.cell 1
    have v_2 := bW12.cell 2
    have v_3 := bW12.cell 3
    simp only [List.getElem?_toArray, List.getElem?_cons_zero, List.getElem?_cons_succ] at v_0 v_1 v_2 v_3
    go_wp2_with fail
    refine (eqFloor_same _ _ _ _ _ _ _ _ y _ oH12.ra oH12.rb oH12.rc oH12.rd oW12.ra oW12.rb oW12.rc oW12.rd).mono ?_
    rintro e w13 ⟨rfl, hb13⟩
    have B13 := B12.tr hb13
    have bG13 := bG12.bl hb13
    have oG13 := oG12.below hb13
    clear u_0 u_1 u_2 u_3 v_0 v_1 v_2 v_3 bW12 bG12 bH12 oW12 oG12 oH12 hb13 B12
    have u_0 := bG13.cell 0
    have u_1 := bG13.cell 1
    have u_2 := bG13.cell 2
    have u_3 := bG13.cell 3
    simp only [List.getElem?_toArray, List.getElem?_cons_zero, List.getElem?_cons_succ] at u_0 u_1 u_2 u_3
    go_wp2_with fail
    refine (heldFloor_any _ _ _ _ y _ _ oG13 HY4.out).mono ?_
    rintro e w14 ⟨rfl, hb14⟩
    go_wp2
    go_ret
    exact ⟨rfl, B13.tr hb14⟩
  · skip
    have HZ := Lib.hid hsz; clear hsz
    go_enter Try.func3, Try.ntmps3
    go_wp2_with fail
    refine (szFloor_no _ _ _ _ (rows, f, n, fl) 1048576 _ (h1.below RE.stays hA) (h2.below RE.stays hA) (h3.below RE.stays hA) (h4.below RE.stays hA) (by decide) (by decide) (by have := HZ.out; omega)).mono ?_
    rintro e w0 ⟨rfl, hb0⟩
    go_wp2
    go_ret
    exact ⟨rfl, hA.tr hb0⟩
abbrev op_FlLaw_lawsFnExactUndoAll_10_0 : Oper := { dst := some 27, op := Go.Op.load 34 (Go.Operand.tmp 5), type := 34, pos := "exact.go:6605", after := #[], guard := none }
abbrev op_FlLaw_lawsFnExactUndoAll_10_1 : Oper := { dst := some 28, op := Go.Op.load 28 (Go.Operand.tmp 1), type := 28, pos := "exact.go:6605", after := #[], guard := none }
abbrev op_FlLaw_lawsFnExactUndoAll_10_2 : Oper := { dst := some 29, op := Go.Op.call { callee := Go.Callee.value (Go.Operand.func 17), args := #[Go.Operand.tmp 28], argTypes := #[28] }, type := 34, pos := "exact.go:6605", after := #[{ on := 1, ground := Go.Ground.data }], guard := none }
abbrev op_FlLaw_lawsFnExactUndoAll_10_3 : Oper := { dst := some 30, op := Go.Op.call { callee := Go.Callee.value (Go.Operand.func 19), args := #[Go.Operand.tmp 27, Go.Operand.tmp 29], argTypes := #[34, 34] }, type := 4, pos := "exact.go:6605", after := #[{ on := 0, ground := Go.Ground.data }, { on := 2, ground := Go.Ground.data }, { on := 2, ground := Go.Ground.chain }], guard := none }
abbrev op_FlLaw_lawsFnExactUndoAll_10_4 : Oper := { dst := some 31, op := Go.Op.unOp Go.UnOp.not 4 (Go.Operand.tmp 30), type := 4, pos := "exact.go:6605", after := #[{ on := 3, ground := Go.Ground.data }], guard := none }
set_option maxHeartbeats 4000000 in
set_option maxRecDepth 100000 in
theorem FnExactUndoAll_walk (w : World) (cs : List Value) (x : Fl) (h : RFloor w cs x) (okx : FloorIn x) : Calls Try.prog 5 #[.agg cs.toArray] w (Ret (.bool true) w) := by
  obtain ⟨v1, v2, v3, v4, rfl, h1, h2, h3, h4⟩ := h.form
  obtain ⟨rows, f, n, fl⟩ := x
  simp only at h1 h2 h3 h4
  obtain ⟨P1, q1, rfl, _, _⟩ := h1.form
  obtain ⟨P2, q2, rfl, _, _⟩ := h2.form
  obtain ⟨P3, q3, rfl, _, _⟩ := h3.form
  obtain ⟨P4, q4, rfl, _, _⟩ := h4.form
  have hA := (Below.refl w.heap.size w).al (.cells #[.slice P1 rows.length q1, .slice P2 f.length q2, .slice P3 n.length q3, .slice P4 fl.length q4] 28)
  have bA := Blk.new_ w 28 #[.slice P1 rows.length q1, .slice P2 f.length q2, .slice P3 n.length q3, .slice P4 fl.length q4]
  by_cases hsz : (total (rows, f, n, fl) : Int) ≤ 1048576
  · skip
    have hs4 : Small4 (rows, f, n, fl) := by unfold total at hsz; unfold Small4 Small; simp only at hsz ⊢; omega
    have hk : ¬ ((1048576 : Int) - rows.length - f.length - n.length - fl.length < 0) := by unfold total at hsz; simp only at hsz; omega
    obtain ⟨y, hy⟩ : ∃ y, y = undoAllFl (rows, f, n, fl) := ⟨_, rfl⟩
    have hsy : Small4 y := by rw [hy]; exact undoAll_small hs4
    have CS : ∀ (a1 a2 a3 a4 : Value) (w : World), Rd 1 RInt w a1 rows → Rd 3 RDom w a2 f → Rd 3 RDom w a3 n → Rd 2 RPair w a4 fl → Calls Try.prog 25 #[.agg #[a1, a2, a3, a4]] w (RetFloor y w) := fun a1 a2 a3 a4 w k1 k2 k3 k4 => by
      have := undoAllS_any a1 a2 a3 a4 (rows, f, n, fl) w k1 k2 k3 k4 hs4
      rw [← hy] at this; exact this
    have CI : ∀ (a1 a2 a3 a4 : Value) (w : World), Rd 1 RInt w a1 rows → Rd 3 RDom w a2 f → Rd 3 RDom w a3 n → Rd 2 RPair w a4 fl → Calls Try.prog 26 #[.agg #[a1, a2, a3, a4]] w (RetFloor y w) := fun a1 a2 a3 a4 w k1 k2 k3 k4 => by
      have := undoAllI_any a1 a2 a3 a4 (rows, f, n, fl) w k1 k2 k3 k4 hs4
      rw [← hy] at this; exact this
    clear hy
    have HS := Lib.hid hs4; have HZ := Lib.hid hsz; have HY4 := Lib.hid hsy; clear hs4 hsz hsy
    go_enter Try.func5, Try.ntmps5
    go_wp2_with fail
    refine (szFloor_ok _ _ _ _ (rows, f, n, fl) _ _ (h1.below RE.stays hA) (h2.below RE.stays hA) (h3.below RE.stays hA) (h4.below RE.stays hA) (by decide) HZ.out).mono ?_
    rintro e w0 ⟨rfl, hb0⟩
    have B0 := hA.tr hb0
    have bA0 := bA.bl hb0
    clear bA hA
    have z_0 := bA0.cell 0
    have z_1 := bA0.cell 1
    have z_2 := bA0.cell 2
    have z_3 := bA0.cell 3
    simp only [List.getElem?_toArray, List.getElem?_cons_zero, List.getElem?_cons_succ] at z_0 z_1 z_2 z_3
    go_wp2_with fail
    refine (toFloor_any _ _ _ _ (rows, f, n, fl) _ (h1.below RE.stays B0) (h2.below RE.stays B0) (h3.below RE.stays B0) (h4.below RE.stays B0) HS.out).mono ?_
    rintro e w1 ⟨A1, c1, A2, c2, A3, c3, A4, c4, rfl, o1, hb1⟩
    go_wp2_with fail
    refine (CS _ _ _ _ _ o1.ra o1.rb o1.rc o1.rd).mono ?_
    rintro e w2 ⟨W1, k1, W2, k2, W3, k3, W4, k4, rfl, oW, hb2⟩
    have B2 := ((B0.tr hb1).tr hb2).al (.cells #[.slice W1 y.1.length k1, .slice W2 y.2.1.length k2, .slice W3 y.2.2.1.length k3, .slice W4 y.2.2.2.length k4] 34)
    have bA2 := ((bA0.bl hb1).bl hb2).alloc (.cells #[.slice W1 y.1.length k1, .slice W2 y.2.1.length k2, .slice W3 y.2.2.1.length k3, .slice W4 y.2.2.2.length k4] 34)
    have bW2 := Blk.new_ w2 34 #[.slice W1 y.1.length k1, .slice W2 y.2.1.length k2, .slice W3 y.2.2.1.length k3, .slice W4 y.2.2.2.length k4]
    have oW2 := (oW.mono (B0.tr hb1).size).alloc (.cells #[.slice W1 y.1.length k1, .slice W2 y.2.1.length k2, .slice W3 y.2.2.1.length k3, .slice W4 y.2.2.2.length k4] 34)
    clear z_0 z_1 z_2 z_3 bA0 o1 hb0 hb1 hb2 oW B0
    have z_0 := bA2.cell 0
    have z_1 := bA2.cell 1
    have z_2 := bA2.cell 2
    have z_3 := bA2.cell 3
    simp only [List.getElem?_toArray, List.getElem?_cons_zero, List.getElem?_cons_succ] at z_0 z_1 z_2 z_3
    go_wp2_with fail
    refine (toFloor_any _ _ _ _ (rows, f, n, fl) _ (h1.below RE.stays B2) (h2.below RE.stays B2) (h3.below RE.stays B2) (h4.below RE.stays B2) HS.out).mono ?_
    rintro e w3 ⟨D1, d1, D2, d2, D3, d3, D4, d4, rfl, oX, hb3⟩
    have apWX := fun k hk => oW2.early oX (Nat.le_refl _) (k := k) hk
    have B3 := (B2.tr hb3).al (.cells #[.slice D1 rows.length d1, .slice D2 f.length d2, .slice D3 n.length d3, .slice D4 fl.length d4] 34)
    have bA3 := (bA2.bl hb3).alloc (.cells #[.slice D1 rows.length d1, .slice D2 f.length d2, .slice D3 n.length d3, .slice D4 fl.length d4] 34)
    have bW3 := (bW2.bl hb3).alloc (.cells #[.slice D1 rows.length d1, .slice D2 f.length d2, .slice D3 n.length d3, .slice D4 fl.length d4] 34)
    have bX3 := Blk.new_ w3 34 #[.slice D1 rows.length d1, .slice D2 f.length d2, .slice D3 n.length d3, .slice D4 fl.length d4]
    have oW3 := (oW2.below hb3).alloc (.cells #[.slice D1 rows.length d1, .slice D2 f.length d2, .slice D3 n.length d3, .slice D4 fl.length d4] 34)
    have oX3 := (oX.mono B2.size).alloc (.cells #[.slice D1 rows.length d1, .slice D2 f.length d2, .slice D3 n.length d3, .slice D4 fl.length d4] 34)
    obtain ⟨gW, hgW⟩ : ∃ g, g = w2.heap.size := ⟨_, rfl⟩
    rw [← hgW] at bW3 ⊢
    clear z_0 z_1 z_2 z_3 bA2 oX oW2 hb3 B2 bW2 hgW
    go_wp2_with fail
    refine (CI _ _ _ _ _ oX3.ra oX3.rb oX3.rc oX3.rd).mono ?_
    rintro e w4 ⟨G1, g1, G2, g2, G3, g3, G4, g4, rfl, oG, hb4⟩
    have apXG := fun k hk => oX3.early oG (Nat.le_refl _) (k := k) hk
    have apWG := fun k hk => oW3.early oG (Nat.le_refl _) (k := k) hk
    have B4 := (B3.tr hb4).al (.cells #[.slice G1 y.1.length g1, .slice G2 y.2.1.length g2, .slice G3 y.2.2.1.length g3, .slice G4 y.2.2.2.length g4] 34)
    have bA4 := (bA3.bl hb4).alloc (.cells #[.slice G1 y.1.length g1, .slice G2 y.2.1.length g2, .slice G3 y.2.2.1.length g3, .slice G4 y.2.2.2.length g4] 34)
    have bW4 := (bW3.bl hb4).alloc (.cells #[.slice G1 y.1.length g1, .slice G2 y.2.1.length g2, .slice G3 y.2.2.1.length g3, .slice G4 y.2.2.2.length g4] 34)
    have bX4 := (bX3.bl hb4).alloc (.cells #[.slice G1 y.1.length g1, .slice G2 y.2.1.length g2, .slice G3 y.2.2.1.length g3, .slice G4 y.2.2.2.length g4] 34)
    have bG4 := Blk.new_ w4 34 #[.slice G1 y.1.length g1, .slice G2 y.2.1.length g2, .slice G3 y.2.2.1.length g3, .slice G4 y.2.2.2.length g4]
    have oW4 := (oW3.below hb4).alloc (.cells #[.slice G1 y.1.length g1, .slice G2 y.2.1.length g2, .slice G3 y.2.2.1.length g3, .slice G4 y.2.2.2.length g4] 34)
    have oX4 := (oX3.below hb4).alloc (.cells #[.slice G1 y.1.length g1, .slice G2 y.2.1.length g2, .slice G3 y.2.2.1.length g3, .slice G4 y.2.2.2.length g4] 34)
    have oG4 := (oG.mono B3.size).alloc (.cells #[.slice G1 y.1.length g1, .slice G2 y.2.1.length g2, .slice G3 y.2.2.1.length g3, .slice G4 y.2.2.2.length g4] 34)
    obtain ⟨gX, hgX⟩ : ∃ g, g = w3.heap.size := ⟨_, rfl⟩
    rw [← hgX] at bX4 ⊢
    clear bA3 bW3 bX3 oW3 oX3 oG hb4 B3 hgX
    have u_0 := bG4.cell 0
    have u_1 := bG4.cell 1
    have u_2 := bG4.cell 2
    have u_3 := bG4.cell 3
    simp only [List.getElem?_toArray, List.getElem?_cons_zero, List.getElem?_cons_succ] at u_0 u_1 u_2 u_3
    have v_0 := bW4.cell 0
    have v_1 := bW4.cell 1
    have v_2 := bW4.cell 2
    have v_3 := bW4.cell 3
    simp only [List.getElem?_toArray, List.getElem?_cons_zero, List.getElem?_cons_succ] at v_0 v_1 v_2 v_3
    go_wp2_with fail
    refine (eqFloor_same _ _ _ _ _ _ _ _ y _ oG4.ra oG4.rb oG4.rc oG4.rd oW4.ra oW4.rb oW4.rc oW4.rd).mono ?_
    rintro e w5 ⟨rfl, hb5⟩
    have B5 := B4.tr hb5
    have bA5 := bA4.bl hb5
    have bW5 := bW4.bl hb5
    have bX5 := bX4.bl hb5
    have bG5 := bG4.bl hb5
    obtain ⟨gG, hgG⟩ : ∃ g, g = w4.heap.size := ⟨_, rfl⟩
    rw [← hgG] at bG5 ⊢
    clear hgG
    have oW5 := oW4.below hb5
    have oX5 := oX4.below hb5
    have oG5 := oG4.below hb5
    clear u_0 u_1 u_2 u_3 v_0 v_1 v_2 v_3 bA4 bW4 bX4 bG4 oW4 oX4 oG4 hb5 B4
    have z_0 := bA5.cell 0
    have z_1 := bA5.cell 1
    have z_2 := bA5.cell 2
    have z_3 := bA5.cell 3
    simp only [List.getElem?_toArray, List.getElem?_cons_zero, List.getElem?_cons_succ] at z_0 z_1 z_2 z_3
    have x_0 := bX5.cell 0
    have x_1 := bX5.cell 1
    have x_2 := bX5.cell 2
    have x_3 := bX5.cell 3
    simp only [List.getElem?_toArray, List.getElem?_cons_zero, List.getElem?_cons_succ] at x_0 x_1 x_2 x_3
    have hp0 := bA5.lt
    have hp1 := bX5.lt
    have Bw : Below w5.heap.size w5 w5.drew := (Below.refl _ _).drew
    have hz : w5.heap.size ≤ w5.drew.heap.size := by simp
    go_wp2_with fail
    refine wp_region_held_drew (S := (fun w' => w'.cell? ⟨gX, 0, none⟩ = some (.slice D1 rows.length d1) ∧ w'.cell? ⟨gX, 1, none⟩ = some (.slice D2 f.length d2) ∧ w'.cell? ⟨gX, 2, none⟩ = some (.slice D3 n.length d3) ∧ w'.cell? ⟨gX, 3, none⟩ = some (.slice D4 fl.length d4) ∧ w'.cell? ⟨w.heap.size, 0, none⟩ = some (.slice P1 rows.length q1) ∧ w'.cell? ⟨w.heap.size, 1, none⟩ = some (.slice P2 f.length q2) ∧ w'.cell? ⟨w.heap.size, 2, none⟩ = some (.slice P3 n.length q3) ∧ w'.cell? ⟨w.heap.size, 3, none⟩ = some (.slice P4 fl.length q4))) (by kernel_rfl) ?_ (fun hHeld => ?_)
    · (try dsimp only); (try go_keep)
    refine wpAnyH_take (i := 0) (oi := op_FlLaw_lawsFnExactUndoAll_10_0) (v := ?_) rfl (by kernel_rfl) (by kernel_rfl) (by kernel_rfl) (fun _ _ _ h => h) (Or.inl ⟨by rfl, ?_⟩) (by assumption) ?_
    rotate_left 1
    · (intro wS hSw; (try dsimp only at hSw); dsimp only [op_FlLaw_lawsFnExactUndoAll_10_0]; go_simp; (all_goals with_reducible rfl))
    simp only [op_FlLaw_lawsFnExactUndoAll_10_0, Act.put, List.setIfInBounds_toArray, List.set_cons_zero, List.set_cons_succ]
    refine wpAnyH_take (i := 1) (oi := op_FlLaw_lawsFnExactUndoAll_10_1) (v := ?_) rfl (by kernel_rfl) (by kernel_rfl) (by kernel_rfl) (fun _ _ _ h => h) (Or.inl ⟨by rfl, ?_⟩) (by assumption) ?_
    rotate_left 1
    · (intro wS hSw; (try dsimp only at hSw); dsimp only [op_FlLaw_lawsFnExactUndoAll_10_1]; go_simp; (all_goals with_reducible rfl))
    simp only [op_FlLaw_lawsFnExactUndoAll_10_1, Act.put, List.setIfInBounds_toArray, List.set_cons_zero, List.set_cons_succ]
    refine wpAnyH_ready (rs := [2]) (by kernel_rfl) (by simp) ?_
    refine AllReadyH.cons (o := op_FlLaw_lawsFnExactUndoAll_10_2) rfl (fun K hK => ?_) AllReadyH.nil
    dsimp only [op_FlLaw_lawsFnExactUndoAll_10_2]
    go_simp
    (first | (go_at_call 17; go_must (refine (toFloor_any _ _ _ _ (rows, f, n, fl) _ (h1.below RE.stays (B5.tr Bw)) (h2.below RE.stays (B5.tr Bw)) (h3.below RE.stays (B5.tr Bw)) (h4.below RE.stays (B5.tr Bw)) HS.out).mono ?_; rintro e wX ⟨E1, e1, E2, e2, E3, e3, E4, e4, rfl, oR, hbX⟩; obtain ⟨hcX, hfX, hzX⟩ := bkn hbX w5.heap.size hz; have hz := hzX; have Bw := Bw.tr hbX); (try go_wp2_with fail)) | (go_at_call 19; go_must (refine (eqFloor_same _ _ _ _ _ _ _ _ (rows, f, n, fl) _ (oX5.below Bw).ra (oX5.below Bw).rb (oX5.below Bw).rc (oX5.below Bw).rd oR.ra oR.rb oR.rc oR.rd).mono ?_; rintro e wX ⟨rfl, hbX⟩; obtain ⟨hcX, hfX, hzX⟩ := bkn hbX w5.heap.size hz; have hz := hzX; have Bw := Bw.tr hbX); (try go_wp2_with fail)))
    refine hK.out _ _ ?_ (fun hHeld => ?_)
    · (try dsimp only); (try go_keep)
    clear hK K
    (try simp only [Act.put, List.setIfInBounds_toArray, List.set_cons_zero, List.set_cons_succ])
    refine wpAnyH_ready (rs := [3]) (by kernel_rfl) (by simp) ?_
    refine AllReadyH.cons (o := op_FlLaw_lawsFnExactUndoAll_10_3) rfl (fun K hK => ?_) AllReadyH.nil
    dsimp only [op_FlLaw_lawsFnExactUndoAll_10_3]
    go_simp
    (first | (go_at_call 17; go_must (refine (toFloor_any _ _ _ _ (rows, f, n, fl) _ (h1.below RE.stays (B5.tr Bw)) (h2.below RE.stays (B5.tr Bw)) (h3.below RE.stays (B5.tr Bw)) (h4.below RE.stays (B5.tr Bw)) HS.out).mono ?_; rintro e wX ⟨E1, e1, E2, e2, E3, e3, E4, e4, rfl, oR, hbX⟩; obtain ⟨hcX, hfX, hzX⟩ := bkn hbX w5.heap.size hz; have hz := hzX; have Bw := Bw.tr hbX); (try go_wp2_with fail)) | (go_at_call 19; go_must (refine (eqFloor_same _ _ _ _ _ _ _ _ (rows, f, n, fl) _ (oX5.below Bw).ra (oX5.below Bw).rb (oX5.below Bw).rc (oX5.below Bw).rd oR.ra oR.rb oR.rc oR.rd).mono ?_; rintro e wX ⟨rfl, hbX⟩; obtain ⟨hcX, hfX, hzX⟩ := bkn hbX w5.heap.size hz; have hz := hzX; have Bw := Bw.tr hbX); (try go_wp2_with fail)))
    refine hK.out _ _ ?_ (fun hHeld => ?_)
    · (try dsimp only); (try go_keep)
    clear hK K
    (try simp only [Act.put, List.setIfInBounds_toArray, List.set_cons_zero, List.set_cons_succ])
    refine wpAnyH_take (i := 4) (oi := op_FlLaw_lawsFnExactUndoAll_10_4) (v := ?_) rfl (by kernel_rfl) (by kernel_rfl) (by kernel_rfl) (fun _ _ _ h => h) (Or.inl ⟨by rfl, ?_⟩) (by assumption) ?_
    rotate_left 1
    · (intro wS hSw; (try dsimp only at hSw); dsimp only [op_FlLaw_lawsFnExactUndoAll_10_4]; go_simp; (all_goals with_reducible rfl))
    simp only [op_FlLaw_lawsFnExactUndoAll_10_4, Act.put, List.setIfInBounds_toArray, List.set_cons_zero, List.set_cons_succ]
    refine wpAnyH_done (by kernel_rfl) ?_ _
    have B6 := B5.tr Bw
    have bA6 := bA5.bl Bw
    have bW6 := bW5.bl Bw
    have bX6 := bX5.bl Bw
    have bG6 := bG5.bl Bw
    have oW6 := oW5.below Bw
    have oX6 := oX5.below Bw
    have oG6 := oG5.below Bw
    clear z_0 z_1 z_2 z_3 x_0 x_1 x_2 x_3 bA5 bW5 bX5 bG5 oW5 oX5 oG5 B5
    have x_0 := bX6.cell 0
    have x_1 := bX6.cell 1
    have x_2 := bX6.cell 2
    have x_3 := bX6.cell 3
    simp only [List.getElem?_toArray, List.getElem?_cons_zero, List.getElem?_cons_succ] at x_0 x_1 x_2 x_3
    go_wp2_with fail
    refine (markFloor_any _ _ _ _ (rows, f, n, fl) _ _ oX6 HS.out).mono ?_
    rintro e w7 ⟨rfl, oX7, G7⟩
    have B7 := Below.grownS B6 G7 B6.size (fun k hk => (oX6.lt hk).1)
    have bA7 := bA6.grownS G7 (oX6.apart bA6 (by decide) (by decide) (by decide))
    have bW7 := bW6.grownS G7 (oX6.apart bW6 (by decide) (by decide) (by decide))
    have bG7 := bG6.grownS G7 (oX6.apart bG6 (by decide) (by decide) (by decide))
    have oW7 := oW6.grownS G7 (fun k hk => apWX k hk)
    have oG7 := oG6.grownS G7 (fun k hk hx => apXG k hx hk)
    clear x_0 x_1 x_2 x_3 bA6 bW6 bX6 bG6 oW6 oX6 oG6 B6 oX7 G7
    have hm1 := mkEnd_pos (rows, f, n, fl)
    have hm2 := mkEnd_pos y
    have u_0 := bG7.cell 0
    have u_1 := bG7.cell 1
    have u_2 := bG7.cell 2
    have u_3 := bG7.cell 3
    simp only [List.getElem?_toArray, List.getElem?_cons_zero, List.getElem?_cons_succ] at u_0 u_1 u_2 u_3
    have v_0 := bW7.cell 0
    have v_1 := bW7.cell 1
    have v_2 := bW7.cell 2
    have v_3 := bW7.cell 3
    simp only [List.getElem?_toArray, List.getElem?_cons_zero, List.getElem?_cons_succ] at v_0 v_1 v_2 v_3
    go_wp2_with fail
    refine (eqFloor_same _ _ _ _ _ _ _ _ y _ oG7.ra oG7.rb oG7.rc oG7.rd oW7.ra oW7.rb oW7.rc oW7.rd).mono ?_
    rintro e w8 ⟨rfl, hb8⟩
    have B8 := B7.tr hb8
    have bA8 := bA7.bl hb8
    have bW8 := bW7.bl hb8
    have bG8 := bG7.bl hb8
    have oW8 := oW7.below hb8
    have oG8 := oG7.below hb8
    clear u_0 u_1 u_2 u_3 v_0 v_1 v_2 v_3 bA7 bW7 bG7 oW7 oG7 hb8 B7
    have u_0 := bG8.cell 0
    have u_1 := bG8.cell 1
    have u_2 := bG8.cell 2
    have u_3 := bG8.cell 3
    simp only [List.getElem?_toArray, List.getElem?_cons_zero, List.getElem?_cons_succ] at u_0 u_1 u_2 u_3
    go_wp2_with fail
    refine (markFloor_any _ _ _ _ y _ _ oG8 HY4.out).mono ?_
    rintro e w9 ⟨rfl, oG9, G9⟩
    have B9 := Below.grownS B8 G9 B8.size (fun k hk => (oG8.lt hk).1)
    have bA9 := bA8.grownS G9 (oG8.apart bA8 (by decide) (by decide) (by decide))
    have bW9 := bW8.grownS G9 (oG8.apart bW8 (by decide) (by decide) (by decide))
    have bG9 := bG8.grownS G9 (oG8.apart bG8 (by decide) (by decide) (by decide))
    have oW9 := oW8.grownS G9 (fun k hk => apWG k hk)
    clear u_0 u_1 u_2 u_3 bA8 bW8 bG8 oW8 oG8 B8 G9
    have u_0 := bG9.cell 0
    have u_1 := bG9.cell 1
    have u_2 := bG9.cell 2
    have u_3 := bG9.cell 3
    simp only [List.getElem?_toArray, List.getElem?_cons_zero, List.getElem?_cons_succ] at u_0 u_1 u_2 u_3
    go_wp2_with fail
    refine (heldFloor_any _ _ _ _ y _ _ oG9 HY4.out).mono ?_
    rintro e w10 ⟨rfl, hb10⟩
    have B10 := B9.tr hb10
    have bA10 := bA9.bl hb10
    have bW10 := bW9.bl hb10
    have bG10 := bG9.bl hb10
    have oW10 := oW9.below hb10
    have oG10 := oG9.below hb10
    clear u_0 u_1 u_2 u_3 bA9 bW9 bG9 oW9 oG9 hb10 B9
    have z_0 := bA10.cell 0
    have z_1 := bA10.cell 1
    have z_2 := bA10.cell 2
    have z_3 := bA10.cell 3
    simp only [List.getElem?_toArray, List.getElem?_cons_zero, List.getElem?_cons_succ] at z_0 z_1 z_2 z_3
    go_wp2_with fail
    refine (toFloor_any _ _ _ _ (rows, f, n, fl) _ (h1.below RE.stays B10) (h2.below RE.stays B10) (h3.below RE.stays B10) (h4.below RE.stays B10) HS.out).mono ?_
    rintro e w11 ⟨F1, e1, F2, e2, F3, e3, F4, e4, rfl, oY, hb11⟩
    go_wp2_with fail
    refine (CI _ _ _ _ _ oY.ra oY.rb oY.rc oY.rd).mono ?_
    rintro e w12 ⟨H1, h1, H2, h2, H3, h3, H4, h4, rfl, oH, hb12⟩
    have B12 := ((B10.tr hb11).tr hb12).al (.cells #[.slice H1 y.1.length h1, .slice H2 y.2.1.length h2, .slice H3 y.2.2.1.length h3, .slice H4 y.2.2.2.length h4] 34)
    have bW12 := ((bW10.bl hb11).bl hb12).alloc (.cells #[.slice H1 y.1.length h1, .slice H2 y.2.1.length h2, .slice H3 y.2.2.1.length h3, .slice H4 y.2.2.2.length h4] 34)
    have bG12 := ((bG10.bl hb11).bl hb12).alloc (.cells #[.slice H1 y.1.length h1, .slice H2 y.2.1.length h2, .slice H3 y.2.2.1.length h3, .slice H4 y.2.2.2.length h4] 34)
    have bH12 := Blk.new_ w12 34 #[.slice H1 y.1.length h1, .slice H2 y.2.1.length h2, .slice H3 y.2.2.1.length h3, .slice H4 y.2.2.2.length h4]
    have oW12 := ((oW10.below hb11).below hb12).alloc (.cells #[.slice H1 y.1.length h1, .slice H2 y.2.1.length h2, .slice H3 y.2.2.1.length h3, .slice H4 y.2.2.2.length h4] 34)
    have oG12 := ((oG10.below hb11).below hb12).alloc (.cells #[.slice H1 y.1.length h1, .slice H2 y.2.1.length h2, .slice H3 y.2.2.1.length h3, .slice H4 y.2.2.2.length h4] 34)
    have oH12 := oH.alloc (.cells #[.slice H1 y.1.length h1, .slice H2 y.2.1.length h2, .slice H3 y.2.2.1.length h3, .slice H4 y.2.2.2.length h4] 34)
    clear z_0 z_1 z_2 z_3 bA10 bW10 bG10 oW10 oG10 oY oH B10 hb11 hb12
    have u_0 := bH12.cell 0
    have u_1 := bH12.cell 1
    have u_2 := bH12.cell 2
    have u_3 := bH12.cell 3
    simp only [List.getElem?_toArray, List.getElem?_cons_zero, List.getElem?_cons_succ] at u_0 u_1 u_2 u_3
    have v_0 := bW12.cell 0
    have v_1 := bW12.cell 1
    have v_2 := bW12.cell 2
    have v_3 := bW12.cell 3
    simp only [List.getElem?_toArray, List.getElem?_cons_zero, List.getElem?_cons_succ] at v_0 v_1 v_2 v_3
    go_wp2_with fail
    refine (eqFloor_same _ _ _ _ _ _ _ _ y _ oH12.ra oH12.rb oH12.rc oH12.rd oW12.ra oW12.rb oW12.rc oW12.rd).mono ?_
    rintro e w13 ⟨rfl, hb13⟩
    have B13 := B12.tr hb13
    have bG13 := bG12.bl hb13
    have oG13 := oG12.below hb13
    clear u_0 u_1 u_2 u_3 v_0 v_1 v_2 v_3 bW12 bG12 bH12 oW12 oG12 oH12 hb13 B12
    have u_0 := bG13.cell 0
    have u_1 := bG13.cell 1
    have u_2 := bG13.cell 2
    have u_3 := bG13.cell 3
    simp only [List.getElem?_toArray, List.getElem?_cons_zero, List.getElem?_cons_succ] at u_0 u_1 u_2 u_3
    go_wp2_with fail
    refine (heldFloor_any _ _ _ _ y _ _ oG13 HY4.out).mono ?_
    rintro e w14 ⟨rfl, hb14⟩
    go_wp2
    go_ret
    exact ⟨rfl, B13.tr hb14⟩
  · skip
    have HZ := Lib.hid hsz; clear hsz
    go_enter Try.func5, Try.ntmps5
    go_wp2_with fail
    refine (szFloor_no _ _ _ _ (rows, f, n, fl) 1048576 _ (h1.below RE.stays hA) (h2.below RE.stays hA) (h3.below RE.stays hA) (h4.below RE.stays hA) (by decide) (by decide) (by have := HZ.out; omega)).mono ?_
    rintro e w0 ⟨rfl, hb0⟩
    go_wp2
    go_ret
    exact ⟨rfl, hA.tr hb0⟩
end Go.Proofs.Ytnlljkdfapllpaa
