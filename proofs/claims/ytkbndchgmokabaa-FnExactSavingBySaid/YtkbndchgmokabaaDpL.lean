/- CheapestPrice of the reference, and the law FnExactCheapestPrice. No conditions. -/
import Derived.Test.YtkbndchgmokabaaDpS
import Derived.Test.YtkbndchgmokabaaRegConv
import Derived.Test.YtkbndchgmokabaaWithCell
namespace Go.Proofs.Ytkbndchgmokabaa
open Go.ChangeShapes Go.WideShapes Go.ChangeAt Go.RowKit
set_option linter.unusedVariables false
set_option linter.unusedSimpArgs false

set_option maxHeartbeats 1000000 in
set_option maxRecDepth 100000 in
theorem cheapestS_any (p : Pr) (v : Value) (rows : List Int) (w : World) (h : Rd 1 RInt w v rows) : Calls Try.prog 16 #[aPr p, .agg #[v]] w (Ret (.int .i64 (cheapestPrice p rows)) w) := by
  rcases hp : pricesOk p with _ | _
  · obtain ⟨A, c, rfl, hc, hm⟩ := h.form
    obtain ⟨pa, pb, pc, pd⟩ := p
    have e : cheapestPrice (pa, pb, pc, pd) rows = -1 := by unfold cheapestPrice; rw [hp]; rfl
    rw [e]
    have hA := ((Below.refl w.heap.size w).al (.cells #[.int .i64 pa, .int .i64 pb, .int .i64 pc, .int .i64 pd] 29)).al (.cells #[.slice A rows.length c] 31)
    go_enter Try.func16, Try.ntmps16
    go_wp2_with fail
    refine (pricesOkS_any pa pb pc pd _).mono ?_
    rintro e w1 ⟨rfl, hb1⟩
    rw [hp]
    go_wp2
    go_ret
    exact ⟨rfl, hA.tr hb1⟩
  · rcases hr : regionOk rows with _ | _
    · obtain ⟨A, c, rfl, hc, hm⟩ := h.form
      obtain ⟨pa, pb, pc, pd⟩ := p
      have e : cheapestPrice (pa, pb, pc, pd) rows = -1 := by unfold cheapestPrice; rw [hp, hr]; rfl
      rw [e]
      have hA := ((Below.refl w.heap.size w).al (.cells #[.int .i64 pa, .int .i64 pb, .int .i64 pc, .int .i64 pd] 29)).al (.cells #[.slice A rows.length c] 31)
      have hx := Blk.new2 (w.alloc (.cells #[.int .i64 pa, .int .i64 pb, .int .i64 pc, .int .i64 pd] 29)) 31 #[.slice A rows.length c] (w.heap.size + 1) (by simp)
      have h' := h.below RE.stays hA
      go_enter Try.func16, Try.ntmps16
      go_wp2_with fail
      refine (pricesOkS_any pa pb pc pd _).mono ?_
      rintro e w1 ⟨rfl, hb1⟩
      rw [hp]
      have z1 := (hx.bl hb1).c1
      go_wp2_with fail
      refine (regionOkS_any _ rows _ (h'.below RE.stays hb1)).mono ?_
      rintro e w2 ⟨rfl, hb2⟩
      rw [hr]
      go_wp2
      go_ret
      exact ⟨rfl, (hA.tr hb1).tr hb2⟩
    · have e : cheapestPrice p rows = (cheapDp p (setOf rows) 64).getD 0 0 := by unfold cheapestPrice; rw [hp, hr]; rfl
      rw [e]
      exact cheapestS_yes p v rows w h hp (Lib.hid (regionOk_iff.1 hr))

set_option maxHeartbeats 4000000 in
set_option maxRecDepth 100000 in
theorem FnExactCheapestPrice_walk (w : World) (cs : List Value) (p : Pr) (hp : RQuad w cs p) (okp : I64 p.1 ∧ I64 p.2.1 ∧ I64 p.2.2.1 ∧ I64 p.2.2.2) (cs2 : List Value) (rows : List Int) (h : RSl 1 RInt w cs2 rows) (okr : AllOk I64 rows) :
    Calls Try.prog 3 #[.agg cs.toArray, .agg cs2.toArray] w (Ret (.bool true) w) := by
  change cs = _ at hp
  subst hp
  obtain ⟨pa, pb, pc, pd⟩ := p
  obtain ⟨vr, rfl, hr⟩ := h
  obtain ⟨A, c, rfl, hc, hm⟩ := hr.form
  have hA := ((Below.refl w.heap.size w).al (.cells #[.int .i64 pa, .int .i64 pb, .int .i64 pc, .int .i64 pd] 23)).al (.cells #[.slice A rows.length c] 26)
  by_cases hsz : rows.length ≤ 1048576
  · have hl1 : Small rows.length := hsz
    obtain ⟨R, hR⟩ : ∃ R, R = cheapestPrice (pa, pb, pc, pd) rows := ⟨_, rfl⟩
    have CS : ∀ (v : Value) (w : World), Rd 1 RInt w v rows → Calls Try.prog 16 #[aPr (pa, pb, pc, pd), .agg #[v]] w (Ret (.int .i64 R) w) := fun v w h => by rw [hR]; exact cheapestS_any _ v rows w h
    have CI : ∀ (v : Value) (w : World), Rd 1 RInt w v rows → Calls Try.prog 19 #[aPr (pa, pb, pc, pd), .agg #[v]] w (Ret (.int .i64 R) w) := fun v w h => by rw [hR]; exact cheapestI_any _ v rows w h
    clear hR
    have hP := (Blk.new_ w 23 #[.int .i64 pa, .int .i64 pb, .int .i64 pc, .int .i64 pd]).alloc (.cells #[.slice A rows.length c] 26)
    have hS := Blk.new2 (w.alloc (.cells #[.int .i64 pa, .int .i64 pb, .int .i64 pc, .int .i64 pd] 23)) 26 #[.slice A rows.length c] (w.heap.size + 1) (by simp)
    go_enter Try.func3, Try.ntmps3
    go_wp2_with fail
    refine (szRegion_any _ rows _ _ (hr.below RE.stays hA) (by decide) (by decide)).mono ?_
    rintro e w0 ⟨rfl, hb0⟩
    rw [szOf_ok (by omega)]
    have B0 := hA.tr hb0
    have bP0 := hP.bl hb0
    have bS0 := hS.bl hb0
    clear hP hS hA hb0
    have z0 := bP0.cell 0
    have z1 := bP0.cell 1
    have z2 := bP0.cell 2
    have z3 := bP0.cell 3
    have z4 := bS0.c1
    simp only [List.getElem?_toArray, List.getElem?_cons_zero, List.getElem?_cons_succ] at z0 z1 z2 z3
    have hp0 := bP0.lt
    have hp1 := bS0.lt
    go_wp2_with fail
    go_cut [6] (fun s6 wx => s6 = .int .i64 R ∧ Blk wx w.heap.size 23 #[.int .i64 pa, .int .i64 pb, .int .i64 pc, .int .i64 pd] ∧ Blk wx (w.heap.size + 1) 26 #[.slice A rows.length c] ∧ Below w.heap.size w wx)
    case first =>
      have Bw : Below w0.heap.size w0 w0.drew := (Below.refl _ _).drew
      have hz : w0.heap.size ≤ w0.drew.heap.size := by simp
      refine wp_region_held_drew (S := (fun w' => w'.cell? ⟨w.heap.size, 0, none⟩ = some (.int .i64 pa) ∧ w'.cell? ⟨w.heap.size, 1, none⟩ = some (.int .i64 pb) ∧ w'.cell? ⟨w.heap.size, 2, none⟩ = some (.int .i64 pc) ∧ w'.cell? ⟨w.heap.size, 3, none⟩ = some (.int .i64 pd) ∧ w'.cell? ⟨w.heap.size + 1, 0, none⟩ = some (.slice A rows.length c))) (by kernel_rfl) ?_ (fun hHeld => ?_)
      · (try dsimp only); go_keep
      refine wpAnyH_take (i := 0) (oi := { dst := some 14, op := Go.Op.load 23 (Go.Operand.tmp 2), type := 23, pos := "exact.go:6062", after := #[], guard := none }) (v := ?_) rfl (by kernel_rfl) (by kernel_rfl) (by kernel_rfl) (fun _ _ _ h => h) (Or.inl ⟨by rfl, ?_⟩) (by assumption) ?_
      rotate_left 1
      · (intro wS hSw; (try dsimp only at hSw); go_simp; (all_goals with_reducible rfl))
      simp only [Act.put, List.setIfInBounds_toArray, List.set_cons_zero, List.set_cons_succ]
      refine wpAnyH_take (i := 2) (oi := { dst := some 16, op := Go.Op.load 26 (Go.Operand.tmp 3), type := 26, pos := "exact.go:6062", after := #[], guard := none }) (v := ?_) rfl (by kernel_rfl) (by kernel_rfl) (by kernel_rfl) (fun _ _ _ h => h) (Or.inl ⟨by rfl, ?_⟩) (by assumption) ?_
      rotate_left 1
      · (intro wS hSw; (try dsimp only at hSw); go_simp; (all_goals with_reducible rfl))
      simp only [Act.put, List.setIfInBounds_toArray, List.set_cons_zero, List.set_cons_succ]
      refine wpAnyH_ready (rs := [1]) (by kernel_rfl) (by simp) ?_
      refine AllReadyH.cons (o := { dst := some 15, op := Go.Op.call { callee := Go.Callee.value (Go.Operand.func 17), args := #[Go.Operand.tmp 14], argTypes := #[23] }, type := 29, pos := "exact.go:6062", after := #[{ on := 0, ground := Go.Ground.data }], guard := none }) rfl (fun K hK => ?_) AllReadyH.nil
      go_simp
      (first | (go_at_call 17; go_must (refine (toPrices_any (pa, pb, pc, pd) _).mono ?_; rintro e wX ⟨rfl, hbX⟩; have hbP := hbX; obtain ⟨hcX, hfX, hzX⟩ := bkn hbX w0.heap.size hz; have hz := hzX; have Bw := Bw.tr hbX); (try go_wp2_with fail)) | (go_at_call 18; go_must (refine (toRegion_any _ rows _ (hr.below RE.stays (B0.tr Bw)) hl1).mono ?_; rintro e wX ⟨A1, c1, rfl, own1, hbX⟩; obtain ⟨hcX, hfX, hzX⟩ := bkn hbX w0.heap.size hz; have hz := hzX; have Bw := Bw.tr hbX); (try go_wp2_with fail)) | (go_at_call 16; go_must (refine (CS _ _ (by first | exact own1.rd lenInt (by decide) | exact (own1.below hbP).rd lenInt (by decide))).mono ?_; rintro e wX ⟨rfl, hbX⟩; obtain ⟨hcX, hfX, hzX⟩ := bkn hbX w0.heap.size hz; have hz := hzX; have Bw := Bw.tr hbX); (try go_wp2_with fail)))
      refine hK.out _ _ ?_ (fun hHeld => ?_)
      · (try dsimp only); go_keep
      clear hK K
      (try simp only [Act.put, List.setIfInBounds_toArray, List.set_cons_zero, List.set_cons_succ])
      refine wpAnyH_ready (rs := [3]) (by kernel_rfl) (by simp) ?_
      refine AllReadyH.cons (o := { dst := some 17, op := Go.Op.call { callee := Go.Callee.value (Go.Operand.func 18), args := #[Go.Operand.tmp 16], argTypes := #[26] }, type := 31, pos := "exact.go:6062", after := #[{ on := 2, ground := Go.Ground.data }, { on := 1, ground := Go.Ground.chain }], guard := none }) rfl (fun K hK => ?_) AllReadyH.nil
      go_simp
      (first | (go_at_call 17; go_must (refine (toPrices_any (pa, pb, pc, pd) _).mono ?_; rintro e wX ⟨rfl, hbX⟩; have hbP := hbX; obtain ⟨hcX, hfX, hzX⟩ := bkn hbX w0.heap.size hz; have hz := hzX; have Bw := Bw.tr hbX); (try go_wp2_with fail)) | (go_at_call 18; go_must (refine (toRegion_any _ rows _ (hr.below RE.stays (B0.tr Bw)) hl1).mono ?_; rintro e wX ⟨A1, c1, rfl, own1, hbX⟩; obtain ⟨hcX, hfX, hzX⟩ := bkn hbX w0.heap.size hz; have hz := hzX; have Bw := Bw.tr hbX); (try go_wp2_with fail)) | (go_at_call 16; go_must (refine (CS _ _ (by first | exact own1.rd lenInt (by decide) | exact (own1.below hbP).rd lenInt (by decide))).mono ?_; rintro e wX ⟨rfl, hbX⟩; obtain ⟨hcX, hfX, hzX⟩ := bkn hbX w0.heap.size hz; have hz := hzX; have Bw := Bw.tr hbX); (try go_wp2_with fail)))
      refine hK.out _ _ ?_ (fun hHeld => ?_)
      · (try dsimp only); go_keep
      clear hK K
      (try simp only [Act.put, List.setIfInBounds_toArray, List.set_cons_zero, List.set_cons_succ])
      refine wpAnyH_ready (rs := [4]) (by kernel_rfl) (by simp) ?_
      refine AllReadyH.cons (o := { dst := some 18, op := Go.Op.call { callee := Go.Callee.value (Go.Operand.func 16), args := #[Go.Operand.tmp 15, Go.Operand.tmp 17], argTypes := #[29, 31] }, type := 3, pos := "exact.go:6062", after := #[{ on := 1, ground := Go.Ground.data }, { on := 3, ground := Go.Ground.data }, { on := 3, ground := Go.Ground.chain }], guard := none }) rfl (fun K hK => ?_) AllReadyH.nil
      go_simp
      (first | (go_at_call 17; go_must (refine (toPrices_any (pa, pb, pc, pd) _).mono ?_; rintro e wX ⟨rfl, hbX⟩; have hbP := hbX; obtain ⟨hcX, hfX, hzX⟩ := bkn hbX w0.heap.size hz; have hz := hzX; have Bw := Bw.tr hbX); (try go_wp2_with fail)) | (go_at_call 18; go_must (refine (toRegion_any _ rows _ (hr.below RE.stays (B0.tr Bw)) hl1).mono ?_; rintro e wX ⟨A1, c1, rfl, own1, hbX⟩; obtain ⟨hcX, hfX, hzX⟩ := bkn hbX w0.heap.size hz; have hz := hzX; have Bw := Bw.tr hbX); (try go_wp2_with fail)) | (go_at_call 16; go_must (refine (CS _ _ (by first | exact own1.rd lenInt (by decide) | exact (own1.below hbP).rd lenInt (by decide))).mono ?_; rintro e wX ⟨rfl, hbX⟩; obtain ⟨hcX, hfX, hzX⟩ := bkn hbX w0.heap.size hz; have hz := hzX; have Bw := Bw.tr hbX); (try go_wp2_with fail)))
      refine hK.out _ _ ?_ (fun hHeld => ?_)
      · (try dsimp only); go_keep
      clear hK K
      (try simp only [Act.put, List.setIfInBounds_toArray, List.set_cons_zero, List.set_cons_succ])
      refine wpAnyH_take (i := 5) (oi := { dst := some 6, op := Go.Op.assign (Go.Operand.tmp 18), type := 3, pos := "exact.go:6062", after := #[{ on := 4, ground := Go.Ground.data }, { on := 4, ground := Go.Ground.chain }, { on := 0, ground := Go.Ground.phase }, { on := 1, ground := Go.Ground.phase }, { on := 2, ground := Go.Ground.phase }, { on := 3, ground := Go.Ground.phase }, { on := 4, ground := Go.Ground.phase }], guard := none }) (v := ?_) rfl (by kernel_rfl) (by kernel_rfl) (by kernel_rfl) (fun _ _ _ h => h) (Or.inl ⟨by rfl, ?_⟩) (by assumption) ?_
      rotate_left 1
      · (intro wS hSw; (try dsimp only at hSw); go_simp; (all_goals with_reducible rfl))
      simp only [Act.put, List.setIfInBounds_toArray, List.set_cons_zero, List.set_cons_succ]
      refine wpAnyH_done (by kernel_rfl) ?_ _
      all_goals
        go_wp2_with fail
        go_meet
        exact ⟨rfl, bP0.bl Bw, bS0.bl Bw, B0.tr Bw⟩
    case rest =>
      obtain ⟨rfl, bP1, bS1, B1⟩ := hcut
      clear bP0 bS0 B0 z0 z1 z2 z3 z4 hp0 hp1
      have z4 := bS1.c1
      go_wp2_with fail
      refine (toRegion_any _ rows _ (hr.below RE.stays B1) hl1).mono ?_
      rintro e w4 ⟨A4, c4, rfl, own4, hb4⟩
      have B5 := (B1.tr hb4).al (.cells #[.slice A4 rows.length c4] 31)
      have bP5 := (bP1.bl hb4).alloc (.cells #[.slice A4 rows.length c4] 31)
      have bS5 := (bS1.bl hb4).alloc (.cells #[.slice A4 rows.length c4] 31)
      have bX5 := Blk.new_ w4 31 #[.slice A4 rows.length c4]
      have own5 := own4.alloc (.cells #[.slice A4 rows.length c4] 31)
      clear z4
      go_wp2_with fail
      obtain ⟨W5, hW5⟩ : ∃ W5, W5 = w4.alloc (.cells #[.slice A4 rows.length c4] 31) := ⟨_, rfl⟩
      obtain ⟨bx, hbx⟩ : ∃ bx, bx = w4.heap.size := ⟨_, rfl⟩
      rw [← hW5] at B5 bP5 bS5 bX5 own5 ⊢
      rw [← hbx] at bX5 ⊢
      clear hW5 hbx
      have z0 := bP5.cell 0
      have z1 := bP5.cell 1
      have z2 := bP5.cell 2
      have z3 := bP5.cell 3
      have z4 := bX5.c1
      simp only [List.getElem?_toArray, List.getElem?_cons_zero, List.getElem?_cons_succ] at z0 z1 z2 z3
      have hp0 := bP5.lt
      have hp1 := bX5.lt
      have Bw : Below W5.heap.size W5 W5.drew := (Below.refl _ _).drew
      have hz : W5.heap.size ≤ W5.drew.heap.size := by simp
      refine wp_region_held_drew (S := (fun w' => w'.cell? ⟨w.heap.size, 0, none⟩ = some (.int .i64 pa) ∧ w'.cell? ⟨w.heap.size, 1, none⟩ = some (.int .i64 pb) ∧ w'.cell? ⟨w.heap.size, 2, none⟩ = some (.int .i64 pc) ∧ w'.cell? ⟨w.heap.size, 3, none⟩ = some (.int .i64 pd) ∧ w'.cell? ⟨bx, 0, none⟩ = some (.slice A4 rows.length c4))) (by kernel_rfl) ?_ (fun hHeld => ?_)
      · (try dsimp only); go_keep
      refine wpAnyH_take (i := 0) (oi := { dst := some 21, op := Go.Op.load 23 (Go.Operand.tmp 2), type := 23, pos := "exact.go:6064", after := #[], guard := none }) (v := ?_) rfl (by kernel_rfl) (by kernel_rfl) (by kernel_rfl) (fun _ _ _ h => h) (Or.inl ⟨by rfl, ?_⟩) (by assumption) ?_
      rotate_left 1
      · (intro wS hSw; (try dsimp only at hSw); go_simp; (all_goals with_reducible rfl))
      simp only [Act.put, List.setIfInBounds_toArray, List.set_cons_zero, List.set_cons_succ]
      refine wpAnyH_take (i := 2) (oi := { dst := some 23, op := Go.Op.load 31 (Go.Operand.tmp 7), type := 31, pos := "exact.go:6064", after := #[], guard := none }) (v := ?_) rfl (by kernel_rfl) (by kernel_rfl) (by kernel_rfl) (fun _ _ _ h => h) (Or.inl ⟨by rfl, ?_⟩) (by assumption) ?_
      rotate_left 1
      · (intro wS hSw; (try dsimp only at hSw); go_simp; (all_goals with_reducible rfl))
      simp only [Act.put, List.setIfInBounds_toArray, List.set_cons_zero, List.set_cons_succ]
      refine wpAnyH_ready (rs := [1]) (by kernel_rfl) (by simp) ?_
      refine AllReadyH.cons (o := { dst := some 22, op := Go.Op.call { callee := Go.Callee.value (Go.Operand.func 17), args := #[Go.Operand.tmp 21], argTypes := #[23] }, type := 29, pos := "exact.go:6064", after := #[{ on := 0, ground := Go.Ground.data }], guard := none }) rfl (fun K hK => ?_) AllReadyH.nil
      go_simp
      (first | (go_at_call 17; go_must (refine (toPrices_any (pa, pb, pc, pd) _).mono ?_; rintro e wX ⟨rfl, hbX⟩; obtain ⟨hcX, hfX, hzX⟩ := bkn hbX W5.heap.size hz; have hz := hzX; have Bw := Bw.tr hbX); (try go_wp2_with fail)) | (go_at_call 19; go_must (refine (CI _ _ ((own5.below Bw).rd lenInt (by decide))).mono ?_; rintro e wX ⟨rfl, hbX⟩; obtain ⟨hcX, hfX, hzX⟩ := bkn hbX W5.heap.size hz; have hz := hzX; have Bw := Bw.tr hbX); (try go_wp2_with fail)))
      refine hK.out _ _ ?_ (fun hHeld => ?_)
      · (try dsimp only); go_keep
      clear hK K
      (try simp only [Act.put, List.setIfInBounds_toArray, List.set_cons_zero, List.set_cons_succ])
      refine wpAnyH_ready (rs := [3]) (by kernel_rfl) (by simp) ?_
      refine AllReadyH.cons (o := { dst := some 24, op := Go.Op.call { callee := Go.Callee.value (Go.Operand.func 19), args := #[Go.Operand.tmp 22, Go.Operand.tmp 23], argTypes := #[29, 31] }, type := 3, pos := "exact.go:6064", after := #[{ on := 1, ground := Go.Ground.data }, { on := 2, ground := Go.Ground.data }, { on := 1, ground := Go.Ground.chain }], guard := none }) rfl (fun K hK => ?_) AllReadyH.nil
      go_simp
      (first | (go_at_call 17; go_must (refine (toPrices_any (pa, pb, pc, pd) _).mono ?_; rintro e wX ⟨rfl, hbX⟩; obtain ⟨hcX, hfX, hzX⟩ := bkn hbX W5.heap.size hz; have hz := hzX; have Bw := Bw.tr hbX); (try go_wp2_with fail)) | (go_at_call 19; go_must (refine (CI _ _ ((own5.below Bw).rd lenInt (by decide))).mono ?_; rintro e wX ⟨rfl, hbX⟩; obtain ⟨hcX, hfX, hzX⟩ := bkn hbX W5.heap.size hz; have hz := hzX; have Bw := Bw.tr hbX); (try go_wp2_with fail)))
      refine hK.out _ _ ?_ (fun hHeld => ?_)
      · (try dsimp only); go_keep
      clear hK K
      (try simp only [Act.put, List.setIfInBounds_toArray, List.set_cons_zero, List.set_cons_succ])
      refine wpAnyH_take (i := 4) (oi := { dst := some 8, op := Go.Op.assign (Go.Operand.tmp 24), type := 3, pos := "exact.go:6064", after := #[{ on := 3, ground := Go.Ground.data }, { on := 3, ground := Go.Ground.chain }, { on := 0, ground := Go.Ground.phase }, { on := 1, ground := Go.Ground.phase }, { on := 2, ground := Go.Ground.phase }, { on := 3, ground := Go.Ground.phase }], guard := none }) (v := ?_) rfl (by kernel_rfl) (by kernel_rfl) (by kernel_rfl) (fun _ _ _ h => h) (Or.inl ⟨by rfl, ?_⟩) (by assumption) ?_
      rotate_left 1
      · (intro wS hSw; (try dsimp only at hSw); go_simp; (all_goals with_reducible rfl))
      simp only [Act.put, List.setIfInBounds_toArray, List.set_cons_zero, List.set_cons_succ]
      refine wpAnyH_done (by kernel_rfl) ?_ _
      have B7 := B5.tr Bw
      have bS7 := bS5.bl Bw
      have bX7 := bX5.bl Bw
      have own7 := own5.below Bw
      clear z0 z1 z2 z3 z4 hcX hfX hHeld hp0 hp1 Bw hz
      have zL := bS7.c1
      have zX := bX7.c1
      have hpL := bS7.lt
      have hpX := bX7.lt
      go_wp2_with fail
      obtain ⟨W7, hW7⟩ : ∃ W7, W7 = wX := ⟨_, rfl⟩
      subst hW7
      have Bw : Below W7.heap.size W7 W7.drew := (Below.refl _ _).drew
      have hz : W7.heap.size ≤ W7.drew.heap.size := by simp
      refine wp_region_held_drew (S := (fun w' => w'.cell? ⟨bx, 0, none⟩ = some (.slice A4 rows.length c4) ∧ w'.cell? ⟨w.heap.size + 1, 0, none⟩ = some (.slice A rows.length c))) (by kernel_rfl) ?_ (fun hHeld => ?_)
      · (try dsimp only); go_keep
      refine wpAnyH_take (i := 0) (oi := { dst := some 28, op := Go.Op.load 31 (Go.Operand.tmp 7), type := 31, pos := "exact.go:6068", after := #[], guard := none }) (v := ?_) rfl (by kernel_rfl) (by kernel_rfl) (by kernel_rfl) (fun _ _ _ h => h) (Or.inl ⟨by rfl, ?_⟩) (by assumption) ?_
      rotate_left 1
      · (intro wS hSw; (try dsimp only at hSw); go_simp; (all_goals with_reducible rfl))
      simp only [Act.put, List.setIfInBounds_toArray, List.set_cons_zero, List.set_cons_succ]
      refine wpAnyH_take (i := 1) (oi := { dst := some 29, op := Go.Op.load 26 (Go.Operand.tmp 3), type := 26, pos := "exact.go:6068", after := #[], guard := none }) (v := ?_) rfl (by kernel_rfl) (by kernel_rfl) (by kernel_rfl) (fun _ _ _ h => h) (Or.inl ⟨by rfl, ?_⟩) (by assumption) ?_
      rotate_left 1
      · (intro wS hSw; (try dsimp only at hSw); go_simp; (all_goals with_reducible rfl))
      simp only [Act.put, List.setIfInBounds_toArray, List.set_cons_zero, List.set_cons_succ]
      refine wpAnyH_ready (rs := [2]) (by kernel_rfl) (by simp) ?_
      refine AllReadyH.cons (o := { dst := some 30, op := Go.Op.call { callee := Go.Callee.value (Go.Operand.func 18), args := #[Go.Operand.tmp 29], argTypes := #[26] }, type := 31, pos := "exact.go:6068", after := #[{ on := 1, ground := Go.Ground.data }], guard := none }) rfl (fun K hK => ?_) AllReadyH.nil
      go_simp
      (first | (go_at_call 18; go_must (refine (toRegion_any _ rows _ (hr.below RE.stays (B7.tr Bw)) hl1).mono ?_; rintro e wX ⟨A9, c9, rfl, own9, hbX⟩; obtain ⟨hcX, hfX, hzX⟩ := bkn hbX W7.heap.size hz; have hz := hzX; have Bw := Bw.tr hbX); (try go_wp2_with fail)) | (go_at_call 20; go_must (refine (eqRegion_same _ _ rows _ ((own7.below Bw).rd lenInt (by decide)) (own9.rd lenInt (by decide))).mono ?_; rintro e wX ⟨rfl, hbX⟩; obtain ⟨hcX, hfX, hzX⟩ := bkn hbX W7.heap.size hz; have hz := hzX; have Bw := Bw.tr hbX); (try go_wp2_with fail)))
      refine hK.out _ _ ?_ (fun hHeld => ?_)
      · (try dsimp only); go_keep
      clear hK K
      (try simp only [Act.put, List.setIfInBounds_toArray, List.set_cons_zero, List.set_cons_succ])
      refine wpAnyH_ready (rs := [3]) (by kernel_rfl) (by simp) ?_
      refine AllReadyH.cons (o := { dst := some 31, op := Go.Op.call { callee := Go.Callee.value (Go.Operand.func 20), args := #[Go.Operand.tmp 28, Go.Operand.tmp 30], argTypes := #[31, 31] }, type := 4, pos := "exact.go:6068", after := #[{ on := 0, ground := Go.Ground.data }, { on := 2, ground := Go.Ground.data }, { on := 2, ground := Go.Ground.chain }], guard := none }) rfl (fun K hK => ?_) AllReadyH.nil
      go_simp
      (first | (go_at_call 18; go_must (refine (toRegion_any _ rows _ (hr.below RE.stays (B7.tr Bw)) hl1).mono ?_; rintro e wX ⟨A9, c9, rfl, own9, hbX⟩; obtain ⟨hcX, hfX, hzX⟩ := bkn hbX W7.heap.size hz; have hz := hzX; have Bw := Bw.tr hbX); (try go_wp2_with fail)) | (go_at_call 20; go_must (refine (eqRegion_same _ _ rows _ ((own7.below Bw).rd lenInt (by decide)) (own9.rd lenInt (by decide))).mono ?_; rintro e wX ⟨rfl, hbX⟩; obtain ⟨hcX, hfX, hzX⟩ := bkn hbX W7.heap.size hz; have hz := hzX; have Bw := Bw.tr hbX); (try go_wp2_with fail)))
      refine hK.out _ _ ?_ (fun hHeld => ?_)
      · (try dsimp only); go_keep
      clear hK K
      (try simp only [Act.put, List.setIfInBounds_toArray, List.set_cons_zero, List.set_cons_succ])
      refine wpAnyH_take (i := 4) (oi := { dst := some 32, op := Go.Op.unOp Go.UnOp.not 4 (Go.Operand.tmp 31), type := 4, pos := "exact.go:6068", after := #[{ on := 3, ground := Go.Ground.data }], guard := none }) (v := ?_) rfl (by kernel_rfl) (by kernel_rfl) (by kernel_rfl) (fun _ _ _ h => h) (Or.inl ⟨by rfl, ?_⟩) (by assumption) ?_
      rotate_left 1
      · (intro wS hSw; (try dsimp only at hSw); go_simp; (all_goals with_reducible rfl))
      simp only [Act.put, List.setIfInBounds_toArray, List.set_cons_zero, List.set_cons_succ]
      refine wpAnyH_done (by kernel_rfl) ?_ _
      go_wp2
      go_ret
      exact ⟨rfl, B7.tr Bw⟩
  · go_enter Try.func3, Try.ntmps3
    go_wp2_with fail
    refine (szRegion_any _ rows _ _ (hr.below RE.stays hA) (by decide) (by decide)).mono ?_
    rintro e w0 ⟨rfl, hb0⟩
    rw [szOf_no (by omega)]
    go_wp2
    go_ret
    exact ⟨rfl, hA.tr hb0⟩
end Go.Proofs.Ytkbndchgmokabaa
