/- FnExactFloorLines: the walk of the law. No conditions. -/
import Derived.Test.YtkbndchgmokabaaFloorS
import Derived.Test.YtkbndchgmokabaaMarkStr
import Derived.Test.YtkbndchgmokabaaRegConv
import Derived.Test.YtkbndchgmokabaaWithCell
namespace Go.Proofs.Ytkbndchgmokabaa
open Go.ChangeShapes Go.WideShapes Go.ChangeAt Go.RowKit
set_option linter.unusedVariables false
set_option linter.unusedSimpArgs false

theorem eqStrs_same (u v : Value) (l : List ByteArray) (w : World) (h : Rd 1 (RE eStr) w u l) (h' : Rd 1 (RE eStr) w v l) : Calls Try.prog 33 #[u, v] w (Ret (.bool true) w) := by
  have := eqStrs_any u v l l w h h'; rw [decide_eq_true (rfl : l = l)] at this; exact this
theorem eqDoms_same (u v : Value) (l : List Dm) (w : World) (h : Rd 3 (RE eDom) w u l) (h' : Rd 3 (RE eDom) w v l) : Calls Try.prog 34 #[u, v] w (Ret (.bool true) w) := by
  have := eqDoms_any u v l l w h h'; rw [beq_self_eq_true] at this; exact this
set_option maxHeartbeats 4000000 in
set_option maxRecDepth 100000 in
theorem FnExactFloorLines_walk (w : World) (cs : List Value) (rows : List Int) (h : RSl 1 RInt w cs rows) (okr : AllOk I64 rows) (v : Value) (l : List Dm) (h2 : Rd 3 RDom w v l) (okl : AllOk (fun x => I64 x.1 ∧ I64 x.2.1 ∧ Always x.2.2) l) :
    Calls Try.prog 5 #[.agg cs.toArray, v] w (Ret (.bool true) w) := by
  obtain ⟨vr, rfl, hr⟩ := h
  obtain ⟨A, c, rfl, hc, hm⟩ := hr.form
  have hA := (Below.refl w.heap.size w).al (.cells #[.slice A rows.length c] 26)
  have bL := Blk.new_ w 26 #[.slice A rows.length c]
  by_cases hsz : rows.length ≤ 1048576
  · have hle : (rows.length : Int) ≤ 1048576 := by omega
    by_cases hsz2 : (l.length : Int) ≤ 1048576 - rows.length
    · have hl2 : Small l.length := by unfold Small; omega
      have hl1 : Small rows.length := hsz
      have hll : l.length ≤ 1048576 := by omega
      have hF := floorLines_le rows l
      obtain ⟨F, hFe⟩ : ∃ F, F = floorLines rows l := ⟨_, rfl⟩
      rw [← hFe] at hF
      have HF := Lib.hid hFe; clear hFe
      have hF2 : F.length ≤ 1048576 := by omega
      go_enter Try.func5, Try.ntmps5
      go_wp2_with fail
      refine (szRegion_any _ rows _ _ (hr.below RE.stays hA) (by decide) (by decide)).mono ?_
      rintro e w0 ⟨rfl, hb0⟩
      rw [szOf_ok (by omega)]
      have B0 := hA.tr hb0
      have bL0 := bL.bl hb0
      have z0 := bL0.c1
      go_wp2_with fail
      refine (szDoms_any _ l _ _ (h2.below RE.stays B0) (by omega) (by omega)).mono ?_
      rintro e w1 ⟨rfl, rfl⟩
      rw [szOf_ok hsz2]
      go_wp2_with fail
      refine (toRegion_any _ rows _ (hr.below RE.stays B0) hl1).mono ?_
      rintro e w2 ⟨A2, c2, rfl, own2, hb2⟩
      have B2 := B0.tr hb2
      go_wp2_with fail
      refine (toDoms_any _ l _ (h2.below RE.stays B2) hl2).mono ?_
      rintro e w3 ⟨A3, c3, rfl, own3, hb3⟩
      have B3 := B2.tr hb3
      go_wp2_with fail
      refine (floorLinesS_any _ _ rows l _ ((own2.below hb3).rd lenInt (by decide)) (own3.rd lenDom (by decide))).mono ?_
      rintro e w4 ⟨A4, c4, rfl, own4, hb4⟩
      rw [← HF.out] at own4 ⊢
      have B4 := B3.tr hb4
      have bL4 := ((bL0.bl hb2).bl hb3).bl hb4
      clear z0
      have z4 := bL4.c1
      go_wp2_with fail
      refine (toRegion_any _ rows _ (hr.below RE.stays B4) hl1).mono ?_
      rintro e w5 ⟨A5, c5, rfl, own5, hb5⟩
      have B5 := (B4.tr hb5).al (.cells #[.slice A5 rows.length c5] 31)
      have bL5 := (bL4.bl hb5).alloc (.cells #[.slice A5 rows.length c5] 31)
      have bX5 := Blk.new_ w5 31 #[.slice A5 rows.length c5]
      have own5a := own5.alloc (.cells #[.slice A5 rows.length c5] 31)
      have own4a := (own4.below hb5).alloc (.cells #[.slice A5 rows.length c5] 31)
      clear z4
      go_wp2_with fail
      refine (toDoms_any _ l _ (h2.below RE.stays B5) hl2).mono ?_
      rintro e w6 ⟨A6, c6, rfl, own6, hb6⟩
      have B6 := B5.tr hb6
      have bX6 := bX5.bl hb6
      have z6 := bX6.c1
      have own56 := own5a.below hb6
      go_wp2_with fail
      refine (floorLinesI_any _ _ rows l _ (own56.rd lenInt (by decide)) (own6.rd lenDom (by decide))).mono ?_
      rintro e w7 ⟨A7, c7, rfl, own7, hb7⟩
      rw [← HF.out] at own7 ⊢
      have B7 := B6.tr hb7
      have own47 := (own4a.below hb6).below hb7
      clear z6
      go_wp2_with fail
      refine (eqStrs_same _ _ F _ (own7.rd lenStr (by decide)) (own47.rd lenStr (by decide))).mono ?_
      rintro e w8 ⟨rfl, hb8⟩
      have B8 := B7.tr hb8
      have bL8 := ((bL5.bl hb6).bl hb7).bl hb8
      have bX8 := (bX6.bl hb7).bl hb8
      have own58 := (own56.below hb7).below hb8
      have own68 := (own6.below hb7).below hb8
      have own78 := own7.below hb8
      have own48 := own47.below hb8
      have zL := bL8.c1
      have zX := bX8.c1
      have Bw : Below w8.heap.size w8 w8.drew := (Below.refl _ _).drew
      have hz : w8.heap.size ≤ w8.drew.heap.size := by simp
      have hpL := bL8.lt
      have hpX := bX8.lt
      go_wp2_with fail
      refine wp_region_held_drew (S := (fun w' => w'.cell? ⟨w5.heap.size, 0, none⟩ = some (.slice A5 rows.length c5) ∧ w'.cell? ⟨w.heap.size, 0, none⟩ = some (.slice A rows.length c))) (by kernel_rfl) ?_ (fun hHeld => ?_)
      · (try dsimp only); go_keep
      refine wpAnyH_take (i := 0) (oi := { dst := some 40, op := Go.Op.load 31 (Go.Operand.tmp 7), type := 31, pos := "exact.go:6294", after := #[], guard := none }) (v := ?_) rfl (by kernel_rfl) (by kernel_rfl) (by kernel_rfl) (fun _ _ _ h => h) (Or.inl ⟨by rfl, ?_⟩) (by assumption) ?_
      rotate_left 1
      · (intro wS hSw; (try dsimp only at hSw); go_simp; (all_goals with_reducible rfl))
      simp only [Act.put, List.setIfInBounds_toArray, List.set_cons_zero, List.set_cons_succ]
      refine wpAnyH_take (i := 1) (oi := { dst := some 41, op := Go.Op.load 26 (Go.Operand.tmp 2), type := 26, pos := "exact.go:6294", after := #[], guard := none }) (v := ?_) rfl (by kernel_rfl) (by kernel_rfl) (by kernel_rfl) (fun _ _ _ h => h) (Or.inl ⟨by rfl, ?_⟩) (by assumption) ?_
      rotate_left 1
      · (intro wS hSw; (try dsimp only at hSw); go_simp; (all_goals with_reducible rfl))
      simp only [Act.put, List.setIfInBounds_toArray, List.set_cons_zero, List.set_cons_succ]
      refine wpAnyH_ready (rs := [2]) (by kernel_rfl) (by simp) ?_
      refine AllReadyH.cons (o := { dst := some 42, op := Go.Op.call { callee := Go.Callee.value (Go.Operand.func 18), args := #[Go.Operand.tmp 41], argTypes := #[26] }, type := 31, pos := "exact.go:6294", after := #[{ on := 1, ground := Go.Ground.data }], guard := none }) rfl (fun K hK => ?_) AllReadyH.nil
      go_simp
      (first | (go_at_call 18; go_must (refine (toRegion_any _ rows _ (hr.below RE.stays (B8.tr Bw)) hl1).mono ?_; rintro e wX ⟨A9, c9, rfl, own9, hbX⟩; have Bx := hbX; obtain ⟨hcX, hfX, hzX⟩ := bkn hbX w8.heap.size hz; have hz := hzX; have Bw := Bw.tr hbX); (try go_wp2_with fail)) | (go_at_call 20; go_must (refine (eqRegion_same _ _ rows _ ((own58.below Bw).rd lenInt (by decide)) (own9.rd lenInt (by decide))).mono ?_; rintro e wX ⟨rfl, hbX⟩; obtain ⟨hcX, hfX, hzX⟩ := bkn hbX w8.heap.size hz; have hz := hzX; have Bw := Bw.tr hbX); (try go_wp2_with fail)))
      refine hK.out _ _ ?_ (fun hHeld => ?_)
      · (try dsimp only); go_keep
      clear hK K
      (try simp only [Act.put, List.setIfInBounds_toArray, List.set_cons_zero, List.set_cons_succ])
      refine wpAnyH_ready (rs := [3]) (by kernel_rfl) (by simp) ?_
      refine AllReadyH.cons (o := { dst := some 43, op := Go.Op.call { callee := Go.Callee.value (Go.Operand.func 20), args := #[Go.Operand.tmp 40, Go.Operand.tmp 42], argTypes := #[31, 31] }, type := 4, pos := "exact.go:6294", after := #[{ on := 0, ground := Go.Ground.data }, { on := 2, ground := Go.Ground.data }, { on := 2, ground := Go.Ground.chain }], guard := none }) rfl (fun K hK => ?_) AllReadyH.nil
      go_simp
      (first | (go_at_call 18; go_must (refine (toRegion_any _ rows _ (hr.below RE.stays (B8.tr Bw)) hl1).mono ?_; rintro e wX ⟨A9, c9, rfl, own9, hbX⟩; have Bx := hbX; obtain ⟨hcX, hfX, hzX⟩ := bkn hbX w8.heap.size hz; have hz := hzX; have Bw := Bw.tr hbX); (try go_wp2_with fail)) | (go_at_call 20; go_must (refine (eqRegion_same _ _ rows _ ((own58.below Bw).rd lenInt (by decide)) (own9.rd lenInt (by decide))).mono ?_; rintro e wX ⟨rfl, hbX⟩; obtain ⟨hcX, hfX, hzX⟩ := bkn hbX w8.heap.size hz; have hz := hzX; have Bw := Bw.tr hbX); (try go_wp2_with fail)))
      refine hK.out _ _ ?_ (fun hHeld => ?_)
      · (try dsimp only); go_keep
      clear hK K
      (try simp only [Act.put, List.setIfInBounds_toArray, List.set_cons_zero, List.set_cons_succ])
      refine wpAnyH_take (i := 4) (oi := { dst := some 44, op := Go.Op.unOp Go.UnOp.not 4 (Go.Operand.tmp 43), type := 4, pos := "exact.go:6294", after := #[{ on := 3, ground := Go.Ground.data }], guard := none }) (v := ?_) rfl (by kernel_rfl) (by kernel_rfl) (by kernel_rfl) (fun _ _ _ h => h) (Or.inl ⟨by rfl, ?_⟩) (by assumption) ?_
      rotate_left 1
      · (intro wS hSw; (try dsimp only at hSw); go_simp; (all_goals with_reducible rfl))
      simp only [Act.put, List.setIfInBounds_toArray, List.set_cons_zero, List.set_cons_succ]
      refine wpAnyH_done (by kernel_rfl) ?_ _
      have B10 := B8.tr Bw
      have bL10 := bL8.bl Bw
      have bX10 := bX8.bl Bw
      have own510 := own58.below Bw
      have own610 := own68.below Bw
      have own710 := own78.below Bw
      have own410 := own48.below Bw
      clear zL zX hcX hfX hHeld
      go_wp2_with fail
      refine (toDoms_any _ l _ (h2.below RE.stays B10) hl2).mono ?_
      rintro e w11 ⟨A11, c11, rfl, own11, hb11⟩
      have B11 := B10.tr hb11
      go_wp2_with fail
      refine (eqDoms_same _ _ l _ ((own610.below hb11).rd lenDom (by decide)) (own11.rd lenDom (by decide))).mono ?_
      rintro e w12 ⟨rfl, hb12⟩
      have B12 := B11.tr hb12
      have bX12 := (bX10.bl hb11).bl hb12
      have zX := bX12.c1
      have own512 := (own510.below hb11).below hb12
      have own612 := (own610.below hb11).below hb12
      have own712 := (own710.below hb11).below hb12
      have own412 := (own410.below hb11).below hb12
      have bL12 := (bL10.bl hb11).bl hb12
      go_wp2_with fail
      refine (markRegion_any _ rows 1 _ _ own512 (by decide) (by decide) hsz).mono ?_
      rintro e w13 ⟨rfl, own13, hg13⟩
      have B13 := below_mark B12 own5 (by have := B4.size; omega) hg13
      have own613 := OwnL.kept' own6 own5 (by first | (simp; done) | (simp; omega)) own612 hg13
      have own713 := OwnL.kept' own7 own5 (by have := hb6.size; simp at this; omega) own712 hg13
      have own413 := OwnL.kept_ own4 own5 (by omega) own412 hg13
      have bL13 := bL12.grown hg13 (fun e => (own512.apart bL12 (by decide)) e.symm)
      clear zX
      have hk1 : (0 : Int) ≤ 1 + (rows.length : Int) := by omega
      go_wp2_with fail
      refine (markDoms_any _ l _ _ _ own613 (by omega) (by omega) hll).mono ?_
      rintro e w14 ⟨rfl, own14, hg14⟩
      have B14 := below_mark B13 own6 (by have := B5.size; omega) hg14
      have own714 := OwnL.kept' own7 own6 (Nat.le_refl _) own713 hg14
      have own414 := OwnL.kept_ own4 own6 (by have := hb5.size; simp; omega) own413 hg14
      have bL14 := bL13.grown hg14 (fun e => (own613.apart bL13 (by decide)) e.symm)
      have hk2 : ¬ ((1 : Int) + (rows.length : Int) + 3 * (l.length : Int) < 0) := by omega
      go_wp2_with fail
      refine (eqStrs_same _ _ F _ (own714.rd lenStr (by decide)) (own414.rd lenStr (by decide))).mono ?_
      rintro e w15 ⟨rfl, hb15⟩
      have B15 := B14.tr hb15
      have own715 := own714.below hb15
      have own415 := own414.below hb15
      have bL15 := bL14.bl hb15
      go_wp2_with fail
      refine (markStrs_any _ F 1 _ _ own715 (by decide) (by decide) hF2).mono ?_
      rintro e w16 ⟨rfl, own16, hg16⟩
      have B16 := below_mark B15 own7 (by have := B6.size; omega) hg16
      have own416 := OwnL.kept_ own4 own7 (by have := hb5.size; have := hb6.size; simp at *; omega) own415 hg16
      have bL16 := bL15.grown hg16 (fun e => (own715.apart bL15 (by decide)) e.symm)
      go_wp2_with fail
      refine (heldStrs_any _ 1 F.length _ (own16.rd lenStr (by decide)) (by decide) (by decide) hF2).mono ?_
      rintro e w17 ⟨rfl, hb17⟩
      have B17 := B16.tr hb17
      have own717 := own16.below hb17
      have own417 := own416.below hb17
      have bL17 := bL16.bl hb17
      have zL := bL17.c1
      have hk3 : ¬ (((1 + F.length : Nat) : Int) < 0) := by omega
      go_wp2_with fail
      refine (toRegion_any _ rows _ (hr.below RE.stays B17) hl1).mono ?_
      rintro e w18 ⟨A18, c18, rfl, own18, hb18⟩
      have B18 := B17.tr hb18
      go_wp2_with fail
      refine (toDoms_any _ l _ (h2.below RE.stays B18) hl2).mono ?_
      rintro e w19 ⟨A19, c19, rfl, own19, hb19⟩
      have B19 := B18.tr hb19
      go_wp2_with fail
      refine (floorLinesI_any _ _ rows l _ ((own18.below hb19).rd lenInt (by decide)) (own19.rd lenDom (by decide))).mono ?_
      rintro e w20 ⟨A20, c20, rfl, own20, hb20⟩
      rw [← HF.out] at own20 ⊢
      have B20 := B19.tr hb20
      have own420 := ((own417.below hb18).below hb19).below hb20
      have own720 := ((own717.below hb18).below hb19).below hb20
      clear zL
      go_wp2_with fail
      refine (eqStrs_same _ _ F _ (own20.rd lenStr (by decide)) (own420.rd lenStr (by decide))).mono ?_
      rintro e w21 ⟨rfl, hb21⟩
      have B21 := B20.tr hb21
      go_wp2_with fail
      refine (heldStrs_any _ 1 F.length _ ((own720.below hb21).rd lenStr (by decide)) (by decide) (by decide) hF2).mono ?_
      rintro e w22 ⟨rfl, hb22⟩
      go_wp2
      go_ret
      exact ⟨rfl, B21.tr hb22⟩
    · go_enter Try.func5, Try.ntmps5
      go_wp2_with fail
      refine (szRegion_any _ rows _ _ (hr.below RE.stays hA) (by decide) (by decide)).mono ?_
      rintro e w0 ⟨rfl, hb0⟩
      rw [szOf_ok (by omega)]
      go_wp2_with fail
      refine (szDoms_any _ l _ _ (h2.below RE.stays (hA.tr hb0)) (by omega) (by omega)).mono ?_
      rintro e w1 ⟨rfl, rfl⟩
      rw [szOf_no (by omega)]
      go_wp2
      go_ret
      exact ⟨rfl, hA.tr hb0⟩
  · go_enter Try.func5, Try.ntmps5
    go_wp2_with fail
    refine (szRegion_any _ rows _ _ (hr.below RE.stays hA) (by decide) (by decide)).mono ?_
    rintro e w0 ⟨rfl, hb0⟩
    rw [szOf_no (by omega)]
    go_wp2
    go_ret
    exact ⟨rfl, hA.tr hb0⟩
end Go.Proofs.Ytkbndchgmokabaa
