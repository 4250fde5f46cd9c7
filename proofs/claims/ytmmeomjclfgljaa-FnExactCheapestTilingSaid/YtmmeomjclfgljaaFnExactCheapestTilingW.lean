/- The law FnExactCheapestTiling: the walk. No conditions. -/
import Derived.Test.YtmmeomjclfgljaaCtI
import Derived.Test.YtmmeomjclfgljaaCtS
import Derived.Test.YtmmeomjclfgljaaLawBase
import Derived.Test.YtmmeomjclfgljaaWithCell
import Derived.Test.YtmmeomjclfgljaaK3
namespace Go.Proofs.Ytmmeomjclfgljaa
open Go.ChangeShapes Go.WideShapes Go.ChangeAt Go.RowKit
set_option linter.unusedVariables false
set_option linter.unusedSimpArgs false

abbrev oFnExactCheapestTilingW0 : Oper := { dst := some 22, op := Go.Op.load 44 (Go.Operand.tmp 2), type := 44, pos := "exact.go:6081", after := #[], guard := none }
abbrev oFnExactCheapestTilingW1 : Oper := { dst := some 24, op := Go.Op.load 24 (Go.Operand.tmp 3), type := 24, pos := "exact.go:6081", after := #[], guard := none }
abbrev oFnExactCheapestTilingW2 : Oper := { dst := some 23, op := Go.Op.call { callee := Go.Callee.value (Go.Operand.func 20), args := #[Go.Operand.tmp 22], argTypes := #[44] }, type := 47, pos := "exact.go:6081", after := #[{ on := 0, ground := Go.Ground.data }], guard := none }
abbrev oFnExactCheapestTilingW3 : Oper := { dst := some 25, op := Go.Op.call { callee := Go.Callee.value (Go.Operand.func 10), args := #[Go.Operand.tmp 24], argTypes := #[24] }, type := 26, pos := "exact.go:6081", after := #[{ on := 2, ground := Go.Ground.data }, { on := 1, ground := Go.Ground.chain }], guard := none }
abbrev oFnExactCheapestTilingW4 : Oper := { dst := some 26, op := Go.Op.call { callee := Go.Callee.value (Go.Operand.func 19), args := #[Go.Operand.tmp 23, Go.Operand.tmp 25], argTypes := #[47, 26] }, type := 45, pos := "exact.go:6081", after := #[{ on := 1, ground := Go.Ground.data }, { on := 3, ground := Go.Ground.data }, { on := 3, ground := Go.Ground.chain }], guard := none }
abbrev oFnExactCheapestTilingW5 : Oper := { dst := some 21, op := Go.Op.move (Go.Operand.tmp 26), type := 45, pos := "exact.go:6081", after := #[{ on := 4, ground := Go.Ground.data }], guard := none }
abbrev oFnExactCheapestTilingW6 : Oper := { dst := some 27, op := Go.Op.extract (Go.Operand.tmp 21) 0, type := 27, pos := "exact.go:6081", after := #[{ on := 5, ground := Go.Ground.data }], guard := none }
abbrev oFnExactCheapestTilingW7 : Oper := { dst := some 28, op := Go.Op.extract (Go.Operand.tmp 21) 1, type := 4, pos := "exact.go:6081", after := #[{ on := 5, ground := Go.Ground.data }, { on := 8, ground := Go.Ground.gcOnly Go.Departure.lateStores }], guard := none }
abbrev oFnExactCheapestTilingW8 : Oper := { dst := some 6, op := Go.Op.assign (Go.Operand.tmp 27), type := 27, pos := "exact.go:6081", after := #[{ on := 6, ground := Go.Ground.data }, { on := 4, ground := Go.Ground.chain }, { on := 0, ground := Go.Ground.phase }, { on := 1, ground := Go.Ground.phase }, { on := 2, ground := Go.Ground.phase }, { on := 3, ground := Go.Ground.phase }, { on := 4, ground := Go.Ground.phase }, { on := 5, ground := Go.Ground.phase }, { on := 6, ground := Go.Ground.phase }, { on := 7, ground := Go.Ground.textOnly Go.Departure.lateStores }], guard := none }
abbrev oFnExactCheapestTilingW9 : Oper := { dst := some 7, op := Go.Op.assign (Go.Operand.tmp 28), type := 4, pos := "exact.go:6081", after := #[{ on := 7, ground := Go.Ground.data }, { on := 8, ground := Go.Ground.chain }, { on := 0, ground := Go.Ground.phase }, { on := 1, ground := Go.Ground.phase }, { on := 2, ground := Go.Ground.phase }, { on := 3, ground := Go.Ground.phase }, { on := 4, ground := Go.Ground.phase }, { on := 5, ground := Go.Ground.phase }, { on := 6, ground := Go.Ground.phase }, { on := 7, ground := Go.Ground.phase }, { on := 8, ground := Go.Ground.phase }], guard := none }
abbrev oFnExactCheapestTilingW10 : Oper := { dst := some 32, op := Go.Op.load 44 (Go.Operand.tmp 2), type := 44, pos := "exact.go:6083", after := #[], guard := none }
abbrev oFnExactCheapestTilingW11 : Oper := { dst := some 34, op := Go.Op.load 26 (Go.Operand.tmp 8), type := 26, pos := "exact.go:6083", after := #[], guard := none }
abbrev oFnExactCheapestTilingW12 : Oper := { dst := some 33, op := Go.Op.call { callee := Go.Callee.value (Go.Operand.func 20), args := #[Go.Operand.tmp 32], argTypes := #[44] }, type := 47, pos := "exact.go:6083", after := #[{ on := 0, ground := Go.Ground.data }], guard := none }
abbrev oFnExactCheapestTilingW13 : Oper := { dst := some 35, op := Go.Op.call { callee := Go.Callee.value (Go.Operand.func 21), args := #[Go.Operand.tmp 33, Go.Operand.tmp 34], argTypes := #[47, 26] }, type := 45, pos := "exact.go:6083", after := #[{ on := 1, ground := Go.Ground.data }, { on := 2, ground := Go.Ground.data }, { on := 1, ground := Go.Ground.chain }], guard := none }
abbrev oFnExactCheapestTilingW14 : Oper := { dst := some 31, op := Go.Op.move (Go.Operand.tmp 35), type := 45, pos := "exact.go:6083", after := #[{ on := 3, ground := Go.Ground.data }], guard := none }
abbrev oFnExactCheapestTilingW15 : Oper := { dst := some 36, op := Go.Op.extract (Go.Operand.tmp 31) 0, type := 27, pos := "exact.go:6083", after := #[{ on := 4, ground := Go.Ground.data }], guard := none }
abbrev oFnExactCheapestTilingW16 : Oper := { dst := some 37, op := Go.Op.extract (Go.Operand.tmp 31) 1, type := 4, pos := "exact.go:6083", after := #[{ on := 4, ground := Go.Ground.data }, { on := 7, ground := Go.Ground.gcOnly Go.Departure.lateStores }], guard := none }
abbrev oFnExactCheapestTilingW17 : Oper := { dst := some 9, op := Go.Op.assign (Go.Operand.tmp 36), type := 27, pos := "exact.go:6083", after := #[{ on := 5, ground := Go.Ground.data }, { on := 3, ground := Go.Ground.chain }, { on := 0, ground := Go.Ground.phase }, { on := 1, ground := Go.Ground.phase }, { on := 2, ground := Go.Ground.phase }, { on := 3, ground := Go.Ground.phase }, { on := 4, ground := Go.Ground.phase }, { on := 5, ground := Go.Ground.phase }, { on := 6, ground := Go.Ground.textOnly Go.Departure.lateStores }], guard := none }
abbrev oFnExactCheapestTilingW18 : Oper := { dst := some 10, op := Go.Op.assign (Go.Operand.tmp 37), type := 4, pos := "exact.go:6083", after := #[{ on := 6, ground := Go.Ground.data }, { on := 7, ground := Go.Ground.chain }, { on := 0, ground := Go.Ground.phase }, { on := 1, ground := Go.Ground.phase }, { on := 2, ground := Go.Ground.phase }, { on := 3, ground := Go.Ground.phase }, { on := 4, ground := Go.Ground.phase }, { on := 5, ground := Go.Ground.phase }, { on := 6, ground := Go.Ground.phase }, { on := 7, ground := Go.Ground.phase }], guard := none }
abbrev oFnExactCheapestTilingW19 : Oper := { dst := some 47, op := Go.Op.load 26 (Go.Operand.tmp 8), type := 26, pos := "exact.go:6087", after := #[], guard := none }
abbrev oFnExactCheapestTilingW20 : Oper := { dst := some 48, op := Go.Op.load 24 (Go.Operand.tmp 3), type := 24, pos := "exact.go:6087", after := #[], guard := none }
abbrev oFnExactCheapestTilingW21 : Oper := { dst := some 49, op := Go.Op.call { callee := Go.Callee.value (Go.Operand.func 10), args := #[Go.Operand.tmp 48], argTypes := #[24] }, type := 26, pos := "exact.go:6087", after := #[{ on := 1, ground := Go.Ground.data }], guard := none }
abbrev oFnExactCheapestTilingW22 : Oper := { dst := some 50, op := Go.Op.call { callee := Go.Callee.value (Go.Operand.func 13), args := #[Go.Operand.tmp 47, Go.Operand.tmp 49], argTypes := #[26, 26] }, type := 4, pos := "exact.go:6087", after := #[{ on := 0, ground := Go.Ground.data }, { on := 2, ground := Go.Ground.data }, { on := 2, ground := Go.Ground.chain }], guard := none }
abbrev oFnExactCheapestTilingW23 : Oper := { dst := some 51, op := Go.Op.unOp Go.UnOp.not 4 (Go.Operand.tmp 50), type := 4, pos := "exact.go:6087", after := #[{ on := 3, ground := Go.Ground.data }], guard := none }
abbrev oFnExactCheapestTilingW24 : Oper := { dst := some 80, op := Go.Op.load 44 (Go.Operand.tmp 2), type := 44, pos := "exact.go:6105", after := #[], guard := none }
abbrev oFnExactCheapestTilingW25 : Oper := { dst := some 82, op := Go.Op.load 24 (Go.Operand.tmp 3), type := 24, pos := "exact.go:6105", after := #[], guard := none }
abbrev oFnExactCheapestTilingW26 : Oper := { dst := some 81, op := Go.Op.call { callee := Go.Callee.value (Go.Operand.func 20), args := #[Go.Operand.tmp 80], argTypes := #[44] }, type := 47, pos := "exact.go:6105", after := #[{ on := 0, ground := Go.Ground.data }], guard := none }
abbrev oFnExactCheapestTilingW27 : Oper := { dst := some 83, op := Go.Op.call { callee := Go.Callee.value (Go.Operand.func 10), args := #[Go.Operand.tmp 82], argTypes := #[24] }, type := 26, pos := "exact.go:6105", after := #[{ on := 2, ground := Go.Ground.data }, { on := 1, ground := Go.Ground.chain }], guard := none }
abbrev oFnExactCheapestTilingW28 : Oper := { dst := some 84, op := Go.Op.call { callee := Go.Callee.value (Go.Operand.func 21), args := #[Go.Operand.tmp 81, Go.Operand.tmp 83], argTypes := #[47, 26] }, type := 45, pos := "exact.go:6105", after := #[{ on := 1, ground := Go.Ground.data }, { on := 3, ground := Go.Ground.data }, { on := 3, ground := Go.Ground.chain }], guard := none }
abbrev oFnExactCheapestTilingW29 : Oper := { dst := some 79, op := Go.Op.move (Go.Operand.tmp 84), type := 45, pos := "exact.go:6105", after := #[{ on := 4, ground := Go.Ground.data }], guard := none }
abbrev oFnExactCheapestTilingW30 : Oper := { dst := some 85, op := Go.Op.extract (Go.Operand.tmp 79) 0, type := 27, pos := "exact.go:6105", after := #[{ on := 5, ground := Go.Ground.data }], guard := none }
abbrev oFnExactCheapestTilingW31 : Oper := { dst := some 86, op := Go.Op.extract (Go.Operand.tmp 79) 1, type := 4, pos := "exact.go:6105", after := #[{ on := 5, ground := Go.Ground.data }, { on := 8, ground := Go.Ground.gcOnly Go.Departure.lateStores }], guard := none }
abbrev oFnExactCheapestTilingW32 : Oper := { dst := some 14, op := Go.Op.assign (Go.Operand.tmp 85), type := 27, pos := "exact.go:6105", after := #[{ on := 6, ground := Go.Ground.data }, { on := 4, ground := Go.Ground.chain }, { on := 0, ground := Go.Ground.phase }, { on := 1, ground := Go.Ground.phase }, { on := 2, ground := Go.Ground.phase }, { on := 3, ground := Go.Ground.phase }, { on := 4, ground := Go.Ground.phase }, { on := 5, ground := Go.Ground.phase }, { on := 6, ground := Go.Ground.phase }, { on := 7, ground := Go.Ground.textOnly Go.Departure.lateStores }], guard := none }
abbrev oFnExactCheapestTilingW33 : Oper := { dst := some 15, op := Go.Op.assign (Go.Operand.tmp 86), type := 4, pos := "exact.go:6105", after := #[{ on := 7, ground := Go.Ground.data }, { on := 8, ground := Go.Ground.chain }, { on := 0, ground := Go.Ground.phase }, { on := 1, ground := Go.Ground.phase }, { on := 2, ground := Go.Ground.phase }, { on := 3, ground := Go.Ground.phase }, { on := 4, ground := Go.Ground.phase }, { on := 5, ground := Go.Ground.phase }, { on := 6, ground := Go.Ground.phase }, { on := 7, ground := Go.Ground.phase }, { on := 8, ground := Go.Ground.phase }], guard := none }
set_option maxHeartbeats 4000000 in
set_option maxRecDepth 100000 in
theorem FnExactCheapestTiling_walk (w : World) (csP : List Value) (pp : Pr) (hP : RQuad w csP pp) (okP : I64 pp.1 ∧ I64 pp.2.1 ∧ I64 pp.2.2.1 ∧ I64 pp.2.2.2) (csR : List Value) (rows : List Int) (hR0 : RSl 1 RInt w csR rows) (okR : AllOk I64 rows) : Calls Try.prog 5 #[.agg csP.toArray, .agg csR.toArray] w (Ret (.bool true) w) := by
  change csP = _ at hP
  subst hP
  obtain ⟨pa, pb, pc, pd⟩ := pp
  obtain ⟨vR, rfl, hr⟩ := hR0
  obtain ⟨P1, q1, rfl, _, _⟩ := hr.form
  have B := (((Below.refl w.heap.size w).al (.cells #[.int .i64 pa, .int .i64 pb, .int .i64 pc, .int .i64 pd] 44)).al (.cells #[.slice P1 rows.length q1] 24))
  have bA0 := (Blk.new_ w 44 #[.int .i64 pa, .int .i64 pb, .int .i64 pc, .int .i64 pd]).alloc (.cells #[.slice P1 rows.length q1] 24)
  have bA1 := Blk.new2 (w.alloc (.cells #[.int .i64 pa, .int .i64 pb, .int .i64 pc, .int .i64 pd] 44)) 24 #[.slice P1 rows.length q1] (w.heap.size + 1) (by simp)
  by_cases hsz0 : (rows.length : Int) ≤ 1048576
  · skip
    have hl : Small rows.length := by unfold Small; omega
    have hk0 : ¬ ((1048576 : Int) - rows.length < 0) := by omega
    obtain ⟨b, hb⟩ : ∃ b, b = cheapB (pa, pb, pc, pd) rows := ⟨_, rfl⟩
    obtain ⟨t, ht0⟩ : ∃ t, t = cheapT (pa, pb, pc, pd) rows := ⟨_, rfl⟩
    have ht : t.length ≤ 1048576 := by rw [ht0]; have := cheapT_len (pa, pb, pc, pd) rows; omega
    have hbb : (b != b) = false := by simp
    have CS : ∀ (a1 : Value) (w : World), Rd 1 RInt w a1 rows → Calls Try.prog 19 #[.agg #[.int .i64 pa, .int .i64 pb, .int .i64 pc, .int .i64 pd], .agg #[a1]] w (RetTB t b w) := fun a1 w k1 => by rw [ht0, hb]; exact ctS_any (pa, pb, pc, pd) a1 rows w k1
    have CI : ∀ (a1 : Value) (w : World), Rd 1 RInt w a1 rows → Calls Try.prog 21 #[.agg #[.int .i64 pa, .int .i64 pb, .int .i64 pc, .int .i64 pd], .agg #[a1]] w (RetTB t b w) := fun a1 w k1 => by rw [ht0, hb]; exact ctI_any (pa, pb, pc, pd) a1 rows w k1
    clear ht0 hb
    go_enter Try.func5, Try.ntmps5
    go_wp2_with fail
    refine (szRegion_any _ rows _ _ (hr.below RE.stays B) (by omega) (by omega)).mono ?_
    rintro e w0 ⟨rfl, hb⟩
    rw [szOf_ok (by omega)]
    replace B := B.tr hb
    replace bA0 := bA0.bl hb
    replace bA1 := bA1.bl hb
    clear hb
    go_upto_region 5 with (fail)
    obtain ⟨W, hW⟩ : ∃ W, W = w0 := ⟨_, rfl⟩
    rw [← hW] at B bA0 bA1 ⊢
    clear hW
    have z0_0 := bA0.cell 0
    have z0_1 := bA0.cell 1
    have z0_2 := bA0.cell 2
    have z0_3 := bA0.cell 3
    simp only [List.getElem?_toArray, List.getElem?_cons_zero, List.getElem?_cons_succ] at z0_0 z0_1 z0_2 z0_3
    have z1_0 := bA1.cell 0
    simp only [List.getElem?_toArray, List.getElem?_cons_zero, List.getElem?_cons_succ] at z1_0
    have hlA0 := bA0.lt
    have hlA1 := bA1.lt
    go_cut [6, 7] (fun s6 s7 wx => ∃ (gN : Nat) (W1 : Option Addr) (cW1 : Nat), s6 = .slice W1 t.length cW1 ∧ s7 = .bool b ∧ OwnL 66 3 eDom W.heap.size wx (.slice W1 t.length cW1) t ∧ Below W.heap.size W wx)
    case first =>
      have Bw : Below W.heap.size W W.drew := (Below.refl _ _).drew
      have hz : W.heap.size ≤ W.drew.heap.size := by simp
      refine wp_region_held_drew (S := (fun w' => w'.cell? ⟨w.heap.size, 0, none⟩ = some (.int .i64 pa) ∧ w'.cell? ⟨w.heap.size, 1, none⟩ = some (.int .i64 pb) ∧ w'.cell? ⟨w.heap.size, 2, none⟩ = some (.int .i64 pc) ∧ w'.cell? ⟨w.heap.size, 3, none⟩ = some (.int .i64 pd) ∧ w'.cell? ⟨w.heap.size + 1, 0, none⟩ = some (.slice P1 rows.length q1))) (by kernel_rfl) ?_ (fun hHeld => ?_)
      · (try dsimp only); (try go_keep)
      refine tk 0 oFnExactCheapestTilingW0 rfl (by kernel_rfl) (v := ?_) (fun _ _ _ h => h) (Or.inl ⟨by rfl, ?_⟩) (by assumption) ?_
      rotate_left 1
      · (intro wS hSw; (try dsimp only at hSw); dsimp only [oFnExactCheapestTilingW0]; go_simp; (all_goals with_reducible rfl))
      simp only [oFnExactCheapestTilingW0, putL, List.set]
      refine tk 2 oFnExactCheapestTilingW1 rfl (by kernel_rfl) (v := ?_) (fun _ _ _ h => h) (Or.inl ⟨by rfl, ?_⟩) (by assumption) ?_
      rotate_left 1
      · (intro wS hSw; (try dsimp only at hSw); dsimp only [oFnExactCheapestTilingW1]; go_simp; (all_goals with_reducible rfl))
      simp only [oFnExactCheapestTilingW1, putL, List.set]
      refine wpAnyH_ready (rs := [1]) (by kernel_rfl) (by simp) ?_
      refine AllReadyH.cons (o := oFnExactCheapestTilingW2) rfl (fun K hK => ?_) AllReadyH.nil
      dsimp only [oFnExactCheapestTilingW2]
      go_simp
      (first | (go_at_call 10; go_must (refine (toRegion_any _ rows _ (hr.below RE.stays (B.tr Bw)) hl).mono ?_; rintro e wX ⟨T1, t1, rfl, oT, hbX⟩; (try replace bN := bN.bl hbX);obtain ⟨hcX, hfX, hzX⟩ := bkn hbX W.heap.size hz; have hz := hzX; have Bw := Bw.tr hbX); (try go_wp2_with fail)) | (go_at_call 20; go_must (refine (toPrices_any (pa, pb, pc, pd) _).mono ?_; rintro e wX ⟨rfl, hbX⟩; (try replace oT := oT.below hbX); (try replace bN := bN.bl hbX);obtain ⟨hcX, hfX, hzX⟩ := bkn hbX W.heap.size hz; have hz := hzX; have Bw := Bw.tr hbX); (try go_wp2_with fail)) | (go_at_call 19; go_must (refine (CS _ _ (oT.rd lenInt (by decide))).mono ?_; rintro e wX ⟨W1, cW1, rfl, oR, hbX⟩; have hgR := hbX.size; replace oR := oR.mono (show W.heap.size ≤ _ by omega); (try replace bN := bN.bl hbX);obtain ⟨hcX, hfX, hzX⟩ := bkn hbX W.heap.size hz; have hz := hzX; have Bw := Bw.tr hbX); (try go_wp2_with fail)))
      refine hK.out _ _ ?_ (fun hHeld => ?_)
      · (try dsimp only); (try go_keep)
      clear hK K
      (try simp only [Act.put, List.setIfInBounds_toArray, List.set_cons_zero, List.set_cons_succ])
      refine wpAnyH_ready (rs := [3]) (by kernel_rfl) (by simp) ?_
      refine AllReadyH.cons (o := oFnExactCheapestTilingW3) rfl (fun K hK => ?_) AllReadyH.nil
      dsimp only [oFnExactCheapestTilingW3]
      go_simp
      (first | (go_at_call 10; go_must (refine (toRegion_any _ rows _ (hr.below RE.stays (B.tr Bw)) hl).mono ?_; rintro e wX ⟨T1, t1, rfl, oT, hbX⟩; (try replace bN := bN.bl hbX);obtain ⟨hcX, hfX, hzX⟩ := bkn hbX W.heap.size hz; have hz := hzX; have Bw := Bw.tr hbX); (try go_wp2_with fail)) | (go_at_call 20; go_must (refine (toPrices_any (pa, pb, pc, pd) _).mono ?_; rintro e wX ⟨rfl, hbX⟩; (try replace oT := oT.below hbX); (try replace bN := bN.bl hbX);obtain ⟨hcX, hfX, hzX⟩ := bkn hbX W.heap.size hz; have hz := hzX; have Bw := Bw.tr hbX); (try go_wp2_with fail)) | (go_at_call 19; go_must (refine (CS _ _ (oT.rd lenInt (by decide))).mono ?_; rintro e wX ⟨W1, cW1, rfl, oR, hbX⟩; have hgR := hbX.size; replace oR := oR.mono (show W.heap.size ≤ _ by omega); (try replace bN := bN.bl hbX);obtain ⟨hcX, hfX, hzX⟩ := bkn hbX W.heap.size hz; have hz := hzX; have Bw := Bw.tr hbX); (try go_wp2_with fail)))
      refine hK.out _ _ ?_ (fun hHeld => ?_)
      · (try dsimp only); (try go_keep)
      clear hK K
      (try simp only [Act.put, List.setIfInBounds_toArray, List.set_cons_zero, List.set_cons_succ])
      refine wpAnyH_ready (rs := [4]) (by kernel_rfl) (by simp) ?_
      refine AllReadyH.cons (o := oFnExactCheapestTilingW4) rfl (fun K hK => ?_) AllReadyH.nil
      dsimp only [oFnExactCheapestTilingW4]
      go_simp
      (first | (go_at_call 10; go_must (refine (toRegion_any _ rows _ (hr.below RE.stays (B.tr Bw)) hl).mono ?_; rintro e wX ⟨T1, t1, rfl, oT, hbX⟩; (try replace bN := bN.bl hbX);obtain ⟨hcX, hfX, hzX⟩ := bkn hbX W.heap.size hz; have hz := hzX; have Bw := Bw.tr hbX); (try go_wp2_with fail)) | (go_at_call 20; go_must (refine (toPrices_any (pa, pb, pc, pd) _).mono ?_; rintro e wX ⟨rfl, hbX⟩; (try replace oT := oT.below hbX); (try replace bN := bN.bl hbX);obtain ⟨hcX, hfX, hzX⟩ := bkn hbX W.heap.size hz; have hz := hzX; have Bw := Bw.tr hbX); (try go_wp2_with fail)) | (go_at_call 19; go_must (refine (CS _ _ (oT.rd lenInt (by decide))).mono ?_; rintro e wX ⟨W1, cW1, rfl, oR, hbX⟩; have hgR := hbX.size; replace oR := oR.mono (show W.heap.size ≤ _ by omega); (try replace bN := bN.bl hbX);obtain ⟨hcX, hfX, hzX⟩ := bkn hbX W.heap.size hz; have hz := hzX; have Bw := Bw.tr hbX); (try go_wp2_with fail)))
      refine hK.out _ _ ?_ (fun hHeld => ?_)
      · (try dsimp only); (try go_keep)
      clear hK K
      (try simp only [Act.put, List.setIfInBounds_toArray, List.set_cons_zero, List.set_cons_succ])
      refine tk 5 oFnExactCheapestTilingW5 rfl (by kernel_rfl) (v := ?_) (fun _ _ _ h => h) (Or.inl ⟨by rfl, ?_⟩) (by assumption) ?_
      rotate_left 1
      · (intro wS hSw; (try dsimp only at hSw); dsimp only [oFnExactCheapestTilingW5]; go_simp; (all_goals with_reducible rfl))
      simp only [oFnExactCheapestTilingW5, putL, List.set]
      refine tk 6 oFnExactCheapestTilingW6 rfl (by kernel_rfl) (v := ?_) (fun _ _ _ h => h) (Or.inl ⟨by rfl, ?_⟩) (by assumption) ?_
      rotate_left 1
      · (intro wS hSw; (try dsimp only at hSw); dsimp only [oFnExactCheapestTilingW6]; go_simp; (all_goals with_reducible rfl))
      simp only [oFnExactCheapestTilingW6, putL, List.set]
      refine tk 7 oFnExactCheapestTilingW7 rfl (by kernel_rfl) (v := ?_) (fun _ _ _ h => h) (Or.inl ⟨by rfl, ?_⟩) (by assumption) ?_
      rotate_left 1
      · (intro wS hSw; (try dsimp only at hSw); dsimp only [oFnExactCheapestTilingW7]; go_simp; (all_goals with_reducible rfl))
      simp only [oFnExactCheapestTilingW7, putL, List.set]
      refine tk 8 oFnExactCheapestTilingW8 rfl (by kernel_rfl) (v := ?_) (fun _ _ _ h => h) (Or.inl ⟨by rfl, ?_⟩) (by assumption) ?_
      rotate_left 1
      · (intro wS hSw; (try dsimp only at hSw); dsimp only [oFnExactCheapestTilingW8]; go_simp; (all_goals with_reducible rfl))
      simp only [oFnExactCheapestTilingW8, putL, List.set]
      refine tk 9 oFnExactCheapestTilingW9 rfl (by kernel_rfl) (v := ?_) (fun _ _ _ h => h) (Or.inl ⟨by rfl, ?_⟩) (by assumption) ?_
      rotate_left 1
      · (intro wS hSw; (try dsimp only at hSw); dsimp only [oFnExactCheapestTilingW9]; go_simp; (all_goals with_reducible rfl))
      simp only [oFnExactCheapestTilingW9, putL, List.set]
      refine wpAnyH_done (by kernel_rfl) ?_ _
      all_goals
        go_wp2_with fail
        go_meet
        exact ⟨0, _, _, rfl, rfl, oR, Bw⟩
    case rest =>
      obtain ⟨gW, W1, cW1, rfl, rfl, oW, hb⟩ := hcut
      clear z0_0 z0_1 z0_2 z0_3 z1_0
      replace oW := oW.mono B.size
      replace B := B.tr hb
      replace bA0 := bA0.bl hb
      replace bA1 := bA1.bl hb
      clear hb
      obtain ⟨w1, hw1⟩ : ∃ v, v = wc := ⟨_, rfl⟩
      rw [← hw1] at B bA0 bA1 oW ⊢
      clear hw1
      have z1_0 := bA1.cell 0
      simp only [List.getElem?_toArray, List.getElem?_cons_zero, List.getElem?_cons_succ] at z1_0
      go_wp2_with fail
      refine (toRegion_any _ rows _ (hr.below RE.stays B) hl).mono ?_
      rintro e w2 ⟨X1, x1, rfl, oX, hb⟩
      clear z1_0
      have ap_oW_oX := apart_of (fun k hk => (World.ownsRow.lt oW k hk).2) (fun k hk => (World.ownsRow.lt oX k hk).1) (Nat.le_refl _)
      replace oX := oX.mono B.size
      replace B := B.tr hb
      replace bA0 := bA0.bl hb
      replace bA1 := bA1.bl hb
      replace oW := oW.below hb
      clear hb
      replace B := B.al (.cells #[.slice X1 rows.length x1] 26)
      replace bA0 := bA0.alloc (.cells #[.slice X1 rows.length x1] 26)
      replace bA1 := bA1.alloc (.cells #[.slice X1 rows.length x1] 26)
      replace oW := oW.alloc (.cells #[.slice X1 rows.length x1] 26)
      replace oX := oX.alloc (.cells #[.slice X1 rows.length x1] 26)
      have bX := Blk.new_ w2 26 #[.slice X1 rows.length x1]
      go_upto_region 7 with (fail)
      obtain ⟨gX, hgX⟩ : ∃ g, g = w2.heap.size := ⟨_, rfl⟩
      rw [← hgX] at bX ⊢
      clear hgX
      obtain ⟨W, hW⟩ : ∃ W, W = w2.alloc (.cells #[.slice X1 rows.length x1] 26) := ⟨_, rfl⟩
      rw [← hW] at B bA0 bA1 oW oX bX ⊢
      clear hW
      have z0_0 := bA0.cell 0
      have z0_1 := bA0.cell 1
      have z0_2 := bA0.cell 2
      have z0_3 := bA0.cell 3
      simp only [List.getElem?_toArray, List.getElem?_cons_zero, List.getElem?_cons_succ] at z0_0 z0_1 z0_2 z0_3
      have x_0 := bX.cell 0
      simp only [List.getElem?_toArray, List.getElem?_cons_zero, List.getElem?_cons_succ] at x_0
      have hlA0 := bA0.lt
      have hlX := bX.lt
      go_cut [9, 10] (fun s9 s10 wx => ∃ (gN : Nat) (G1 : Option Addr) (cG1 : Nat), s9 = .slice G1 t.length cG1 ∧ s10 = .bool b ∧ OwnL 66 3 eDom W.heap.size wx (.slice G1 t.length cG1) t ∧ Below W.heap.size W wx)
      case first =>
        have Bw : Below W.heap.size W W.drew := (Below.refl _ _).drew
        have hz : W.heap.size ≤ W.drew.heap.size := by simp
        refine wp_region_held_drew (S := (fun w' => w'.cell? ⟨w.heap.size, 0, none⟩ = some (.int .i64 pa) ∧ w'.cell? ⟨w.heap.size, 1, none⟩ = some (.int .i64 pb) ∧ w'.cell? ⟨w.heap.size, 2, none⟩ = some (.int .i64 pc) ∧ w'.cell? ⟨w.heap.size, 3, none⟩ = some (.int .i64 pd) ∧ w'.cell? ⟨gX, 0, none⟩ = some (.slice X1 rows.length x1))) (by kernel_rfl) ?_ (fun hHeld => ?_)
        · (try dsimp only); (try go_keep)
        refine tk 0 oFnExactCheapestTilingW10 rfl (by kernel_rfl) (v := ?_) (fun _ _ _ h => h) (Or.inl ⟨by rfl, ?_⟩) (by assumption) ?_
        rotate_left 1
        · (intro wS hSw; (try dsimp only at hSw); dsimp only [oFnExactCheapestTilingW10]; go_simp; (all_goals with_reducible rfl))
        simp only [oFnExactCheapestTilingW10, putL, List.set]
        refine tk 2 oFnExactCheapestTilingW11 rfl (by kernel_rfl) (v := ?_) (fun _ _ _ h => h) (Or.inl ⟨by rfl, ?_⟩) (by assumption) ?_
        rotate_left 1
        · (intro wS hSw; (try dsimp only at hSw); dsimp only [oFnExactCheapestTilingW11]; go_simp; (all_goals with_reducible rfl))
        simp only [oFnExactCheapestTilingW11, putL, List.set]
        refine wpAnyH_ready (rs := [1]) (by kernel_rfl) (by simp) ?_
        refine AllReadyH.cons (o := oFnExactCheapestTilingW12) rfl (fun K hK => ?_) AllReadyH.nil
        dsimp only [oFnExactCheapestTilingW12]
        go_simp
        (first | (go_at_call 20; go_must (refine (toPrices_any (pa, pb, pc, pd) _).mono ?_; rintro e wX ⟨rfl, hbX⟩; (try replace oT := oT.below hbX); (try replace bN := bN.bl hbX);obtain ⟨hcX, hfX, hzX⟩ := bkn hbX W.heap.size hz; have hz := hzX; have Bw := Bw.tr hbX); (try go_wp2_with fail)) | (go_at_call 21; go_must (refine (CI _ _ ((oX.below Bw).rd lenInt (by decide))).mono ?_; rintro e wX ⟨G1, cG1, rfl, oR, hbX⟩; have hgR := hbX.size; replace oR := oR.mono (show W.heap.size ≤ _ by omega); (try replace bN := bN.bl hbX);obtain ⟨hcX, hfX, hzX⟩ := bkn hbX W.heap.size hz; have hz := hzX; have Bw := Bw.tr hbX); (try go_wp2_with fail)))
        refine hK.out _ _ ?_ (fun hHeld => ?_)
        · (try dsimp only); (try go_keep)
        clear hK K
        (try simp only [Act.put, List.setIfInBounds_toArray, List.set_cons_zero, List.set_cons_succ])
        refine wpAnyH_ready (rs := [3]) (by kernel_rfl) (by simp) ?_
        refine AllReadyH.cons (o := oFnExactCheapestTilingW13) rfl (fun K hK => ?_) AllReadyH.nil
        dsimp only [oFnExactCheapestTilingW13]
        go_simp
        (first | (go_at_call 20; go_must (refine (toPrices_any (pa, pb, pc, pd) _).mono ?_; rintro e wX ⟨rfl, hbX⟩; (try replace oT := oT.below hbX); (try replace bN := bN.bl hbX);obtain ⟨hcX, hfX, hzX⟩ := bkn hbX W.heap.size hz; have hz := hzX; have Bw := Bw.tr hbX); (try go_wp2_with fail)) | (go_at_call 21; go_must (refine (CI _ _ ((oX.below Bw).rd lenInt (by decide))).mono ?_; rintro e wX ⟨G1, cG1, rfl, oR, hbX⟩; have hgR := hbX.size; replace oR := oR.mono (show W.heap.size ≤ _ by omega); (try replace bN := bN.bl hbX);obtain ⟨hcX, hfX, hzX⟩ := bkn hbX W.heap.size hz; have hz := hzX; have Bw := Bw.tr hbX); (try go_wp2_with fail)))
        refine hK.out _ _ ?_ (fun hHeld => ?_)
        · (try dsimp only); (try go_keep)
        clear hK K
        (try simp only [Act.put, List.setIfInBounds_toArray, List.set_cons_zero, List.set_cons_succ])
        refine tk 4 oFnExactCheapestTilingW14 rfl (by kernel_rfl) (v := ?_) (fun _ _ _ h => h) (Or.inl ⟨by rfl, ?_⟩) (by assumption) ?_
        rotate_left 1
        · (intro wS hSw; (try dsimp only at hSw); dsimp only [oFnExactCheapestTilingW14]; go_simp; (all_goals with_reducible rfl))
        simp only [oFnExactCheapestTilingW14, putL, List.set]
        refine tk 5 oFnExactCheapestTilingW15 rfl (by kernel_rfl) (v := ?_) (fun _ _ _ h => h) (Or.inl ⟨by rfl, ?_⟩) (by assumption) ?_
        rotate_left 1
        · (intro wS hSw; (try dsimp only at hSw); dsimp only [oFnExactCheapestTilingW15]; go_simp; (all_goals with_reducible rfl))
        simp only [oFnExactCheapestTilingW15, putL, List.set]
        refine tk 6 oFnExactCheapestTilingW16 rfl (by kernel_rfl) (v := ?_) (fun _ _ _ h => h) (Or.inl ⟨by rfl, ?_⟩) (by assumption) ?_
        rotate_left 1
        · (intro wS hSw; (try dsimp only at hSw); dsimp only [oFnExactCheapestTilingW16]; go_simp; (all_goals with_reducible rfl))
        simp only [oFnExactCheapestTilingW16, putL, List.set]
        refine tk 7 oFnExactCheapestTilingW17 rfl (by kernel_rfl) (v := ?_) (fun _ _ _ h => h) (Or.inl ⟨by rfl, ?_⟩) (by assumption) ?_
        rotate_left 1
        · (intro wS hSw; (try dsimp only at hSw); dsimp only [oFnExactCheapestTilingW17]; go_simp; (all_goals with_reducible rfl))
        simp only [oFnExactCheapestTilingW17, putL, List.set]
        refine tk 8 oFnExactCheapestTilingW18 rfl (by kernel_rfl) (v := ?_) (fun _ _ _ h => h) (Or.inl ⟨by rfl, ?_⟩) (by assumption) ?_
        rotate_left 1
        · (intro wS hSw; (try dsimp only at hSw); dsimp only [oFnExactCheapestTilingW18]; go_simp; (all_goals with_reducible rfl))
        simp only [oFnExactCheapestTilingW18, putL, List.set]
        refine wpAnyH_done (by kernel_rfl) ?_ _
        all_goals
          go_wp2_with fail
          go_meet
          exact ⟨0, _, _, rfl, rfl, oR, Bw⟩
      case rest =>
        obtain ⟨gG, G1, cG1, rfl, rfl, oG, hb⟩ := hcut
        clear z0_0 z0_1 z0_2 z0_3 x_0
        have ap_oX_oG := apart_of (fun k hk => (World.ownsRow.lt oX k hk).2) (fun k hk => (World.ownsRow.lt oG k hk).1) (Nat.le_refl _)
        have ap_oW_oG := apart_of (fun k hk => (World.ownsRow.lt oW k hk).2) (fun k hk => (World.ownsRow.lt oG k hk).1) (Nat.le_refl _)
        replace oG := oG.mono B.size
        replace B := B.tr hb
        replace bA0 := bA0.bl hb
        replace bA1 := bA1.bl hb
        replace oW := oW.below hb
        replace oX := oX.below hb
        replace bX := bX.bl hb
        clear hb
        obtain ⟨w3, hw3⟩ : ∃ v, v = wc := ⟨_, rfl⟩
        rw [← hw3] at B bA0 bA1 oW oX bX oG ⊢
        clear hw3
        go_wp2_with fail
        refine (eqDomsL _ _ t _ (oG.rd lenDom (by decide)) (oW.rd lenDom (by decide))).mono ?_
        rintro e w4 ⟨rfl, hb⟩
        replace B := B.tr hb
        replace bA0 := bA0.bl hb
        replace bA1 := bA1.bl hb
        replace oW := oW.below hb
        replace oX := oX.below hb
        replace bX := bX.bl hb
        replace oG := oG.below hb
        clear hb
        go_upto_region 10 with (fail)
        obtain ⟨W, hW⟩ : ∃ W, W = w4 := ⟨_, rfl⟩
        rw [← hW] at B bA0 bA1 oW oX bX oG ⊢
        clear hW
        have z_0 := bA1.cell 0
        simp only [List.getElem?_toArray, List.getElem?_cons_zero, List.getElem?_cons_succ] at z_0
        have x_0 := bX.cell 0
        simp only [List.getElem?_toArray, List.getElem?_cons_zero, List.getElem?_cons_succ] at x_0
        have hlA1 := bA1.lt
        have hlX := bX.lt
        have Bw : Below W.heap.size W W.drew := (Below.refl _ _).drew
        have hz : W.heap.size ≤ W.drew.heap.size := by simp
        refine wp_region_held_drew (S := (fun w' => w'.cell? ⟨gX, 0, none⟩ = some (.slice X1 rows.length x1) ∧ w'.cell? ⟨w.heap.size + 1, 0, none⟩ = some (.slice P1 rows.length q1))) (by kernel_rfl) ?_ (fun hHeld => ?_)
        · (try dsimp only); (try go_keep)
        refine tk 0 oFnExactCheapestTilingW19 rfl (by kernel_rfl) (v := ?_) (fun _ _ _ h => h) (Or.inl ⟨by rfl, ?_⟩) (by assumption) ?_
        rotate_left 1
        · (intro wS hSw; (try dsimp only at hSw); dsimp only [oFnExactCheapestTilingW19]; go_simp; (all_goals with_reducible rfl))
        simp only [oFnExactCheapestTilingW19, putL, List.set]
        refine tk 1 oFnExactCheapestTilingW20 rfl (by kernel_rfl) (v := ?_) (fun _ _ _ h => h) (Or.inl ⟨by rfl, ?_⟩) (by assumption) ?_
        rotate_left 1
        · (intro wS hSw; (try dsimp only at hSw); dsimp only [oFnExactCheapestTilingW20]; go_simp; (all_goals with_reducible rfl))
        simp only [oFnExactCheapestTilingW20, putL, List.set]
        refine wpAnyH_ready (rs := [2]) (by kernel_rfl) (by simp) ?_
        refine AllReadyH.cons (o := oFnExactCheapestTilingW21) rfl (fun K hK => ?_) AllReadyH.nil
        dsimp only [oFnExactCheapestTilingW21]
        go_simp
        (first | (go_at_call 10; go_must (refine (toRegion_any _ rows _ (hr.below RE.stays (B.tr Bw)) hl).mono ?_; rintro e wX ⟨T1, t1, rfl, oT, hbX⟩; obtain ⟨hcX, hfX, hzX⟩ := bkn hbX W.heap.size hz; have hz := hzX; have Bw := Bw.tr hbX); (try go_wp2_with fail)) | (go_at_call 13; go_must (refine (eqRegion_same _ _ rows _ ((oX.below Bw).rd lenInt (by decide)) (oT.rd lenInt (by decide))).mono ?_; rintro e wX ⟨rfl, hbX⟩; obtain ⟨hcX, hfX, hzX⟩ := bkn hbX W.heap.size hz; have hz := hzX; have Bw := Bw.tr hbX); (try go_wp2_with fail)))
        refine hK.out _ _ ?_ (fun hHeld => ?_)
        · (try dsimp only); (try go_keep)
        clear hK K
        (try simp only [Act.put, List.setIfInBounds_toArray, List.set_cons_zero, List.set_cons_succ])
        refine wpAnyH_ready (rs := [3]) (by kernel_rfl) (by simp) ?_
        refine AllReadyH.cons (o := oFnExactCheapestTilingW22) rfl (fun K hK => ?_) AllReadyH.nil
        dsimp only [oFnExactCheapestTilingW22]
        go_simp
        (first | (go_at_call 10; go_must (refine (toRegion_any _ rows _ (hr.below RE.stays (B.tr Bw)) hl).mono ?_; rintro e wX ⟨T1, t1, rfl, oT, hbX⟩; obtain ⟨hcX, hfX, hzX⟩ := bkn hbX W.heap.size hz; have hz := hzX; have Bw := Bw.tr hbX); (try go_wp2_with fail)) | (go_at_call 13; go_must (refine (eqRegion_same _ _ rows _ ((oX.below Bw).rd lenInt (by decide)) (oT.rd lenInt (by decide))).mono ?_; rintro e wX ⟨rfl, hbX⟩; obtain ⟨hcX, hfX, hzX⟩ := bkn hbX W.heap.size hz; have hz := hzX; have Bw := Bw.tr hbX); (try go_wp2_with fail)))
        refine hK.out _ _ ?_ (fun hHeld => ?_)
        · (try dsimp only); (try go_keep)
        clear hK K
        (try simp only [Act.put, List.setIfInBounds_toArray, List.set_cons_zero, List.set_cons_succ])
        refine tk 4 oFnExactCheapestTilingW23 rfl (by kernel_rfl) (v := ?_) (fun _ _ _ h => h) (Or.inl ⟨by rfl, ?_⟩) (by assumption) ?_
        rotate_left 1
        · (intro wS hSw; (try dsimp only at hSw); dsimp only [oFnExactCheapestTilingW23]; go_simp; (all_goals with_reducible rfl))
        simp only [oFnExactCheapestTilingW23, putL, List.set]
        refine wpAnyH_done (by kernel_rfl) ?_ _
        clear z_0 x_0
        replace B := B.tr Bw
        replace bA0 := bA0.bl Bw
        replace bA1 := bA1.bl Bw
        replace oW := oW.below Bw
        replace oX := oX.below Bw
        replace bX := bX.bl Bw
        replace oG := oG.below Bw
        clear Bw hz oT
        have x_0 := bX.cell 0
        simp only [List.getElem?_toArray, List.getElem?_cons_zero, List.getElem?_cons_succ] at x_0
        have hkm0 : ¬ ((1 : Int) + (rows.length : Int) < 0) := by omega
        have hmp : ¬ ((1 : Int) + 3 * (t.length : Int) < 0) := by omega
        go_wp2_with fail
        refine (markRegion_any _ rows 1 _ _ oX (by decide) (by decide) (by omega)).mono ?_
        rintro e w6 ⟨rfl, oM, hg⟩
        clear x_0
        have hG := Grown.of hg
        replace bA0 := bA0.grownS hG (oX.apart bA0 (by decide))
        replace bA1 := bA1.grownS hG (oX.apart bA1 (by decide))
        replace oW := oW.grownS hG (ap_oW_oX)
        replace bX := bX.grownS hG (oX.apart bX (by decide))
        replace oG := oG.grownS hG (fun k hk hx => ap_oX_oG k hx hk)
        replace B := Below.grownS B hG B.size (fun k hk => (World.ownsRow.lt oX k hk).1)
        clear hG oM
        clear oX bX
        go_wp2_with fail
        refine (eqDomsL _ _ t _ (oG.rd lenDom (by decide)) (oW.rd lenDom (by decide))).mono ?_
        rintro e w7 ⟨rfl, hb⟩
        replace B := B.tr hb
        replace bA0 := bA0.bl hb
        replace bA1 := bA1.bl hb
        replace oW := oW.below hb
        replace oG := oG.below hb
        clear hb
        go_wp2_with fail
        refine (markDoms_any _ t 1 _ _ oG (by decide) (by decide) ht).mono ?_
        rintro e w8 ⟨rfl, oM, hg⟩
        have hG := Grown.of hg
        replace bA0 := bA0.grownS hG (oG.apart bA0 (by decide))
        replace bA1 := bA1.grownS hG (oG.apart bA1 (by decide))
        replace oW := oW.grownS hG (ap_oW_oG)
        replace B := Below.grownS B hG B.size (fun k hk => (World.ownsRow.lt oG k hk).1)
        clear hG oG
        have oG := oM
        clear oM
        go_wp2_with fail
        refine (heldDoms_any _ 1 t.length _ (OwnL.rd (l := marksDom 1 t.length) oG lenDom (by decide)) (by decide) (by decide) ht).mono ?_
        rintro e w9 ⟨rfl, rfl⟩
        go_upto_region 24 with (fail)
        obtain ⟨W, hW⟩ : ∃ W, W = w8 := ⟨_, rfl⟩
        rw [← hW] at B bA0 bA1 oW oG ⊢
        clear hW
        have z0_0 := bA0.cell 0
        have z0_1 := bA0.cell 1
        have z0_2 := bA0.cell 2
        have z0_3 := bA0.cell 3
        simp only [List.getElem?_toArray, List.getElem?_cons_zero, List.getElem?_cons_succ] at z0_0 z0_1 z0_2 z0_3
        have z1_0 := bA1.cell 0
        simp only [List.getElem?_toArray, List.getElem?_cons_zero, List.getElem?_cons_succ] at z1_0
        have hlA0 := bA0.lt
        have hlA1 := bA1.lt
        go_cut [14, 15] (fun s14 s15 wx => ∃ (gN : Nat) (H1 : Option Addr) (cH1 : Nat), s14 = .slice H1 t.length cH1 ∧ s15 = .bool b ∧ OwnL 66 3 eDom W.heap.size wx (.slice H1 t.length cH1) t ∧ Below W.heap.size W wx)
        case first =>
          have Bw : Below W.heap.size W W.drew := (Below.refl _ _).drew
          have hz : W.heap.size ≤ W.drew.heap.size := by simp
          refine wp_region_held_drew (S := (fun w' => w'.cell? ⟨w.heap.size, 0, none⟩ = some (.int .i64 pa) ∧ w'.cell? ⟨w.heap.size, 1, none⟩ = some (.int .i64 pb) ∧ w'.cell? ⟨w.heap.size, 2, none⟩ = some (.int .i64 pc) ∧ w'.cell? ⟨w.heap.size, 3, none⟩ = some (.int .i64 pd) ∧ w'.cell? ⟨w.heap.size + 1, 0, none⟩ = some (.slice P1 rows.length q1))) (by kernel_rfl) ?_ (fun hHeld => ?_)
          · (try dsimp only); (try go_keep)
          refine tk 0 oFnExactCheapestTilingW24 rfl (by kernel_rfl) (v := ?_) (fun _ _ _ h => h) (Or.inl ⟨by rfl, ?_⟩) (by assumption) ?_
          rotate_left 1
          · (intro wS hSw; (try dsimp only at hSw); dsimp only [oFnExactCheapestTilingW24]; go_simp; (all_goals with_reducible rfl))
          simp only [oFnExactCheapestTilingW24, putL, List.set]
          refine tk 2 oFnExactCheapestTilingW25 rfl (by kernel_rfl) (v := ?_) (fun _ _ _ h => h) (Or.inl ⟨by rfl, ?_⟩) (by assumption) ?_
          rotate_left 1
          · (intro wS hSw; (try dsimp only at hSw); dsimp only [oFnExactCheapestTilingW25]; go_simp; (all_goals with_reducible rfl))
          simp only [oFnExactCheapestTilingW25, putL, List.set]
          refine wpAnyH_ready (rs := [1]) (by kernel_rfl) (by simp) ?_
          refine AllReadyH.cons (o := oFnExactCheapestTilingW26) rfl (fun K hK => ?_) AllReadyH.nil
          dsimp only [oFnExactCheapestTilingW26]
          go_simp
          (first | (go_at_call 10; go_must (refine (toRegion_any _ rows _ (hr.below RE.stays (B.tr Bw)) hl).mono ?_; rintro e wX ⟨T1, t1, rfl, oT, hbX⟩; (try replace bN := bN.bl hbX);obtain ⟨hcX, hfX, hzX⟩ := bkn hbX W.heap.size hz; have hz := hzX; have Bw := Bw.tr hbX); (try go_wp2_with fail)) | (go_at_call 20; go_must (refine (toPrices_any (pa, pb, pc, pd) _).mono ?_; rintro e wX ⟨rfl, hbX⟩; (try replace oT := oT.below hbX); (try replace bN := bN.bl hbX);obtain ⟨hcX, hfX, hzX⟩ := bkn hbX W.heap.size hz; have hz := hzX; have Bw := Bw.tr hbX); (try go_wp2_with fail)) | (go_at_call 21; go_must (refine (CI _ _ (oT.rd lenInt (by decide))).mono ?_; rintro e wX ⟨H1, cH1, rfl, oR, hbX⟩; have hgR := hbX.size; replace oR := oR.mono (show W.heap.size ≤ _ by omega); (try replace bN := bN.bl hbX);obtain ⟨hcX, hfX, hzX⟩ := bkn hbX W.heap.size hz; have hz := hzX; have Bw := Bw.tr hbX); (try go_wp2_with fail)))
          refine hK.out _ _ ?_ (fun hHeld => ?_)
          · (try dsimp only); (try go_keep)
          clear hK K
          (try simp only [Act.put, List.setIfInBounds_toArray, List.set_cons_zero, List.set_cons_succ])
          refine wpAnyH_ready (rs := [3]) (by kernel_rfl) (by simp) ?_
          refine AllReadyH.cons (o := oFnExactCheapestTilingW27) rfl (fun K hK => ?_) AllReadyH.nil
          dsimp only [oFnExactCheapestTilingW27]
          go_simp
          (first | (go_at_call 10; go_must (refine (toRegion_any _ rows _ (hr.below RE.stays (B.tr Bw)) hl).mono ?_; rintro e wX ⟨T1, t1, rfl, oT, hbX⟩; (try replace bN := bN.bl hbX);obtain ⟨hcX, hfX, hzX⟩ := bkn hbX W.heap.size hz; have hz := hzX; have Bw := Bw.tr hbX); (try go_wp2_with fail)) | (go_at_call 20; go_must (refine (toPrices_any (pa, pb, pc, pd) _).mono ?_; rintro e wX ⟨rfl, hbX⟩; (try replace oT := oT.below hbX); (try replace bN := bN.bl hbX);obtain ⟨hcX, hfX, hzX⟩ := bkn hbX W.heap.size hz; have hz := hzX; have Bw := Bw.tr hbX); (try go_wp2_with fail)) | (go_at_call 21; go_must (refine (CI _ _ (oT.rd lenInt (by decide))).mono ?_; rintro e wX ⟨H1, cH1, rfl, oR, hbX⟩; have hgR := hbX.size; replace oR := oR.mono (show W.heap.size ≤ _ by omega); (try replace bN := bN.bl hbX);obtain ⟨hcX, hfX, hzX⟩ := bkn hbX W.heap.size hz; have hz := hzX; have Bw := Bw.tr hbX); (try go_wp2_with fail)))
          refine hK.out _ _ ?_ (fun hHeld => ?_)
          · (try dsimp only); (try go_keep)
          clear hK K
          (try simp only [Act.put, List.setIfInBounds_toArray, List.set_cons_zero, List.set_cons_succ])
          refine wpAnyH_ready (rs := [4]) (by kernel_rfl) (by simp) ?_
          refine AllReadyH.cons (o := oFnExactCheapestTilingW28) rfl (fun K hK => ?_) AllReadyH.nil
          dsimp only [oFnExactCheapestTilingW28]
          go_simp
          (first | (go_at_call 10; go_must (refine (toRegion_any _ rows _ (hr.below RE.stays (B.tr Bw)) hl).mono ?_; rintro e wX ⟨T1, t1, rfl, oT, hbX⟩; (try replace bN := bN.bl hbX);obtain ⟨hcX, hfX, hzX⟩ := bkn hbX W.heap.size hz; have hz := hzX; have Bw := Bw.tr hbX); (try go_wp2_with fail)) | (go_at_call 20; go_must (refine (toPrices_any (pa, pb, pc, pd) _).mono ?_; rintro e wX ⟨rfl, hbX⟩; (try replace oT := oT.below hbX); (try replace bN := bN.bl hbX);obtain ⟨hcX, hfX, hzX⟩ := bkn hbX W.heap.size hz; have hz := hzX; have Bw := Bw.tr hbX); (try go_wp2_with fail)) | (go_at_call 21; go_must (refine (CI _ _ (oT.rd lenInt (by decide))).mono ?_; rintro e wX ⟨H1, cH1, rfl, oR, hbX⟩; have hgR := hbX.size; replace oR := oR.mono (show W.heap.size ≤ _ by omega); (try replace bN := bN.bl hbX);obtain ⟨hcX, hfX, hzX⟩ := bkn hbX W.heap.size hz; have hz := hzX; have Bw := Bw.tr hbX); (try go_wp2_with fail)))
          refine hK.out _ _ ?_ (fun hHeld => ?_)
          · (try dsimp only); (try go_keep)
          clear hK K
          (try simp only [Act.put, List.setIfInBounds_toArray, List.set_cons_zero, List.set_cons_succ])
          refine tk 5 oFnExactCheapestTilingW29 rfl (by kernel_rfl) (v := ?_) (fun _ _ _ h => h) (Or.inl ⟨by rfl, ?_⟩) (by assumption) ?_
          rotate_left 1
          · (intro wS hSw; (try dsimp only at hSw); dsimp only [oFnExactCheapestTilingW29]; go_simp; (all_goals with_reducible rfl))
          simp only [oFnExactCheapestTilingW29, putL, List.set]
          refine tk 6 oFnExactCheapestTilingW30 rfl (by kernel_rfl) (v := ?_) (fun _ _ _ h => h) (Or.inl ⟨by rfl, ?_⟩) (by assumption) ?_
          rotate_left 1
          · (intro wS hSw; (try dsimp only at hSw); dsimp only [oFnExactCheapestTilingW30]; go_simp; (all_goals with_reducible rfl))
          simp only [oFnExactCheapestTilingW30, putL, List.set]
          refine tk 7 oFnExactCheapestTilingW31 rfl (by kernel_rfl) (v := ?_) (fun _ _ _ h => h) (Or.inl ⟨by rfl, ?_⟩) (by assumption) ?_
          rotate_left 1
          · (intro wS hSw; (try dsimp only at hSw); dsimp only [oFnExactCheapestTilingW31]; go_simp; (all_goals with_reducible rfl))
          simp only [oFnExactCheapestTilingW31, putL, List.set]
          refine tk 8 oFnExactCheapestTilingW32 rfl (by kernel_rfl) (v := ?_) (fun _ _ _ h => h) (Or.inl ⟨by rfl, ?_⟩) (by assumption) ?_
          rotate_left 1
          · (intro wS hSw; (try dsimp only at hSw); dsimp only [oFnExactCheapestTilingW32]; go_simp; (all_goals with_reducible rfl))
          simp only [oFnExactCheapestTilingW32, putL, List.set]
          refine tk 9 oFnExactCheapestTilingW33 rfl (by kernel_rfl) (v := ?_) (fun _ _ _ h => h) (Or.inl ⟨by rfl, ?_⟩) (by assumption) ?_
          rotate_left 1
          · (intro wS hSw; (try dsimp only at hSw); dsimp only [oFnExactCheapestTilingW33]; go_simp; (all_goals with_reducible rfl))
          simp only [oFnExactCheapestTilingW33, putL, List.set]
          refine wpAnyH_done (by kernel_rfl) ?_ _
          all_goals
            go_wp2_with fail
            go_meet
            exact ⟨0, _, _, rfl, rfl, oR, Bw⟩
        case rest =>
          obtain ⟨gH, H1, cH1, rfl, rfl, oH, hb⟩ := hcut
          clear z0_0 z0_1 z0_2 z0_3 z1_0
          replace oH := oH.mono B.size
          replace B := B.tr hb
          replace bA0 := bA0.bl hb
          replace bA1 := bA1.bl hb
          replace oW := oW.below hb
          replace oG := oG.below hb
          clear hb
          obtain ⟨w10, hw10⟩ : ∃ v, v = wc := ⟨_, rfl⟩
          rw [← hw10] at B bA0 bA1 oW oG oH ⊢
          clear hw10
          go_wp2_with fail
          refine (eqDomsL _ _ t _ (oH.rd lenDom (by decide)) (oW.rd lenDom (by decide))).mono ?_
          rintro e w11 ⟨rfl, hb⟩
          replace B := B.tr hb
          replace bA0 := bA0.bl hb
          replace bA1 := bA1.bl hb
          replace oW := oW.below hb
          replace oG := oG.below hb
          replace oH := oH.below hb
          clear hb
          go_wp2_with fail
          refine (heldDoms_any _ 1 t.length _ (OwnL.rd (l := marksDom 1 t.length) oG lenDom (by decide)) (by decide) (by decide) ht).mono ?_
          rintro e w12 ⟨rfl, rfl⟩
          go_wp2
          go_ret
          exact ⟨rfl, B⟩
  · skip
    go_enter Try.func5, Try.ntmps5
    go_wp2_with fail
    refine (szRegion_any _ rows _ _ (hr.below RE.stays B) (by omega) (by omega)).mono ?_
    rintro e w0 ⟨rfl, hb⟩
    rw [szOf_no (by omega)]
    go_wp2
    go_ret
    exact ⟨rfl, B.tr hb⟩
end Go.Proofs.Ytmmeomjclfgljaa
