/- FormatWorkshop of the reference: the walk. Conditions: sizes that the laws let by. -/
import Derived.Test.YtklgbjgjojelbaaGreatDoorFmtWk
namespace Go.Proofs.YtklgbjgjojelbaaGreatDoor
open Go.ChangeShapes Go.WideShapes Go.ChangeAt Go.RowKit
set_option linter.unusedVariables false
set_option linter.unusedSimpArgs false

abbrev oFmtWkS0 : Oper := { dst := some 15, op := Go.Op.move (Go.Operand.tmp 3), type := 32, pos := "l39_acts.go:76", after := #[], guard := none }
abbrev oFmtWkS1 : Oper := { dst := some 16, op := Go.Op.fieldAddr 40 (Go.Operand.tmp 1) 0, type := 0, pos := "l39_acts.go:76", after := #[], guard := none }
abbrev oFmtWkS2 : Oper := { dst := some 17, op := Go.Op.fieldAddr 38 (Go.Operand.tmp 16) 3, type := 0, pos := "l39_acts.go:76", after := #[{ on := 1, ground := Go.Ground.data }], guard := none }
abbrev oFmtWkS3 : Oper := { dst := some 18, op := Go.Op.load 36 (Go.Operand.tmp 17), type := 36, pos := "l39_acts.go:76", after := #[{ on := 2, ground := Go.Ground.data }], guard := none }
abbrev oFmtWkS4 : Oper := { dst := some 19, op := Go.Op.call { callee := Go.Callee.builtin Go.Builtin.len, args := #[Go.Operand.tmp 18], argTypes := #[36] }, type := 3, pos := "l39_acts.go:76", after := #[{ on := 3, ground := Go.Ground.data }], guard := none }
abbrev oFmtWkS5 : Oper := { dst := some 22, op := Go.Op.fieldAddr 40 (Go.Operand.tmp 1) 1, type := 0, pos := "l39_acts.go:76", after := #[], guard := none }
abbrev oFmtWkS6 : Oper := { dst := some 23, op := Go.Op.load 3 (Go.Operand.tmp 22), type := 3, pos := "l39_acts.go:76", after := #[{ on := 7, ground := Go.Ground.data }], guard := none }
abbrev oFmtWkS7 : Oper := { dst := some 26, op := Go.Op.fieldAddr 40 (Go.Operand.tmp 1) 2, type := 0, pos := "l39_acts.go:76", after := #[], guard := none }
abbrev oFmtWkS8 : Oper := { dst := some 27, op := Go.Op.load 3 (Go.Operand.tmp 26), type := 3, pos := "l39_acts.go:76", after := #[{ on := 11, ground := Go.Ground.data }], guard := none }
abbrev oFmtWkS9 : Oper := { dst := some 30, op := Go.Op.fieldAddr 40 (Go.Operand.tmp 1) 3, type := 0, pos := "l39_acts.go:76", after := #[], guard := none }
abbrev oFmtWkS10 : Oper := { dst := some 31, op := Go.Op.load 3 (Go.Operand.tmp 30), type := 3, pos := "l39_acts.go:76", after := #[{ on := 15, ground := Go.Ground.data }], guard := none }
abbrev oFmtWkS11 : Oper := { dst := some 20, op := Go.Op.call { callee := Go.Callee.value (Go.Operand.func 16), args := #[Go.Operand.tmp 19], argTypes := #[3] }, type := 9, pos := "l39_acts.go:76", after := #[{ on := 4, ground := Go.Ground.data }], guard := none }
abbrev oFmtWkS12 : Oper := { dst := some 21, op := Go.Op.binOp Go.BinOp.add 9 (Go.Operand.const (Go.Value.string { data := #[102, 108, 105, 112, 115, 32] })) (Go.Operand.tmp 20) 9, type := 9, pos := "l39_acts.go:76", after := #[{ on := 5, ground := Go.Ground.data }], guard := none }
abbrev oFmtWkS13 : Oper := { dst := some 24, op := Go.Op.call { callee := Go.Callee.value (Go.Operand.func 16), args := #[Go.Operand.tmp 23], argTypes := #[3] }, type := 9, pos := "l39_acts.go:76", after := #[{ on := 8, ground := Go.Ground.data }, { on := 5, ground := Go.Ground.chain }], guard := none }
abbrev oFmtWkS14 : Oper := { dst := some 25, op := Go.Op.binOp Go.BinOp.add 9 (Go.Operand.const (Go.Value.string { data := #[115, 116, 111, 99, 107, 32] })) (Go.Operand.tmp 24) 9, type := 9, pos := "l39_acts.go:76", after := #[{ on := 9, ground := Go.Ground.data }], guard := none }
abbrev oFmtWkS15 : Oper := { dst := some 28, op := Go.Op.call { callee := Go.Callee.value (Go.Operand.func 16), args := #[Go.Operand.tmp 27], argTypes := #[3] }, type := 9, pos := "l39_acts.go:76", after := #[{ on := 12, ground := Go.Ground.data }, { on := 9, ground := Go.Ground.chain }], guard := none }
abbrev oFmtWkS16 : Oper := { dst := some 29, op := Go.Op.binOp Go.BinOp.add 9 (Go.Operand.const (Go.Value.string { data := #[115, 112, 101, 110, 116, 32] })) (Go.Operand.tmp 28) 9, type := 9, pos := "l39_acts.go:76", after := #[{ on := 13, ground := Go.Ground.data }], guard := none }
abbrev oFmtWkS17 : Oper := { dst := some 32, op := Go.Op.call { callee := Go.Callee.value (Go.Operand.func 16), args := #[Go.Operand.tmp 31], argTypes := #[3] }, type := 9, pos := "l39_acts.go:76", after := #[{ on := 16, ground := Go.Ground.data }, { on := 13, ground := Go.Ground.chain }], guard := none }
abbrev oFmtWkS18 : Oper := { dst := some 33, op := Go.Op.binOp Go.BinOp.add 9 (Go.Operand.const (Go.Value.string { data := #[114, 101, 112, 97, 105, 114, 115, 32] })) (Go.Operand.tmp 32) 9, type := 9, pos := "l39_acts.go:76", after := #[{ on := 17, ground := Go.Ground.data }], guard := none }
abbrev oFmtWkS19 : Oper := { dst := some 34, op := Go.Op.buildSlice 32 4 #[(0, Go.Operand.tmp 21), (1, Go.Operand.tmp 25), (2, Go.Operand.tmp 29), (3, Go.Operand.tmp 33)], type := 32, pos := "l39_acts.go:76", after := #[{ on := 6, ground := Go.Ground.data }, { on := 10, ground := Go.Ground.data }, { on := 14, ground := Go.Ground.data }, { on := 18, ground := Go.Ground.data }], guard := none }
abbrev oFmtWkS20 : Oper := { dst := some 35, op := Go.Op.call { callee := Go.Callee.builtin Go.Builtin.append, args := #[Go.Operand.tmp 15, Go.Operand.tmp 34], argTypes := #[32, 32] }, type := 32, pos := "l39_acts.go:76", after := #[{ on := 0, ground := Go.Ground.data }, { on := 19, ground := Go.Ground.data }, { on := 17, ground := Go.Ground.chain }], guard := none }
abbrev oFmtWkS21 : Oper := { dst := some 2, op := Go.Op.assign (Go.Operand.tmp 35), type := 32, pos := "l39_acts.go:76", after := #[{ on := 20, ground := Go.Ground.data }, { on := 20, ground := Go.Ground.chain }, { on := 0, ground := Go.Ground.phase }, { on := 1, ground := Go.Ground.phase }, { on := 2, ground := Go.Ground.phase }, { on := 3, ground := Go.Ground.phase }, { on := 4, ground := Go.Ground.phase }, { on := 5, ground := Go.Ground.phase }, { on := 6, ground := Go.Ground.phase }, { on := 7, ground := Go.Ground.phase }, { on := 8, ground := Go.Ground.phase }, { on := 9, ground := Go.Ground.phase }, { on := 10, ground := Go.Ground.phase }, { on := 11, ground := Go.Ground.phase }, { on := 12, ground := Go.Ground.phase }, { on := 13, ground := Go.Ground.phase }, { on := 14, ground := Go.Ground.phase }, { on := 15, ground := Go.Ground.phase }, { on := 16, ground := Go.Ground.phase }, { on := 17, ground := Go.Ground.phase }, { on := 18, ground := Go.Ground.phase }, { on := 19, ground := Go.Ground.phase }, { on := 20, ground := Go.Ground.phase }], guard := none }
set_option maxHeartbeats 4000000 in
set_option maxRecDepth 100000 in
theorem fmtWkS_any (v1 v2 v3 v4 : Value) (rows : List Int) (f n : List Dm) (fl : List Cl) (s p r : Int) (w : World) (h1 : Rd 1 RInt w v1 rows) (h2 : Rd 3 RDom w v2 f) (h3 : Rd 3 RDom w v3 n) (h4 : Rd 2 RPair w v4 fl) (hs : Small4 (rows, f, n, fl)) :
    Calls Tryz.prog 5 #[.agg #[v1, v2, v3, v4, .int .i64 s, .int .i64 p, .int .i64 r]] w (RetOwn 9 1 eStr (wkTexts ((rows, f, n, fl), s, p, r)) w) := by
  obtain ⟨A1, c1, rfl, _, _⟩ := h1.form
  obtain ⟨A2, c2, rfl, _, _⟩ := h2.form
  obtain ⟨A3, c3, rfl, _, _⟩ := h3.form
  obtain ⟨A4, c4, rfl, _, _⟩ := h4.form
  have B0 := (Below.refl w.heap.size w).al (.cells #[.slice A1 rows.length c1, .slice A2 f.length c2, .slice A3 n.length c3, .slice A4 fl.length c4, .int .i64 s, .int .i64 p, .int .i64 r] 40)
  have bP := Blk.new_ w 40 #[.slice A1 rows.length c1, .slice A2 f.length c2, .slice A3 n.length c3, .slice A4 fl.length c4, .int .i64 s, .int .i64 p, .int .i64 r]
  rcases hok : workOk ((rows, f, n, fl), s, p, r) with _ | _
  all_goals have HOk := Lib.hid hok
  · have e : wkTexts ((rows, f, n, fl), s, p, r) = [] := by unfold wkTexts; rw [hok]; rfl
    rw [e]
    go_enter Tryz.func5, Tryz.ntmps5
    go_wp2_with fail
    refine (workOkS_any _ _ _ _ ((rows, f, n, fl), s, p, r) _ (h1.below RE.stays B0) (h2.below RE.stays B0) (h3.below RE.stays B0) (h4.below RE.stays B0) hs.2.1).mono ?_
    rintro e w1 ⟨rfl, hb1⟩
    rw [HOk.out]
    go_wp2
    go_ret
    exact ⟨_, 0, rfl, own_mt w1 w1.heap.size rfl w.heap.size (B0.tr hb1).size, (B0.tr hb1).al _⟩
  · skip
    have e : wkTexts ((rows, f, n, fl), s, p, r) = floorLines rows n ++ [wl kFlips (fl.length : Int), wl kStock s, wl kSpent p, wl kReps r] := by unfold wkTexts; rw [hok]; rfl
    rw [e]
    obtain ⟨F, hF⟩ : ∃ F, F = floorLines rows n := ⟨_, rfl⟩
    rw [← hF]
    have hnum := workOk_num hok
    have N1 : Hid (0 ≤ (fl.length : Int) ∧ (fl.length : Int) ≤ 10000) := Lib.hid (by have := hnum.1; simp only at this; omega)
    have N2 := Lib.hid hnum.2.1; have N3 := Lib.hid hnum.2.2.1; have N4 := Lib.hid hnum.2.2.2
    simp only at N2 N3 N4
    have hr8 : rows.length ≤ 8 := workOk_rows hok
    have hfl8 : F.length ≤ rows.length := by rw [hF]; exact floorLines_len rows n
    have HF := Lib.hid hF; clear hF
    clear hnum hok e
    go_enter Tryz.func5, Tryz.ntmps5
    go_wp2_with fail
    refine (workOkS_any _ _ _ _ ((rows, f, n, fl), s, p, r) _ (h1.below RE.stays B0) (h2.below RE.stays B0) (h3.below RE.stays B0) (h4.below RE.stays B0) hs.2.1).mono ?_
    rintro e w1 ⟨rfl, hb1⟩
    rw [HOk.out]
    have B1 := B0.tr hb1
    have bP1 := bP.bl hb1
    have gP1 := bP1.lt
    have y_0 := bP1.cell 0
    have y_1 := bP1.cell 1
    have y_2 := bP1.cell 2
    have y_3 := bP1.cell 3
    have y_4 := bP1.cell 4
    have y_5 := bP1.cell 5
    have y_6 := bP1.cell 6
    simp only [List.getElem?_toArray, List.getElem?_cons_zero, List.getElem?_cons_succ] at y_0 y_1 y_2 y_3 y_4 y_5 y_6
    go_wp2_with fail
    refine (floorLinesS_any _ _ rows n _ (h1.below RE.stays B1) (h3.below RE.stays B1)).mono ?_
    rintro e w2 ⟨C, c, rfl, own2, hb2⟩
    have B2 := B1.tr hb2
    have bP2 := bP1.bl hb2
    clear y_0 y_1 y_2 y_3 y_4 y_5 y_6
    have gP2 := bP2.lt
    have y_0 := bP2.cell 0
    have y_1 := bP2.cell 1
    have y_2 := bP2.cell 2
    have y_3 := bP2.cell 3
    have y_4 := bP2.cell 4
    have y_5 := bP2.cell 5
    have y_6 := bP2.cell 6
    simp only [List.getElem?_toArray, List.getElem?_cons_zero, List.getElem?_cons_succ] at y_0 y_1 y_2 y_3 y_4 y_5 y_6
    have Bw : Below w2.heap.size w2 w2 := Below.refl _ _
    have hz : w2.heap.size ≤ w2.heap.size := Nat.le_refl _
    rw [← HF.out] at own2 ⊢
    have H8 : Hid ((F.length + 4) * 16 ≤ 140737488355328) := Lib.hid (by omega)
    have HM : Hid (F.length + 4 ≤ maxLen) := Lib.hid (by unfold maxLen; omega)
    go_wp2_with fail
    have Bw : Below w2.heap.size w2 w2.drew := Bw.drew
    have hz : w2.heap.size ≤ w2.drew.heap.size := Bw.size
    have o0 := own2.below Bw
    have HNz : ∀ x : Int, 0 ≤ x ∧ x ≤ 10000 → (numB x).size ≤ 21 := fun x q => numB_size q.1 (by omega)
    have z1 : ¬ (9223372036854775807 < 6 + (numB (fl.length : Int)).size) := by have := HNz _ N1.out; omega
    have z2 : ¬ (9223372036854775807 < 6 + (numB s).size) := by have := HNz _ N2.out; omega
    have z3 : ¬ (9223372036854775807 < 6 + (numB p).size) := by have := HNz _ N3.out; omega
    have z4 : ¬ (9223372036854775807 < 8 + (numB r).size) := by have := HNz _ N4.out; omega
    clear HNz
    refine wp_region_held_drew (S := (fun w' => w'.cell? ⟨w.heap.size, 3, none⟩ = some (.slice A4 fl.length c4) ∧ w'.cell? ⟨w.heap.size, 4, none⟩ = some (.int .i64 s) ∧ w'.cell? ⟨w.heap.size, 5, none⟩ = some (.int .i64 p) ∧ w'.cell? ⟨w.heap.size, 6, none⟩ = some (.int .i64 r))) (by kernel_rfl) ?_ (fun hHeld => ?_)
    · (try dsimp only); (try go_keep)
    refine tk 0 oFmtWkS0 rfl (by kernel_rfl) (v := ?_) (fun _ _ _ h => h) (Or.inl ⟨by rfl, ?_⟩) (by assumption) ?_
    rotate_left 1
    · (intro wS hSw; (try dsimp only at hSw); dsimp only [oFmtWkS0]; go_simp; (all_goals with_reducible rfl))
    simp only [oFmtWkS0, putL, List.set]
    refine tk 1 oFmtWkS1 rfl (by kernel_rfl) (v := ?_) (fun _ _ _ h => h) (Or.inl ⟨by rfl, ?_⟩) (by assumption) ?_
    rotate_left 1
    · (intro wS hSw; (try dsimp only at hSw); dsimp only [oFmtWkS1]; go_simp; (all_goals with_reducible rfl))
    simp only [oFmtWkS1, putL, List.set]
    refine tk 2 oFmtWkS2 rfl (by kernel_rfl) (v := ?_) (fun _ _ _ h => h) (Or.inl ⟨by rfl, ?_⟩) (by assumption) ?_
    rotate_left 1
    · (intro wS hSw; (try dsimp only at hSw); dsimp only [oFmtWkS2]; go_simp; (all_goals with_reducible rfl))
    simp only [oFmtWkS2, putL, List.set]
    refine tk 3 oFmtWkS3 rfl (by kernel_rfl) (v := ?_) (fun _ _ _ h => h) (Or.inl ⟨by rfl, ?_⟩) (by assumption) ?_
    rotate_left 1
    · (intro wS hSw; (try dsimp only at hSw); dsimp only [oFmtWkS3]; go_simp; (all_goals with_reducible rfl))
    simp only [oFmtWkS3, putL, List.set]
    refine tk 4 oFmtWkS4 rfl (by kernel_rfl) (v := ?_) (fun _ _ _ h => h) (Or.inl ⟨by rfl, ?_⟩) (by assumption) ?_
    rotate_left 1
    · (intro wS hSw; (try dsimp only at hSw); dsimp only [oFmtWkS4]; go_simp; (all_goals with_reducible rfl))
    simp only [oFmtWkS4, putL, List.set]
    refine tk 7 oFmtWkS5 rfl (by kernel_rfl) (v := ?_) (fun _ _ _ h => h) (Or.inl ⟨by rfl, ?_⟩) (by assumption) ?_
    rotate_left 1
    · (intro wS hSw; (try dsimp only at hSw); dsimp only [oFmtWkS5]; go_simp; (all_goals with_reducible rfl))
    simp only [oFmtWkS5, putL, List.set]
    refine tk 8 oFmtWkS6 rfl (by kernel_rfl) (v := ?_) (fun _ _ _ h => h) (Or.inl ⟨by rfl, ?_⟩) (by assumption) ?_
    rotate_left 1
    · (intro wS hSw; (try dsimp only at hSw); dsimp only [oFmtWkS6]; go_simp; (all_goals with_reducible rfl))
    simp only [oFmtWkS6, putL, List.set]
    refine tk 11 oFmtWkS7 rfl (by kernel_rfl) (v := ?_) (fun _ _ _ h => h) (Or.inl ⟨by rfl, ?_⟩) (by assumption) ?_
    rotate_left 1
    · (intro wS hSw; (try dsimp only at hSw); dsimp only [oFmtWkS7]; go_simp; (all_goals with_reducible rfl))
    simp only [oFmtWkS7, putL, List.set]
    refine tk 12 oFmtWkS8 rfl (by kernel_rfl) (v := ?_) (fun _ _ _ h => h) (Or.inl ⟨by rfl, ?_⟩) (by assumption) ?_
    rotate_left 1
    · (intro wS hSw; (try dsimp only at hSw); dsimp only [oFmtWkS8]; go_simp; (all_goals with_reducible rfl))
    simp only [oFmtWkS8, putL, List.set]
    refine tk 15 oFmtWkS9 rfl (by kernel_rfl) (v := ?_) (fun _ _ _ h => h) (Or.inl ⟨by rfl, ?_⟩) (by assumption) ?_
    rotate_left 1
    · (intro wS hSw; (try dsimp only at hSw); dsimp only [oFmtWkS9]; go_simp; (all_goals with_reducible rfl))
    simp only [oFmtWkS9, putL, List.set]
    refine tk 16 oFmtWkS10 rfl (by kernel_rfl) (v := ?_) (fun _ _ _ h => h) (Or.inl ⟨by rfl, ?_⟩) (by assumption) ?_
    rotate_left 1
    · (intro wS hSw; (try dsimp only at hSw); dsimp only [oFmtWkS10]; go_simp; (all_goals with_reducible rfl))
    simp only [oFmtWkS10, putL, List.set]
    refine wpAnyH_ready (rs := [5]) (by kernel_rfl) (by simp) ?_
    refine AllReadyH.cons (o := oFmtWkS11) rfl (fun K hK => ?_) AllReadyH.nil
    dsimp only [oFmtWkS11]
    (go_simp; go_at_call 16; go_must (refine (fmtS_any _ _ (N1.out).1 (by have := N1.out; omega)).mono ?_; rintro e wX ⟨rfl, hbX⟩; have o0 := o0.below hbX; obtain ⟨hcX, hfX, hzX⟩ := bkn hbX w2.heap.size hz; have hz := hzX; have Bw := Bw.tr hbX))
    refine hK.out _ _ ?_ (fun hHeld => ?_)
    · (try dsimp only); (try go_keep)
    clear hK K
    (try simp only [Act.put, List.setIfInBounds_toArray, List.set_cons_zero, List.set_cons_succ])
    refine tk 6 oFmtWkS12 rfl (by kernel_rfl) (v := ?_) (fun _ _ _ h => h) (Or.inl ⟨by rfl, ?_⟩) (by assumption) ?_
    rotate_left 1
    · (intro wS hSw; (try dsimp only at hSw); dsimp only [oFmtWkS12]; go_simp; (all_goals with_reducible rfl))
    simp only [oFmtWkS12, putL, List.set]
    refine wpAnyH_ready (rs := [9]) (by kernel_rfl) (by simp) ?_
    refine AllReadyH.cons (o := oFmtWkS13) rfl (fun K hK => ?_) AllReadyH.nil
    dsimp only [oFmtWkS13]
    (go_simp; go_at_call 16; go_must (refine (fmtS_any _ _ (N2.out).1 (by have := N2.out; omega)).mono ?_; rintro e wX ⟨rfl, hbX⟩; have o0 := o0.below hbX; obtain ⟨hcX, hfX, hzX⟩ := bkn hbX w2.heap.size hz; have hz := hzX; have Bw := Bw.tr hbX))
    refine hK.out _ _ ?_ (fun hHeld => ?_)
    · (try dsimp only); (try go_keep)
    clear hK K
    (try simp only [Act.put, List.setIfInBounds_toArray, List.set_cons_zero, List.set_cons_succ])
    refine tk 10 oFmtWkS14 rfl (by kernel_rfl) (v := ?_) (fun _ _ _ h => h) (Or.inl ⟨by rfl, ?_⟩) (by assumption) ?_
    rotate_left 1
    · (intro wS hSw; (try dsimp only at hSw); dsimp only [oFmtWkS14]; go_simp; (all_goals with_reducible rfl))
    simp only [oFmtWkS14, putL, List.set]
    refine wpAnyH_ready (rs := [13]) (by kernel_rfl) (by simp) ?_
    refine AllReadyH.cons (o := oFmtWkS15) rfl (fun K hK => ?_) AllReadyH.nil
    dsimp only [oFmtWkS15]
    (go_simp; go_at_call 16; go_must (refine (fmtS_any _ _ (N3.out).1 (by have := N3.out; omega)).mono ?_; rintro e wX ⟨rfl, hbX⟩; have o0 := o0.below hbX; obtain ⟨hcX, hfX, hzX⟩ := bkn hbX w2.heap.size hz; have hz := hzX; have Bw := Bw.tr hbX))
    refine hK.out _ _ ?_ (fun hHeld => ?_)
    · (try dsimp only); (try go_keep)
    clear hK K
    (try simp only [Act.put, List.setIfInBounds_toArray, List.set_cons_zero, List.set_cons_succ])
    refine tk 14 oFmtWkS16 rfl (by kernel_rfl) (v := ?_) (fun _ _ _ h => h) (Or.inl ⟨by rfl, ?_⟩) (by assumption) ?_
    rotate_left 1
    · (intro wS hSw; (try dsimp only at hSw); dsimp only [oFmtWkS16]; go_simp; (all_goals with_reducible rfl))
    simp only [oFmtWkS16, putL, List.set]
    refine wpAnyH_ready (rs := [17]) (by kernel_rfl) (by simp) ?_
    refine AllReadyH.cons (o := oFmtWkS17) rfl (fun K hK => ?_) AllReadyH.nil
    dsimp only [oFmtWkS17]
    (go_simp; go_at_call 16; go_must (refine (fmtS_any _ _ (N4.out).1 (by have := N4.out; omega)).mono ?_; rintro e wX ⟨rfl, hbX⟩; have o0 := o0.below hbX; obtain ⟨hcX, hfX, hzX⟩ := bkn hbX w2.heap.size hz; have hz := hzX; have Bw := Bw.tr hbX))
    refine hK.out _ _ ?_ (fun hHeld => ?_)
    · (try dsimp only); (try go_keep)
    clear hK K
    (try simp only [Act.put, List.setIfInBounds_toArray, List.set_cons_zero, List.set_cons_succ])
    refine tk 18 oFmtWkS18 rfl (by kernel_rfl) (v := ?_) (fun _ _ _ h => h) (Or.inl ⟨by rfl, ?_⟩) (by assumption) ?_
    rotate_left 1
    · (intro wS hSw; (try dsimp only at hSw); dsimp only [oFmtWkS18]; go_simp; (all_goals with_reducible rfl))
    simp only [oFmtWkS18, putL, List.set]
    refine wpAnyH_ready (rs := [19]) (by kernel_rfl) (by simp) ?_
    refine AllReadyH.cons (o := oFmtWkS19) rfl (fun K hK => ?_) AllReadyH.nil
    dsimp only [oFmtWkS19]
    (go_simp; have oS := own_four (B := w.heap.size) Bw B2.size (wl kFlips (fl.length : Int)) (wl kStock s) (wl kSpent p) (wl kReps r); (try simp only [alloc_sz] at oS); have o0 := o0.alloc (.cells #[.string (wl kFlips (fl.length : Int)), .string (wl kStock s), .string (wl kSpent p), .string (wl kReps r)] 9); have Bw := Bw.al (.cells #[.string (wl kFlips (fl.length : Int)), .string (wl kStock s), .string (wl kSpent p), .string (wl kReps r)] 9); have hz := Bw.size)
    refine hK.out _ _ ?_ (fun hHeld => ?_)
    · (try dsimp only); (try go_keep)
    clear hK K
    (try simp only [Act.put, List.setIfInBounds_toArray, List.set_cons_zero, List.set_cons_succ])
    refine wpAnyH_ready (rs := [20]) (by kernel_rfl) (by simp) ?_
    refine AllReadyH.cons (o := oFmtWkS20) rfl (fun K hK => ?_) AllReadyH.nil
    (refine step_appOwn (enc := eStr) rowStr lenStr oneStr (B := w1.heap.size) (hb2.tr Bw).size o0 oS H8.out HM.out rfl _ _ rfl rfl rfl ?_; intro A5 c5 w5 own5 hg5; have hne5 : ∀ k, (Value.slice C F.length c).ownBlock = some k → w1.heap.size ≤ k := (fun k hk => (World.ownsRow.lt o0 k hk).1); have B5 : Below w.heap.size w w5 := (B2.tr Bw).grown hg5 (B2.tr Bw).size (fun k hk => Nat.le_trans B1.size (hne5 k hk)); have bP5 := (bP2.below Bw gP2).grown hg5 (fun e => by have := hne5 _ e.symm; omega); have q_0 := bP5.cell 0; have q_1 := bP5.cell 1; have q_2 := bP5.cell 2; have q_3 := bP5.cell 3; have q_4 := bP5.cell 4; have q_5 := bP5.cell 5; have q_6 := bP5.cell 6; simp only [List.getElem?_toArray, List.getElem?_cons_zero, List.getElem?_cons_succ] at q_0 q_1 q_2 q_3 q_4 q_5 q_6)
    refine hK.out _ _ ?_ (fun hHeld => ?_)
    · (try dsimp only); (try go_keep)
    clear hK K
    (try simp only [Act.put, List.setIfInBounds_toArray, List.set_cons_zero, List.set_cons_succ])
    refine tk 21 oFmtWkS21 rfl (by kernel_rfl) (v := ?_) (fun _ _ _ h => h) (Or.inl ⟨by rfl, ?_⟩) (by assumption) ?_
    rotate_left 1
    · (intro wS hSw; (try dsimp only at hSw); dsimp only [oFmtWkS21]; go_simp; (all_goals with_reducible rfl))
    simp only [oFmtWkS21, putL, List.set]
    refine wpAnyH_done (by kernel_rfl) ?_ _
    all_goals
      go_wp2
      go_ret
      exact ⟨A5, c5, by rw [List.length_append]; rfl, by rw [List.length_append]; exact own5.mono B1.size, B5⟩
end Go.Proofs.YtklgbjgjojelbaaGreatDoor
