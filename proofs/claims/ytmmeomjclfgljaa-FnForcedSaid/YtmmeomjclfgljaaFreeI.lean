/- The program's counts, its forced dominoes and the region without them: the walks. Conditions: sizes. -/
import Derived.Test.YtmmeomjclfgljaaK10
import Derived.Test.YtmmeomjclfgljaaK9
import Derived.Test.YtmmeomjclfgljaaK5
import Derived.Test.YtmmeomjclfgljaaK3
import Derived.Test.YtmmeomjclfgljaaSteps
namespace Go.Proofs.Ytmmeomjclfgljaa
open Go.ChangeShapes Go.WideShapes Go.ChangeAt Go.RowKit
set_option linter.unusedVariables false
set_option linter.unusedSimpArgs false

theorem cntI_any (s : Nat) (w : World) (hs : s < U64) : Calls Try.prog 117 #[.int .u64 s] w (Ret (.int .i64 (cntSet s)) w) := by
  obtain ⟨R, hR⟩ : ∃ R, R = cntSet s := ⟨_, rfl⟩
  have C : Calls Try.prog 94 #[.int .u64 s, .int .i64 0, .func (.func 141) #[] #[], .func (.func 142) #[] #[]] w (Ret (.int .i64 R) w) := by rw [hR]; exact profN_any s w hs
  rw [← hR]; clear hR
  go_enter Try.func117, Try.ntmps117
  go_wp2_with fail
  refine C.mono ?_
  rintro e w1 ⟨rfl, hb1⟩
  go_wp2
  go_ret
  exact ⟨rfl, hb1⟩
theorem cntTilI_any (v : Value) (rows : List Int) (w : World) (h : Rd 1 RInt w v rows) : Calls Try.prog 68 #[.agg #[v]] w (Ret (.int .i64 (cntRows rows)) w) := by
  obtain ⟨A, c, rfl, hc, hm⟩ := h.form
  have hA := (Below.refl w.heap.size w).al (.cells #[.slice A rows.length c] 26)
  have bX := Blk.new_ w 26 #[.slice A rows.length c]
  rcases hk : regionOk rows with _ | _
  · have e : cntRows rows = 0 := by unfold cntRows; rw [hk]; rfl
    rw [e]
    have Hk := Lib.hid hk; clear hk e
    go_enter Try.func68, Try.ntmps68
    go_wp2_with fail
    refine (regionOkI_any _ rows _ (h.below RE.stays hA)).mono ?_
    rintro e w1 ⟨rfl, hb1⟩
    rw [Hk.out]
    go_wp2
    go_ret
    exact ⟨rfl, hA.tr hb1⟩
  · have e : cntRows rows = cntSet (setOf rows) := by unfold cntRows; rw [if_pos hk]
    rw [e]
    have Hok : Hid (RowsOk rows) := Lib.hid (regionOk_iff.1 hk)
    have Hk := Lib.hid hk; clear hk e
    go_enter Try.func68, Try.ntmps68
    go_wp2_with fail
    refine (regionOkI_any _ rows _ (h.below RE.stays hA)).mono ?_
    rintro e w1 ⟨rfl, hb1⟩
    rw [Hk.out]
    have z1 := (bX.bl hb1).c1
    go_wp2_with fail
    refine (setI_any _ rows _ ((h.below RE.stays hA).below RE.stays hb1) Hok).mono ?_
    rintro e w2 ⟨rfl, hb2⟩
    go_wp2_with fail
    refine (cntI_any _ _ (setOf_lt Hok.out)).mono ?_
    rintro e w3 ⟨rfl, hb3⟩
    go_wp2
    go_ret
    exact ⟨rfl, ((hA.tr hb1).tr hb2).tr hb3⟩
theorem isTileI_any (v : Value) (rows : List Int) (b : Bool) (w : World) (h : Rd 1 RInt w v rows) (hb : (cntRows rows = 0 ∧ b = false) ∨ (cntRows rows ≠ 0 ∧ b = true)) : Calls Try.prog 74 #[.agg #[v]] w (Ret (.bool b) w) := by
  obtain ⟨A, c, rfl, hc, hm⟩ := h.form
  have hA := (Below.refl w.heap.size w).al (.cells #[.slice A rows.length c] 26)
  have hin := cntRows_in rows
  obtain ⟨k, hk⟩ : ∃ k, k = cntRows rows := ⟨_, rfl⟩
  have C : ∀ (u : Value) (w : World), Rd 1 RInt w u rows → Calls Try.prog 68 #[.agg #[u]] w (Ret (.int .i64 k) w) := fun u w k1 => by rw [hk]; exact cntTilI_any u rows w k1
  rw [← hk] at hin hb
  clear hk
  rcases hb with ⟨h0, rfl⟩ | ⟨h0, rfl⟩
  · subst h0
    go_enter Try.func74, Try.ntmps74
    go_wp2_with fail
    refine (C _ _ (h.below RE.stays hA)).mono ?_
    rintro e w1 ⟨rfl, hb1⟩
    go_wp2
    go_ret
    exact ⟨rfl, hA.tr hb1⟩
  · have hp : 0 < k := by omega
    have hp2 : decide (0 < k) = true := decide_eq_true hp
    clear h0
    go_enter Try.func74, Try.ntmps74
    go_wp2_with fail
    refine (C _ _ (h.below RE.stays hA)).mono ?_
    rintro e w1 ⟨rfl, hb1⟩
    go_wp2
    go_ret
    exact ⟨by first | rfl | (rw [hp2]) | simp [hp], hA.tr hb1⟩
abbrev oFreeI0 : Oper := { dst := some 5, op := Go.Op.load 26 (Go.Operand.tmp 2), type := 26, pos := "l07_count.go:67", after := #[], guard := none }
abbrev oFreeI1 : Oper := { dst := some 6, op := Go.Op.call { callee := Go.Callee.value (Go.Operand.func 71), args := #[Go.Operand.tmp 5], argTypes := #[26] }, type := 4, pos := "l07_count.go:67", after := #[{ on := 0, ground := Go.Ground.data }], guard := none }
abbrev oFreeI2 : Oper := { dst := some 7, op := Go.Op.unOp Go.UnOp.not 4 (Go.Operand.tmp 6), type := 4, pos := "l07_count.go:67", after := #[{ on := 1, ground := Go.Ground.data }], guard := none }
abbrev oFreeI3 : Oper := { dst := some 8, op := Go.Op.move (Go.Operand.tmp 7), type := 4, pos := "l07_count.go:67", after := #[{ on := 2, ground := Go.Ground.data }, { on := 1, ground := Go.Ground.chain }], guard := none }
abbrev oFreeI4 : Oper := { dst := some 9, op := Go.Op.load 66 (Go.Operand.tmp 3), type := 66, pos := "l07_count.go:67", after := #[{ on := 3, ground := Go.Ground.guard }], guard := some (3, false) }
abbrev oFreeI5 : Oper := { dst := some 10, op := Go.Op.call { callee := Go.Callee.value (Go.Operand.func 98), args := #[Go.Operand.tmp 9], argTypes := #[66] }, type := 4, pos := "l07_count.go:67", after := #[{ on := 4, ground := Go.Ground.data }, { on := 3, ground := Go.Ground.chain }, { on := 3, ground := Go.Ground.guard }], guard := some (3, false) }
abbrev oFreeI6 : Oper := { dst := some 11, op := Go.Op.unOp Go.UnOp.not 4 (Go.Operand.tmp 10), type := 4, pos := "l07_count.go:67", after := #[{ on := 5, ground := Go.Ground.data }, { on := 3, ground := Go.Ground.guard }], guard := some (3, false) }
abbrev oFreeI7 : Oper := { dst := some 12, op := Go.Op.pick (Go.Operand.tmp 8) (Go.Operand.const (Go.Value.bool true)) (Go.Operand.tmp 11), type := 4, pos := "l07_count.go:67", after := #[{ on := 3, ground := Go.Ground.data }, { on := 6, ground := Go.Ground.data }], guard := none }
abbrev oFreeI8 : Oper := { dst := some 13, op := Go.Op.move (Go.Operand.tmp 12), type := 4, pos := "l07_count.go:67", after := #[{ on := 7, ground := Go.Ground.data }, { on := 5, ground := Go.Ground.chain }], guard := none }
abbrev oFreeI9 : Oper := { dst := some 14, op := Go.Op.load 26 (Go.Operand.tmp 2), type := 26, pos := "l07_count.go:67", after := #[{ on := 8, ground := Go.Ground.guard }], guard := some (8, false) }
abbrev oFreeI10 : Oper := { dst := some 15, op := Go.Op.call { callee := Go.Callee.value (Go.Operand.func 77), args := #[Go.Operand.tmp 14], argTypes := #[26] }, type := 101, pos := "l07_count.go:67", after := #[{ on := 9, ground := Go.Ground.data }, { on := 8, ground := Go.Ground.chain }, { on := 8, ground := Go.Ground.guard }], guard := some (8, false) }
abbrev oFreeI11 : Oper := { dst := some 16, op := Go.Op.load 66 (Go.Operand.tmp 3), type := 66, pos := "l07_count.go:67", after := #[{ on := 8, ground := Go.Ground.guard }], guard := some (8, false) }
abbrev oFreeI12 : Oper := { dst := some 17, op := Go.Op.call { callee := Go.Callee.value (Go.Operand.func 83), args := #[Go.Operand.tmp 16], argTypes := #[66] }, type := 101, pos := "l07_count.go:67", after := #[{ on := 11, ground := Go.Ground.data }, { on := 10, ground := Go.Ground.chain }, { on := 8, ground := Go.Ground.guard }], guard := some (8, false) }
abbrev oFreeI13 : Oper := { dst := some 18, op := Go.Op.binOp Go.BinOp.and 101 (Go.Operand.tmp 15) (Go.Operand.tmp 17) 101, type := 101, pos := "l07_count.go:67", after := #[{ on := 10, ground := Go.Ground.data }, { on := 12, ground := Go.Ground.data }, { on := 8, ground := Go.Ground.guard }], guard := some (8, false) }
abbrev oFreeI14 : Oper := { dst := some 19, op := Go.Op.load 66 (Go.Operand.tmp 3), type := 66, pos := "l07_count.go:67", after := #[{ on := 8, ground := Go.Ground.guard }], guard := some (8, false) }
abbrev oFreeI15 : Oper := { dst := some 20, op := Go.Op.call { callee := Go.Callee.value (Go.Operand.func 83), args := #[Go.Operand.tmp 19], argTypes := #[66] }, type := 101, pos := "l07_count.go:67", after := #[{ on := 14, ground := Go.Ground.data }, { on := 12, ground := Go.Ground.chain }, { on := 8, ground := Go.Ground.guard }], guard := some (8, false) }
abbrev oFreeI16 : Oper := { dst := some 21, op := Go.Op.binOp Go.BinOp.neq 101 (Go.Operand.tmp 18) (Go.Operand.tmp 20) 101, type := 4, pos := "l07_count.go:67", after := #[{ on := 13, ground := Go.Ground.data }, { on := 15, ground := Go.Ground.data }, { on := 8, ground := Go.Ground.guard }], guard := some (8, false) }
abbrev oFreeI17 : Oper := { dst := some 22, op := Go.Op.pick (Go.Operand.tmp 13) (Go.Operand.const (Go.Value.bool true)) (Go.Operand.tmp 21), type := 4, pos := "l07_count.go:67", after := #[{ on := 8, ground := Go.Ground.data }, { on := 16, ground := Go.Ground.data }], guard := none }
abbrev oFreeI18 : Oper := { dst := some 23, op := Go.Op.load 26 (Go.Operand.tmp 2), type := 26, pos := "l07_count.go:70", after := #[], guard := none }
abbrev oFreeI19 : Oper := { dst := some 25, op := Go.Op.load 66 (Go.Operand.tmp 3), type := 66, pos := "l07_count.go:70", after := #[], guard := none }
abbrev oFreeI20 : Oper := { dst := some 24, op := Go.Op.call { callee := Go.Callee.value (Go.Operand.func 77), args := #[Go.Operand.tmp 23], argTypes := #[26] }, type := 101, pos := "l07_count.go:70", after := #[{ on := 0, ground := Go.Ground.data }], guard := none }
abbrev oFreeI21 : Oper := { dst := some 26, op := Go.Op.call { callee := Go.Callee.value (Go.Operand.func 83), args := #[Go.Operand.tmp 25], argTypes := #[66] }, type := 101, pos := "l07_count.go:70", after := #[{ on := 2, ground := Go.Ground.data }, { on := 1, ground := Go.Ground.chain }], guard := none }
abbrev oFreeI22 : Oper := { dst := some 27, op := Go.Op.binOp Go.BinOp.andNot 101 (Go.Operand.tmp 24) (Go.Operand.tmp 26) 101, type := 101, pos := "l07_count.go:70", after := #[{ on := 1, ground := Go.Ground.data }, { on := 3, ground := Go.Ground.data }], guard := none }
abbrev oFreeI23 : Oper := { dst := some 28, op := Go.Op.call { callee := Go.Callee.value (Go.Operand.func 117), args := #[Go.Operand.tmp 27], argTypes := #[101] }, type := 3, pos := "l07_count.go:70", after := #[{ on := 4, ground := Go.Ground.data }, { on := 3, ground := Go.Ground.chain }], guard := none }
abbrev oFreeI24 : Oper := { dst := some 4, op := Go.Op.assign (Go.Operand.tmp 28), type := 3, pos := "l07_count.go:70", after := #[{ on := 5, ground := Go.Ground.data }, { on := 5, ground := Go.Ground.chain }, { on := 0, ground := Go.Ground.phase }, { on := 1, ground := Go.Ground.phase }, { on := 2, ground := Go.Ground.phase }, { on := 3, ground := Go.Ground.phase }, { on := 4, ground := Go.Ground.phase }, { on := 5, ground := Go.Ground.phase }], guard := none }
set_option maxHeartbeats 2000000 in
set_option maxRecDepth 100000 in
theorem cntWithI_any (v : Value) (rows : List Int) (x y : Int) (d : Bool) (w : World) (h : Rd 1 RInt w v rows) : Calls Try.prog 87 #[.agg #[v], .agg #[.int .i64 x, .int .i64 y, .bool d]] w (Ret (.int .i64 (cntWith rows (x, y, d))) w) := by
  obtain ⟨A, c, rfl, hc, hm⟩ := h.form
  have B0 := ((Below.refl w.heap.size w).al (.cells #[.slice A rows.length c] 26)).al (.cells #[.int .i64 x, .int .i64 y, .bool d] 66)
  have bX := (Blk.new_ w 26 #[.slice A rows.length c]).alloc (.cells #[.int .i64 x, .int .i64 y, .bool d] 66)
  have bD := Blk.new2 (w.alloc (.cells #[.slice A rows.length c] 26)) 66 #[.int .i64 x, .int .i64 y, .bool d] (w.heap.size + 1) (by simp)
  rcases hk : regionOk rows with _ | _
  · have e : cntWith rows (x, y, d) = 0 := by unfold cntWith; rw [hk]; rfl
    rw [e]
    have Hk := Lib.hid hk; clear hk e
    go_enter Try.func87, Try.ntmps87
    go_wp2_with fail
    obtain ⟨W0, hW0⟩ : ∃ W0, W0 = (w.alloc (.cells #[.slice A rows.length c] 26)).alloc (.cells #[.int .i64 x, .int .i64 y, .bool d] 66) := ⟨_, rfl⟩
    obtain ⟨gX, hgX⟩ : ∃ g, g = w.heap.size := ⟨_, rfl⟩
    obtain ⟨gD, hgD⟩ : ∃ g, g = w.heap.size + 1 := ⟨_, rfl⟩
    rw [← hW0] at B0 bX bD ⊢
    rw [← hgD] at bD ⊢
    rw [← hgX] at bX ⊢
    clear hW0 hgX hgD
    have z_0 := bX.c1
    have d_0 := bD.cell 0
    have d_1 := bD.cell 1
    have d_2 := bD.cell 2
    simp only [List.getElem?_toArray, List.getElem?_cons_zero, List.getElem?_cons_succ] at d_0 d_1 d_2
    have hp0 := bX.lt
    have hp1 := bD.lt
    have Bw : Below W0.heap.size W0 W0.drew := (Below.refl _ _).drew
    have hz : W0.heap.size ≤ W0.drew.heap.size := by simp
    refine wp_region_held_drew (S := (fun w' => w'.cell? ⟨gX, 0, none⟩ = some (.slice A rows.length c) ∧ w'.cell? ⟨gD, 0, none⟩ = some (.int .i64 x) ∧ w'.cell? ⟨gD, 1, none⟩ = some (.int .i64 y) ∧ w'.cell? ⟨gD, 2, none⟩ = some (.bool d))) (by kernel_rfl) ?_ (fun hHeld => ?_)
    · (try dsimp only); (try go_keep)
    refine tk 0 oFreeI0 rfl (by kernel_rfl) (v := ?_) (fun _ _ _ h => h) (Or.inl ⟨by rfl, ?_⟩) (by assumption) ?_
    rotate_left 1
    · (intro wS hSw; (try dsimp only at hSw); dsimp only [oFreeI0]; go_simp; (all_goals with_reducible rfl))
    simp only [oFreeI0, putL, List.set]
    refine wpAnyH_ready (rs := [1]) (by kernel_rfl) (by simp) ?_
    refine AllReadyH.cons (o := oFreeI1) rfl (fun K hK => ?_) AllReadyH.nil
    dsimp only [oFreeI1]
    go_simp
    (first | (go_at_call 71; go_must (refine (regionOkI_any _ rows _ (h.below RE.stays (B0.tr Bw))).mono ?_; rintro e wX ⟨rfl, hbX⟩; rw [Hk.out];obtain ⟨hcX, hfX, hzX⟩ := bkn hbX W0.heap.size hz; have hz := hzX; have Bw := Bw.tr hbX); (try go_wp2_with fail)))
    refine hK.out _ _ ?_ (fun hHeld => ?_)
    · (try dsimp only); (try go_keep)
    clear hK K
    (try simp only [Act.put, List.setIfInBounds_toArray, List.set_cons_zero, List.set_cons_succ])
    refine tk 2 oFreeI2 rfl (by kernel_rfl) (v := ?_) (fun _ _ _ h => h) (Or.inl ⟨by rfl, ?_⟩) (by assumption) ?_
    rotate_left 1
    · (intro wS hSw; (try dsimp only at hSw); dsimp only [oFreeI2]; go_simp; (all_goals with_reducible rfl))
    simp only [oFreeI2, putL, List.set]
    refine tk 3 oFreeI3 rfl (by kernel_rfl) (v := ?_) (fun _ _ _ h => h) (Or.inl ⟨by rfl, ?_⟩) (by assumption) ?_
    rotate_left 1
    · (intro wS hSw; (try dsimp only at hSw); dsimp only [oFreeI3]; go_simp; (all_goals with_reducible rfl))
    simp only [oFreeI3, putL, List.set]
    refine tk 4 oFreeI4 rfl (by kernel_rfl) (v := undef) (fun _ _ _ h => h) (Or.inr ⟨by rfl, rfl⟩) (by assumption) ?_
    simp only [oFreeI4, putL, List.set]
    refine tk 5 oFreeI5 rfl (by kernel_rfl) (v := undef) (fun _ _ _ h => h) (Or.inr ⟨by rfl, rfl⟩) (by assumption) ?_
    simp only [oFreeI5, putL, List.set]
    refine tk 6 oFreeI6 rfl (by kernel_rfl) (v := undef) (fun _ _ _ h => h) (Or.inr ⟨by rfl, rfl⟩) (by assumption) ?_
    simp only [oFreeI6, putL, List.set]
    refine tk 7 oFreeI7 rfl (by kernel_rfl) (v := ?_) (fun _ _ _ h => h) (Or.inl ⟨by rfl, ?_⟩) (by assumption) ?_
    rotate_left 1
    · (intro wS hSw; (try dsimp only at hSw); dsimp only [oFreeI7]; go_simp; (all_goals with_reducible rfl))
    simp only [oFreeI7, putL, List.set]
    refine tk 8 oFreeI8 rfl (by kernel_rfl) (v := ?_) (fun _ _ _ h => h) (Or.inl ⟨by rfl, ?_⟩) (by assumption) ?_
    rotate_left 1
    · (intro wS hSw; (try dsimp only at hSw); dsimp only [oFreeI8]; go_simp; (all_goals with_reducible rfl))
    simp only [oFreeI8, putL, List.set]
    refine tk 9 oFreeI9 rfl (by kernel_rfl) (v := undef) (fun _ _ _ h => h) (Or.inr ⟨by rfl, rfl⟩) (by assumption) ?_
    simp only [oFreeI9, putL, List.set]
    refine tk 10 oFreeI10 rfl (by kernel_rfl) (v := undef) (fun _ _ _ h => h) (Or.inr ⟨by rfl, rfl⟩) (by assumption) ?_
    simp only [oFreeI10, putL, List.set]
    refine tk 11 oFreeI11 rfl (by kernel_rfl) (v := undef) (fun _ _ _ h => h) (Or.inr ⟨by rfl, rfl⟩) (by assumption) ?_
    simp only [oFreeI11, putL, List.set]
    refine tk 12 oFreeI12 rfl (by kernel_rfl) (v := undef) (fun _ _ _ h => h) (Or.inr ⟨by rfl, rfl⟩) (by assumption) ?_
    simp only [oFreeI12, putL, List.set]
    refine tk 13 oFreeI13 rfl (by kernel_rfl) (v := undef) (fun _ _ _ h => h) (Or.inr ⟨by rfl, rfl⟩) (by assumption) ?_
    simp only [oFreeI13, putL, List.set]
    refine tk 14 oFreeI14 rfl (by kernel_rfl) (v := undef) (fun _ _ _ h => h) (Or.inr ⟨by rfl, rfl⟩) (by assumption) ?_
    simp only [oFreeI14, putL, List.set]
    refine tk 15 oFreeI15 rfl (by kernel_rfl) (v := undef) (fun _ _ _ h => h) (Or.inr ⟨by rfl, rfl⟩) (by assumption) ?_
    simp only [oFreeI15, putL, List.set]
    refine tk 16 oFreeI16 rfl (by kernel_rfl) (v := undef) (fun _ _ _ h => h) (Or.inr ⟨by rfl, rfl⟩) (by assumption) ?_
    simp only [oFreeI16, putL, List.set]
    refine tk 17 oFreeI17 rfl (by kernel_rfl) (v := ?_) (fun _ _ _ h => h) (Or.inl ⟨by rfl, ?_⟩) (by assumption) ?_
    rotate_left 1
    · (intro wS hSw; (try dsimp only at hSw); dsimp only [oFreeI17]; go_simp; (all_goals with_reducible rfl))
    simp only [oFreeI17, putL, List.set]
    refine wpAnyH_done (by kernel_rfl) ?_ _
    go_wp2
    go_ret
    exact ⟨rfl, B0.tr Bw⟩
  · have Hok : Hid (RowsOk rows) := Lib.hid (regionOk_iff.1 hk)
    rcases hd : domOk (x, y, d) with _ | _
    · have e : cntWith rows (x, y, d) = 0 := by unfold cntWith fitsD; rw [hk, hd]; rfl
      rw [e]
      have Hk := Lib.hid hk; have Hd := Lib.hid hd; clear hk hd e
      go_enter Try.func87, Try.ntmps87
      go_wp2_with fail
      obtain ⟨W0, hW0⟩ : ∃ W0, W0 = (w.alloc (.cells #[.slice A rows.length c] 26)).alloc (.cells #[.int .i64 x, .int .i64 y, .bool d] 66) := ⟨_, rfl⟩
      obtain ⟨gX, hgX⟩ : ∃ g, g = w.heap.size := ⟨_, rfl⟩
      obtain ⟨gD, hgD⟩ : ∃ g, g = w.heap.size + 1 := ⟨_, rfl⟩
      rw [← hW0] at B0 bX bD ⊢
      rw [← hgD] at bD ⊢
      rw [← hgX] at bX ⊢
      clear hW0 hgX hgD
      have z_0 := bX.c1
      have d_0 := bD.cell 0
      have d_1 := bD.cell 1
      have d_2 := bD.cell 2
      simp only [List.getElem?_toArray, List.getElem?_cons_zero, List.getElem?_cons_succ] at d_0 d_1 d_2
      have hp0 := bX.lt
      have hp1 := bD.lt
      have Bw : Below W0.heap.size W0 W0.drew := (Below.refl _ _).drew
      have hz : W0.heap.size ≤ W0.drew.heap.size := by simp
      refine wp_region_held_drew (S := (fun w' => w'.cell? ⟨gX, 0, none⟩ = some (.slice A rows.length c) ∧ w'.cell? ⟨gD, 0, none⟩ = some (.int .i64 x) ∧ w'.cell? ⟨gD, 1, none⟩ = some (.int .i64 y) ∧ w'.cell? ⟨gD, 2, none⟩ = some (.bool d))) (by kernel_rfl) ?_ (fun hHeld => ?_)
      · (try dsimp only); (try go_keep)
      refine tk 0 oFreeI0 rfl (by kernel_rfl) (v := ?_) (fun _ _ _ h => h) (Or.inl ⟨by rfl, ?_⟩) (by assumption) ?_
      rotate_left 1
      · (intro wS hSw; (try dsimp only at hSw); dsimp only [oFreeI0]; go_simp; (all_goals with_reducible rfl))
      simp only [oFreeI0, putL, List.set]
      refine wpAnyH_ready (rs := [1]) (by kernel_rfl) (by simp) ?_
      refine AllReadyH.cons (o := oFreeI1) rfl (fun K hK => ?_) AllReadyH.nil
      dsimp only [oFreeI1]
      go_simp
      (first | (go_at_call 71; go_must (refine (regionOkI_any _ rows _ (h.below RE.stays (B0.tr Bw))).mono ?_; rintro e wX ⟨rfl, hbX⟩; rw [Hk.out];obtain ⟨hcX, hfX, hzX⟩ := bkn hbX W0.heap.size hz; have hz := hzX; have Bw := Bw.tr hbX); (try go_wp2_with fail)) | (go_at_call 98; go_must (refine (domOkI_any x y d _).mono ?_; rintro e wX ⟨rfl, hbX⟩; rw [Hd.out];obtain ⟨hcX, hfX, hzX⟩ := bkn hbX W0.heap.size hz; have hz := hzX; have Bw := Bw.tr hbX); (try go_wp2_with fail)))
      refine hK.out _ _ ?_ (fun hHeld => ?_)
      · (try dsimp only); (try go_keep)
      clear hK K
      (try simp only [Act.put, List.setIfInBounds_toArray, List.set_cons_zero, List.set_cons_succ])
      refine tk 2 oFreeI2 rfl (by kernel_rfl) (v := ?_) (fun _ _ _ h => h) (Or.inl ⟨by rfl, ?_⟩) (by assumption) ?_
      rotate_left 1
      · (intro wS hSw; (try dsimp only at hSw); dsimp only [oFreeI2]; go_simp; (all_goals with_reducible rfl))
      simp only [oFreeI2, putL, List.set]
      refine tk 3 oFreeI3 rfl (by kernel_rfl) (v := ?_) (fun _ _ _ h => h) (Or.inl ⟨by rfl, ?_⟩) (by assumption) ?_
      rotate_left 1
      · (intro wS hSw; (try dsimp only at hSw); dsimp only [oFreeI3]; go_simp; (all_goals with_reducible rfl))
      simp only [oFreeI3, putL, List.set]
      refine tk 4 oFreeI4 rfl (by kernel_rfl) (v := ?_) (fun _ _ _ h => h) (Or.inl ⟨by rfl, ?_⟩) (by assumption) ?_
      rotate_left 1
      · (intro wS hSw; (try dsimp only at hSw); dsimp only [oFreeI4]; go_simp; (all_goals with_reducible rfl))
      simp only [oFreeI4, putL, List.set]
      refine wpAnyH_ready (rs := [5]) (by kernel_rfl) (by simp) ?_
      refine AllReadyH.cons (o := oFreeI5) rfl (fun K hK => ?_) AllReadyH.nil
      dsimp only [oFreeI5]
      go_simp
      (first | (go_at_call 71; go_must (refine (regionOkI_any _ rows _ (h.below RE.stays (B0.tr Bw))).mono ?_; rintro e wX ⟨rfl, hbX⟩; rw [Hk.out];obtain ⟨hcX, hfX, hzX⟩ := bkn hbX W0.heap.size hz; have hz := hzX; have Bw := Bw.tr hbX); (try go_wp2_with fail)) | (go_at_call 98; go_must (refine (domOkI_any x y d _).mono ?_; rintro e wX ⟨rfl, hbX⟩; rw [Hd.out];obtain ⟨hcX, hfX, hzX⟩ := bkn hbX W0.heap.size hz; have hz := hzX; have Bw := Bw.tr hbX); (try go_wp2_with fail)))
      refine hK.out _ _ ?_ (fun hHeld => ?_)
      · (try dsimp only); (try go_keep)
      clear hK K
      (try simp only [Act.put, List.setIfInBounds_toArray, List.set_cons_zero, List.set_cons_succ])
      refine tk 6 oFreeI6 rfl (by kernel_rfl) (v := ?_) (fun _ _ _ h => h) (Or.inl ⟨by rfl, ?_⟩) (by assumption) ?_
      rotate_left 1
      · (intro wS hSw; (try dsimp only at hSw); dsimp only [oFreeI6]; go_simp; (all_goals with_reducible rfl))
      simp only [oFreeI6, putL, List.set]
      refine tk 7 oFreeI7 rfl (by kernel_rfl) (v := ?_) (fun _ _ _ h => h) (Or.inl ⟨by rfl, ?_⟩) (by assumption) ?_
      rotate_left 1
      · (intro wS hSw; (try dsimp only at hSw); dsimp only [oFreeI7]; go_simp; (all_goals with_reducible rfl))
      simp only [oFreeI7, putL, List.set]
      refine tk 8 oFreeI8 rfl (by kernel_rfl) (v := ?_) (fun _ _ _ h => h) (Or.inl ⟨by rfl, ?_⟩) (by assumption) ?_
      rotate_left 1
      · (intro wS hSw; (try dsimp only at hSw); dsimp only [oFreeI8]; go_simp; (all_goals with_reducible rfl))
      simp only [oFreeI8, putL, List.set]
      refine tk 9 oFreeI9 rfl (by kernel_rfl) (v := undef) (fun _ _ _ h => h) (Or.inr ⟨by rfl, rfl⟩) (by assumption) ?_
      simp only [oFreeI9, putL, List.set]
      refine tk 10 oFreeI10 rfl (by kernel_rfl) (v := undef) (fun _ _ _ h => h) (Or.inr ⟨by rfl, rfl⟩) (by assumption) ?_
      simp only [oFreeI10, putL, List.set]
      refine tk 11 oFreeI11 rfl (by kernel_rfl) (v := undef) (fun _ _ _ h => h) (Or.inr ⟨by rfl, rfl⟩) (by assumption) ?_
      simp only [oFreeI11, putL, List.set]
      refine tk 12 oFreeI12 rfl (by kernel_rfl) (v := undef) (fun _ _ _ h => h) (Or.inr ⟨by rfl, rfl⟩) (by assumption) ?_
      simp only [oFreeI12, putL, List.set]
      refine tk 13 oFreeI13 rfl (by kernel_rfl) (v := undef) (fun _ _ _ h => h) (Or.inr ⟨by rfl, rfl⟩) (by assumption) ?_
      simp only [oFreeI13, putL, List.set]
      refine tk 14 oFreeI14 rfl (by kernel_rfl) (v := undef) (fun _ _ _ h => h) (Or.inr ⟨by rfl, rfl⟩) (by assumption) ?_
      simp only [oFreeI14, putL, List.set]
      refine tk 15 oFreeI15 rfl (by kernel_rfl) (v := undef) (fun _ _ _ h => h) (Or.inr ⟨by rfl, rfl⟩) (by assumption) ?_
      simp only [oFreeI15, putL, List.set]
      refine tk 16 oFreeI16 rfl (by kernel_rfl) (v := undef) (fun _ _ _ h => h) (Or.inr ⟨by rfl, rfl⟩) (by assumption) ?_
      simp only [oFreeI16, putL, List.set]
      refine tk 17 oFreeI17 rfl (by kernel_rfl) (v := ?_) (fun _ _ _ h => h) (Or.inl ⟨by rfl, ?_⟩) (by assumption) ?_
      rotate_left 1
      · (intro wS hSw; (try dsimp only at hSw); dsimp only [oFreeI17]; go_simp; (all_goals with_reducible rfl))
      simp only [oFreeI17, putL, List.set]
      refine wpAnyH_done (by kernel_rfl) ?_ _
      go_wp2
      go_ret
      exact ⟨rfl, B0.tr Bw⟩
    · have hs := setOf_lt Hok.out
      have hdl := domSet_lt hd
      obtain ⟨s, hse⟩ : ∃ s, s = setOf rows := ⟨_, rfl⟩
      obtain ⟨D, hD⟩ : ∃ D, D = domSet (x, y, d) := ⟨_, rfl⟩
      have CS : ∀ (u : Value) (w : World), Rd 1 RInt w u rows → Calls Try.prog 77 #[.agg #[u]] w (Ret (.int .u64 (s : Nat)) w) := fun u w k1 => by rw [hse]; exact setI_any u rows w k1 Hok
      have CD : ∀ (w : World), Calls Try.prog 83 #[.agg #[.int .i64 x, .int .i64 y, .bool d]] w (Ret (.int .u64 (D : Nat)) w) := fun w => by rw [hD]; exact domSetI_yes x y d w hd
      rw [← hse] at hs
      rw [← hD] at hdl
      obtain ⟨u1, u2⟩ := u64_bits hs hdl
      have hf : fitsD s (x, y, d) = decide (s &&& D = D) := by unfold fitsD; rw [hd, ← hD, Bool.true_and]
      have hcw : cntWith rows (x, y, d) = if s &&& D = D then cntSet (sDiff s D) else 0 := by
        unfold cntWith; rw [hk, ← hse, hf, ← hD, Bool.true_and]
        by_cases q : s &&& D = D
        · rw [if_pos (decide_eq_true q), if_pos q]
        · rw [if_neg (by simpa using q), if_neg q]
      rw [hcw]
      have Hk := Lib.hid hk; have Hd := Lib.hid hd; clear hk hd hse hD hf hcw
      by_cases q : s &&& D = D
      · rw [if_pos q]
        have hne : (((s &&& D : Nat) : Int) != (D : Int)) = false := by rw [q]; simp
        clear q
        go_enter Try.func87, Try.ntmps87
        go_wp2_with fail
        obtain ⟨W0, hW0⟩ : ∃ W0, W0 = (w.alloc (.cells #[.slice A rows.length c] 26)).alloc (.cells #[.int .i64 x, .int .i64 y, .bool d] 66) := ⟨_, rfl⟩
        obtain ⟨gX, hgX⟩ : ∃ g, g = w.heap.size := ⟨_, rfl⟩
        obtain ⟨gD, hgD⟩ : ∃ g, g = w.heap.size + 1 := ⟨_, rfl⟩
        rw [← hW0] at B0 bX bD ⊢
        rw [← hgD] at bD ⊢
        rw [← hgX] at bX ⊢
        clear hW0 hgX hgD
        have z_0 := bX.c1
        have d_0 := bD.cell 0
        have d_1 := bD.cell 1
        have d_2 := bD.cell 2
        simp only [List.getElem?_toArray, List.getElem?_cons_zero, List.getElem?_cons_succ] at d_0 d_1 d_2
        have hp0 := bX.lt
        have hp1 := bD.lt
        have Bw : Below W0.heap.size W0 W0.drew := (Below.refl _ _).drew
        have hz : W0.heap.size ≤ W0.drew.heap.size := by simp
        go_region_held3 (fun w' => w'.cell? ⟨gX, 0, none⟩ = some (.slice A rows.length c) ∧ w'.cell? ⟨gD, 0, none⟩ = some (.int .i64 x) ∧ w'.cell? ⟨gD, 1, none⟩ = some (.int .i64 y) ∧ w'.cell? ⟨gD, 2, none⟩ = some (.bool d)) (go_keep) (first | (go_at_call 71; go_must (refine (regionOkI_any _ rows _ (h.below RE.stays (B0.tr Bw))).mono ?_; rintro e wX ⟨rfl, hbX⟩; rw [Hk.out];obtain ⟨hcX, hfX, hzX⟩ := bkn hbX W0.heap.size hz; have hz := hzX; have Bw := Bw.tr hbX); (try go_wp2_with fail)) | (go_at_call 98; go_must (refine (domOkI_any x y d _).mono ?_; rintro e wX ⟨rfl, hbX⟩; rw [Hd.out];obtain ⟨hcX, hfX, hzX⟩ := bkn hbX W0.heap.size hz; have hz := hzX; have Bw := Bw.tr hbX); (try go_wp2_with fail)) | (go_at_call 77; go_must (refine (CS _ _ (h.below RE.stays (B0.tr Bw))).mono ?_; rintro e wX ⟨rfl, hbX⟩; obtain ⟨hcX, hfX, hzX⟩ := bkn hbX W0.heap.size hz; have hz := hzX; have Bw := Bw.tr hbX); (try go_wp2_with fail)) | (go_at_call 83; go_must (refine (CD _).mono ?_; rintro e wX ⟨rfl, hbX⟩; obtain ⟨hcX, hfX, hzX⟩ := bkn hbX W0.heap.size hz; have hz := hzX; have Bw := Bw.tr hbX); (try go_wp2_with fail)))
        go_wp2_with fail
        clear hcX hfX hz
        obtain ⟨W1, hW1⟩ : ∃ W1, W1 = wX := ⟨_, rfl⟩
        rw [← hW1] at Bw ⊢
        clear hW1
        have B1 := B0.tr Bw
        have bX1 := bX.bl Bw
        have bD1 := bD.bl Bw
        clear z_0 d_0 d_1 d_2 Bw
        have z_0 := bX1.c1
        have d_0 := bD1.cell 0
        have d_1 := bD1.cell 1
        have d_2 := bD1.cell 2
        simp only [List.getElem?_toArray, List.getElem?_cons_zero, List.getElem?_cons_succ] at d_0 d_1 d_2
        have hp0 := bX1.lt
        have hp1 := bD1.lt
        have Bw : Below W1.heap.size W1 W1.drew := (Below.refl _ _).drew
        have hz : W1.heap.size ≤ W1.drew.heap.size := by simp
        refine wp_region_held_drew (S := (fun w' => w'.cell? ⟨gX, 0, none⟩ = some (.slice A rows.length c) ∧ w'.cell? ⟨gD, 0, none⟩ = some (.int .i64 x) ∧ w'.cell? ⟨gD, 1, none⟩ = some (.int .i64 y) ∧ w'.cell? ⟨gD, 2, none⟩ = some (.bool d))) (by kernel_rfl) ?_ (fun hHeld => ?_)
        · (try dsimp only); (try go_keep)
        refine tk 0 oFreeI18 rfl (by kernel_rfl) (v := ?_) (fun _ _ _ h => h) (Or.inl ⟨by rfl, ?_⟩) (by assumption) ?_
        rotate_left 1
        · (intro wS hSw; (try dsimp only at hSw); dsimp only [oFreeI18]; go_simp; (all_goals with_reducible rfl))
        simp only [oFreeI18, putL, List.set]
        refine tk 2 oFreeI19 rfl (by kernel_rfl) (v := ?_) (fun _ _ _ h => h) (Or.inl ⟨by rfl, ?_⟩) (by assumption) ?_
        rotate_left 1
        · (intro wS hSw; (try dsimp only at hSw); dsimp only [oFreeI19]; go_simp; (all_goals with_reducible rfl))
        simp only [oFreeI19, putL, List.set]
        refine wpAnyH_ready (rs := [1]) (by kernel_rfl) (by simp) ?_
        refine AllReadyH.cons (o := oFreeI20) rfl (fun K hK => ?_) AllReadyH.nil
        dsimp only [oFreeI20]
        go_simp
        (first | (go_at_call 77; go_must (refine (CS _ _ (h.below RE.stays (B1.tr Bw))).mono ?_; rintro e wX ⟨rfl, hbX⟩; obtain ⟨hcX, hfX, hzX⟩ := bkn hbX W1.heap.size hz; have hz := hzX; have Bw := Bw.tr hbX); (try go_wp2_with fail)) | (go_at_call 83; go_must (refine (CD _).mono ?_; rintro e wX ⟨rfl, hbX⟩; obtain ⟨hcX, hfX, hzX⟩ := bkn hbX W1.heap.size hz; have hz := hzX; have Bw := Bw.tr hbX); (try go_wp2_with fail)) | (go_at_call 117; go_must (refine (cntI_any _ _ (sDiff_lt hs)).mono ?_; rintro e wX ⟨rfl, hbX⟩; obtain ⟨hcX, hfX, hzX⟩ := bkn hbX W1.heap.size hz; have hz := hzX; have Bw := Bw.tr hbX); (try go_wp2_with fail)))
        refine hK.out _ _ ?_ (fun hHeld => ?_)
        · (try dsimp only); (try go_keep)
        clear hK K
        (try simp only [Act.put, List.setIfInBounds_toArray, List.set_cons_zero, List.set_cons_succ])
        refine wpAnyH_ready (rs := [3]) (by kernel_rfl) (by simp) ?_
        refine AllReadyH.cons (o := oFreeI21) rfl (fun K hK => ?_) AllReadyH.nil
        dsimp only [oFreeI21]
        go_simp
        (first | (go_at_call 77; go_must (refine (CS _ _ (h.below RE.stays (B1.tr Bw))).mono ?_; rintro e wX ⟨rfl, hbX⟩; obtain ⟨hcX, hfX, hzX⟩ := bkn hbX W1.heap.size hz; have hz := hzX; have Bw := Bw.tr hbX); (try go_wp2_with fail)) | (go_at_call 83; go_must (refine (CD _).mono ?_; rintro e wX ⟨rfl, hbX⟩; obtain ⟨hcX, hfX, hzX⟩ := bkn hbX W1.heap.size hz; have hz := hzX; have Bw := Bw.tr hbX); (try go_wp2_with fail)) | (go_at_call 117; go_must (refine (cntI_any _ _ (sDiff_lt hs)).mono ?_; rintro e wX ⟨rfl, hbX⟩; obtain ⟨hcX, hfX, hzX⟩ := bkn hbX W1.heap.size hz; have hz := hzX; have Bw := Bw.tr hbX); (try go_wp2_with fail)))
        refine hK.out _ _ ?_ (fun hHeld => ?_)
        · (try dsimp only); (try go_keep)
        clear hK K
        (try simp only [Act.put, List.setIfInBounds_toArray, List.set_cons_zero, List.set_cons_succ])
        refine tk 4 oFreeI22 rfl (by kernel_rfl) (v := ?_) (fun _ _ _ h => h) (Or.inl ⟨by rfl, ?_⟩) (by assumption) ?_
        rotate_left 1
        · (intro wS hSw; (try dsimp only at hSw); dsimp only [oFreeI22]; go_simp; (all_goals with_reducible rfl))
        simp only [oFreeI22, putL, List.set]
        refine wpAnyH_ready (rs := [5]) (by kernel_rfl) (by simp) ?_
        refine AllReadyH.cons (o := oFreeI23) rfl (fun K hK => ?_) AllReadyH.nil
        dsimp only [oFreeI23]
        go_simp
        (first | (go_at_call 77; go_must (refine (CS _ _ (h.below RE.stays (B1.tr Bw))).mono ?_; rintro e wX ⟨rfl, hbX⟩; obtain ⟨hcX, hfX, hzX⟩ := bkn hbX W1.heap.size hz; have hz := hzX; have Bw := Bw.tr hbX); (try go_wp2_with fail)) | (go_at_call 83; go_must (refine (CD _).mono ?_; rintro e wX ⟨rfl, hbX⟩; obtain ⟨hcX, hfX, hzX⟩ := bkn hbX W1.heap.size hz; have hz := hzX; have Bw := Bw.tr hbX); (try go_wp2_with fail)) | (go_at_call 117; go_must (refine (cntI_any _ _ (sDiff_lt hs)).mono ?_; rintro e wX ⟨rfl, hbX⟩; obtain ⟨hcX, hfX, hzX⟩ := bkn hbX W1.heap.size hz; have hz := hzX; have Bw := Bw.tr hbX); (try go_wp2_with fail)))
        refine hK.out _ _ ?_ (fun hHeld => ?_)
        · (try dsimp only); (try go_keep)
        clear hK K
        (try simp only [Act.put, List.setIfInBounds_toArray, List.set_cons_zero, List.set_cons_succ])
        refine tk 6 oFreeI24 rfl (by kernel_rfl) (v := ?_) (fun _ _ _ h => h) (Or.inl ⟨by rfl, ?_⟩) (by assumption) ?_
        rotate_left 1
        · (intro wS hSw; (try dsimp only at hSw); dsimp only [oFreeI24]; go_simp; (all_goals with_reducible rfl))
        simp only [oFreeI24, putL, List.set]
        refine wpAnyH_done (by kernel_rfl) ?_ _
        go_wp2
        go_ret
        exact ⟨rfl, B1.tr Bw⟩
      · rw [if_neg q]
        have hne : (((s &&& D : Nat) : Int) != (D : Int)) = true := by rw [bne_iff_ne]; omega
        clear q
        go_enter Try.func87, Try.ntmps87
        go_wp2_with fail
        obtain ⟨W0, hW0⟩ : ∃ W0, W0 = (w.alloc (.cells #[.slice A rows.length c] 26)).alloc (.cells #[.int .i64 x, .int .i64 y, .bool d] 66) := ⟨_, rfl⟩
        obtain ⟨gX, hgX⟩ : ∃ g, g = w.heap.size := ⟨_, rfl⟩
        obtain ⟨gD, hgD⟩ : ∃ g, g = w.heap.size + 1 := ⟨_, rfl⟩
        rw [← hW0] at B0 bX bD ⊢
        rw [← hgD] at bD ⊢
        rw [← hgX] at bX ⊢
        clear hW0 hgX hgD
        have z_0 := bX.c1
        have d_0 := bD.cell 0
        have d_1 := bD.cell 1
        have d_2 := bD.cell 2
        simp only [List.getElem?_toArray, List.getElem?_cons_zero, List.getElem?_cons_succ] at d_0 d_1 d_2
        have hp0 := bX.lt
        have hp1 := bD.lt
        have Bw : Below W0.heap.size W0 W0.drew := (Below.refl _ _).drew
        have hz : W0.heap.size ≤ W0.drew.heap.size := by simp
        go_region_held3 (fun w' => w'.cell? ⟨gX, 0, none⟩ = some (.slice A rows.length c) ∧ w'.cell? ⟨gD, 0, none⟩ = some (.int .i64 x) ∧ w'.cell? ⟨gD, 1, none⟩ = some (.int .i64 y) ∧ w'.cell? ⟨gD, 2, none⟩ = some (.bool d)) (go_keep) (first | (go_at_call 71; go_must (refine (regionOkI_any _ rows _ (h.below RE.stays (B0.tr Bw))).mono ?_; rintro e wX ⟨rfl, hbX⟩; rw [Hk.out];obtain ⟨hcX, hfX, hzX⟩ := bkn hbX W0.heap.size hz; have hz := hzX; have Bw := Bw.tr hbX); (try go_wp2_with fail)) | (go_at_call 98; go_must (refine (domOkI_any x y d _).mono ?_; rintro e wX ⟨rfl, hbX⟩; rw [Hd.out];obtain ⟨hcX, hfX, hzX⟩ := bkn hbX W0.heap.size hz; have hz := hzX; have Bw := Bw.tr hbX); (try go_wp2_with fail)) | (go_at_call 77; go_must (refine (CS _ _ (h.below RE.stays (B0.tr Bw))).mono ?_; rintro e wX ⟨rfl, hbX⟩; obtain ⟨hcX, hfX, hzX⟩ := bkn hbX W0.heap.size hz; have hz := hzX; have Bw := Bw.tr hbX); (try go_wp2_with fail)) | (go_at_call 83; go_must (refine (CD _).mono ?_; rintro e wX ⟨rfl, hbX⟩; obtain ⟨hcX, hfX, hzX⟩ := bkn hbX W0.heap.size hz; have hz := hzX; have Bw := Bw.tr hbX); (try go_wp2_with fail)))
        go_wp2
        go_ret
        exact ⟨rfl, B0.tr Bw⟩
theorem forcedC_any (n all : Int) (q : Bool) (g : Nat) (w : World) (hG : Blk w g 3 #[.int .i64 all]) (hq : decide (n = all) = q) : Calls Try.prog 70 #[.int .i64 n, .pointer (some ⟨g, 0, none⟩)] w (Pure (.bool q) w) := by
  have z := hG.c1
  by_cases e : n = all
  · subst e
    obtain rfl : q = true := by rw [← hq]; simp
    have hT : (n == n) = true := by simp
    clear hq
    go_enter Try.func70, Try.ntmps70
    go_wp2
    go_ret
    exact ⟨rfl, rfl⟩
  · obtain rfl : q = false := by rw [← hq]; simp [e]
    have hne : (n == all) = false := by simpa using e
    clear hq e
    go_enter Try.func70, Try.ntmps70
    go_wp2
    go_ret
    exact ⟨rfl, rfl⟩
set_option maxHeartbeats 4000000 in
set_option maxRecDepth 100000 in
theorem whereF_any (v : Value) (rows : List Int) (all : Int) (g : Nat) (w : World) (h : Rd 1 RInt w v rows) (hG : Blk w g 3 #[.int .i64 all]) : Calls Try.prog 69 #[.agg #[v], .func (.func 70) #[] #[.pointer (some ⟨g, 0, none⟩)]] w (RetOwn 66 3 eDom (whereL rows (fun n => decide (n = all))) w) := by
  obtain ⟨A, c, rfl, hc, hm⟩ := h.form
  have CC : ∀ (n : Int) (q : Bool) (w' : World), Below w.heap.size w w' → ((fun n => decide (n = all)) n = q) → Calls Try.prog 70 #[.int .i64 n, .pointer (some ⟨g, 0, none⟩)] w' (Pure (.bool q) w') := fun n q w' hb hq => forcedC_any n all q g w' (hG.below hb hG.lt) hq
  obtain ⟨R, hR⟩ : ∃ R, R = whereL rows (fun n => decide (n = all)) := ⟨_, rfl⟩
  have hRl : R.length ≤ 128 := by rw [hR]; exact whereL_len rows (fun n => decide (n = all))
  obtain ⟨P, hP⟩ : ∃ P : Dm → Bool, P = whereD rows (fun n => decide (n = all)) := ⟨_, rfl⟩
  have hPd : ∀ d, P d = (domOk d && (fun n => decide (n = all)) (cntWith rows d)) := fun d => by rw [hP]; rfl
  have hR' : [] ++ (((List.range 64).drop 0).flatMap twoD).filter P = R := by rw [hR, hP]; rfl
  rw [← hR]
  have HR := Lib.hid hR'; have HP := Lib.hid hPd; clear hR hP hR' hPd
  have hA := (Below.refl w.heap.size w).al (.cells #[.slice A rows.length c] 26)
  have hA2 := hA.al (.cells #[] 66)
  have bX := (Blk.new_ w 26 #[.slice A rows.length c]).alloc (.cells #[] 66)
  have ownE : OwnL 66 3 eDom w.heap.size ((w.alloc (.cells #[.slice A rows.length c] 26)).alloc (.cells #[] 66)) (.slice (some ⟨w.heap.size + 1, 0, none⟩) ([] : List Dm).length 0) [] := by
    have := (own_empty (w.alloc (.cells #[.slice A rows.length c] 26)) (E := 66) (size := 3) (enc := eDom)).mono (show w.heap.size ≤ _ from hA.size)
    simpa using this
  go_enter Try.func69, Try.ntmps69
  go_wp2_with fail
  go_loopw [5, 12] (fun s5 s12 wr => ∃ (i : Nat) (out : List Dm) (A1 : Option Addr) (c1 : Nat), i ≤ 64 ∧ s12 = .int .i64 i ∧ s5 = .slice A1 out.length c1 ∧ OwnL 66 3 eDom w.heap.size wr (.slice A1 out.length c1) out ∧ Below w.heap.size w wr ∧ Blk wr w.heap.size 26 #[.slice A rows.length c] ∧ Hid (out ++ (((List.range 64).drop i).flatMap twoD).filter P = R)) (fun _ i _ => 64 - (intOf i).toNat)
  case atStart => exact ⟨0, [], _, _, by omega, rfl, rfl, ownE, hA2, bX, HR⟩
  case round =>
    obtain ⟨i, out, A1, c1, hi, rfl, rfl, own, B, bX, HR⟩ := hrel
    clear hA hA2 ownE
    by_cases hlt : i < 64
    · obtain ⟨x, hx⟩ : ∃ x, x = i % 8 := ⟨_, rfl⟩
      obtain ⟨y, hy⟩ : ∃ y, y = i / 8 := ⟨_, rfl⟩
      have hx8 : x < 8 := by omega
      have hy8 : y < 8 := by omega
      have hlen : out.length ≤ 128 := by have := congrArg List.length HR.out; rw [List.length_append] at this; omega
      have Hx := Lib.hid hx; have Hy := Lib.hid hy; clear hx hy
      have Hrt : Hid (domRt i = ((x : Int), (y : Int), false)) := Lib.hid (by unfold domRt; rw [← Hx.out, ← Hy.out])
      have Hdn : Hid (domDn i = ((x : Int), (y : Int), true)) := Lib.hid (by unfold domDn; rw [← Hx.out, ← Hy.out])
      have hdrop : (List.range 64).drop i = i :: (List.range 64).drop (i + 1) := by rw [List.drop_eq_getElem_cons (by simpa using hlt), List.getElem_range]
      have HR2 : Hid ((out ++ (twoD i).filter P) ++ (((List.range 64).drop (i + 1)).flatMap twoD).filter P = R) := Lib.hid (by
        rw [← HR.out, hdrop, List.flatMap_cons, List.filter_append, List.append_assoc])
      clear hdrop
      have bB := Blk.new_ wr 4 #[.bool false, .bool true]
      have own2 := own.alloc (.cells #[.bool false, .bool true] 4)
      have B2 := B.al (.cells #[.bool false, .bool true] 4)
      have bX2 := bX.alloc (.cells #[.bool false, .bool true] 4)
      obtain ⟨gB, hgB⟩ : ∃ g, g = wr.heap.size := ⟨_, rfl⟩
      rw [← hgB] at bB
      have hltB : decide ((i : Int) < 64) = true := decide_eq_true (by omega)
      go_wp2_with fail
      rw [← hgB]
      clear hgB HR
      go_loopw [5, 17] (fun s5 s17 wq => ∃ (J : Int) (o2 : List Dm) (A2 : Option Addr) (c2 : Nat), s17 = .int .i64 J ∧ s5 = .slice A2 o2.length c2 ∧ OwnL 66 3 eDom w.heap.size wq (.slice A2 o2.length c2) o2 ∧ Below w.heap.size w wq ∧ Blk wq w.heap.size 26 #[.slice A rows.length c] ∧ Blk wq gB 4 #[.bool false, .bool true] ∧ Hid ((J = 0 ∧ o2 = out) ∨ (J = 1 ∧ o2 = out ++ [domRt i].filter P) ∨ (J = 2 ∧ o2 = out ++ (twoD i).filter P))) (fun _ i _ => 2 - (intOf i).toNat)
      case atStart => exact ⟨0, out, _, _, rfl, rfl, own2, B2, bX2, bB, Lib.hid (.inl ⟨rfl, rfl⟩)⟩
      case round =>
        obtain ⟨J, o2, A2, c2, rfl, rfl, own3, B3, bX3, bB3, HJ⟩ := hrel
        clear own own2 B B2 bX bX2 bB
        have zB0 := bB3.cell 0
        have zB1 := bB3.cell 1
        simp only [List.getElem?_toArray, List.getElem?_cons_zero, List.getElem?_cons_succ] at zB0 zB1
        have hBl := bB3.lt
        have hXl := bX3.lt
        rcases HJ.out with ⟨rfl, ho⟩ | ⟨rfl, ho⟩ | ⟨rfl, ho⟩
        · subst ho
          clear HJ
          have Hn1 : Hid (P (domRt i) = false → o2 = o2 ++ [domRt i].filter P) := Lib.hid fun q => by rw [List.filter_cons, q]; simp
          have Hn2 : Hid (P (domRt i) = true → o2 ++ [((x : Int), (y : Int), false)] = o2 ++ [domRt i].filter P) := Lib.hid fun q => by rw [List.filter_cons, q, ← Hrt.out]; simp
          have hlo : o2.length ≤ 129 := by omega
          obtain ⟨n, hn⟩ : ∃ n, n = cntWith rows ((x : Int), (y : Int), false) := ⟨_, rfl⟩
          obtain ⟨q, hq⟩ : ∃ q, q = domOk ((x : Int), (y : Int), false) := ⟨_, rfl⟩
          have CW : ∀ (u : Value) (w : World), Rd 1 RInt w u rows → Calls Try.prog 87 #[.agg #[u], .agg #[.int .i64 x, .int .i64 y, .bool false]] w (Ret (.int .i64 n) w) := fun u w k1 => by rw [hn]; exact cntWithI_any u rows x y false w k1
          have CD : ∀ w, Calls Try.prog 98 #[.agg #[.int .i64 x, .int .i64 y, .bool false]] w (Ret (.bool q) w) := fun w => by rw [hq]; exact domOkI_any x y false w
          have hPn := HP.out (domRt i)
          rw [Hrt.out, ← hq, ← hn, ← Hrt.out] at hPn
          have HPn := Lib.hid hPn; clear hPn hq hn
          go_wp2_with fail
          refine (cellAtI_nat i x y _ (by omega) Hx.out Hy.out).mono ?_
          rintro e w3 ⟨rfl, hb3⟩
          have own4 := ((own3.below hb3).alloc (.cells #[.int .i64 x, .int .i64 y] 63)).alloc (.cells #[.int .i64 x, .int .i64 y, .bool false] 66)
          have B4 := ((B3.tr hb3).al (.cells #[.int .i64 x, .int .i64 y] 63)).al (.cells #[.int .i64 x, .int .i64 y, .bool false] 66)
          have bX4 := ((bX3.bl hb3).alloc (.cells #[.int .i64 x, .int .i64 y] 63)).alloc (.cells #[.int .i64 x, .int .i64 y, .bool false] 66)
          have bB4 := ((bB3.bl hb3).alloc (.cells #[.int .i64 x, .int .i64 y] 63)).alloc (.cells #[.int .i64 x, .int .i64 y, .bool false] 66)
          have bD4 := Blk.new2 (w3.alloc (.cells #[.int .i64 x, .int .i64 y] 63)) 66 #[.int .i64 x, .int .i64 y, .bool false] (w3.heap.size + 1) (by simp)
          go_wp2_with fail
          refine (CD _).mono ?_
          rintro e w5 ⟨rfl, hb5⟩
          have own5 := own4.below hb5
          have B5 := B4.tr hb5
          have bX5 := bX4.bl hb5
          have bB5 := bB4.bl hb5
          have bD5 := bD4.bl hb5
          clear own3 B3 bX3 bB3 hb3 own4 B4 bX4 bB4 bD4 hb5 zB0 zB1
          cases q
          · have Hp : Hid (P (domRt i) = false) := Lib.hid (by rw [HPn.out, Bool.false_and])
            go_wp2
            go_roundw
            case rel => exact ⟨_, o2, _, _, rfl, rfl, own5, B5, bX5, bB5, Lib.hid (.inr (.inl ⟨rfl, Hn1.out Hp.out⟩))⟩
            case measure => simp [intOf]
          · have zx := bX5.c1
            have d_0 := bD5.cell 0
            have d_1 := bD5.cell 1
            have d_2 := bD5.cell 2
            simp only [List.getElem?_toArray, List.getElem?_cons_zero, List.getElem?_cons_succ] at d_0 d_1 d_2
            go_wp2_with fail
            refine (CW _ _ (h.below RE.stays B5)).mono ?_
            rintro e w6 ⟨rfl, hb6⟩
            have own6 := own5.below hb6
            have B6 := B5.tr hb6
            have bX6 := bX5.bl hb6
            have bB6 := bB5.bl hb6
            have bD6 := bD5.bl hb6
            clear zx d_0 d_1 d_2 own5 B5 bX5 bB5 bD5 hb6
            obtain ⟨gD, hgD⟩ : ∃ g, g = w3.heap.size + 1 := ⟨_, rfl⟩
            rw [← hgD] at bD6 ⊢
            clear hgD
            rcases hp : (fun n => decide (n = all)) n with _ | _
            · have Hp : Hid (P (domRt i) = false) := Lib.hid (by rw [HPn.out, Bool.true_and]; exact hp)
              go_wp2_with fail
              refine (CC n false _ B6 hp).mono ?_
              rintro e w7 ⟨rfl, rfl⟩
              clear hp
              go_wp2
              go_roundw
              case rel => exact ⟨_, o2, _, _, rfl, rfl, own6, B6, bX6, bB6, Lib.hid (.inr (.inl ⟨rfl, Hn1.out Hp.out⟩))⟩
              case measure => simp [intOf]
            · have Hp : Hid (P (domRt i) = true) := Lib.hid (by rw [HPn.out, Bool.true_and]; exact hp)
              go_wp2_with fail
              refine (CC n true _ B6 hp).mono ?_
              rintro e w7 ⟨rfl, rfl⟩
              clear hp
              have d_0 := bD6.cell 0
              have d_1 := bD6.cell 1
              have d_2 := bD6.cell 2
              simp only [List.getElem?_toArray, List.getElem?_cons_zero, List.getElem?_cons_succ] at d_0 d_1 d_2
              have hDl := bD6.lt
              have H8 : Hid ((o2.length + 1) * 24 ≤ 140737488355328) := Lib.hid (by omega)
              have HM : Hid (o2.length + 1 ≤ maxLen) := Lib.hid (by unfold maxLen; omega)
              go_wp2_with (at_builtin; go_must (refine wpList_app1 (enc := eDom) rowDom lenDom oneDom B6 own6 (((x : Int), (y : Int), false) : Dm) H8.out HM.out rfl _ _ rfl rfl rfl ?_); intro v8 w8 own8 hb8 hg8 hd8; obtain ⟨A8, c8, rfl, hc8, hm8⟩ := own8.form; have bX8 := (bX6.alloc (.cells (eDom ((x : Int), (y : Int), false)).toArray 66)).grown hg8 (fun e => (own6.apart bX6 (by decide)) e.symm); have bB8 := (bB6.alloc (.cells (eDom ((x : Int), (y : Int), false)).toArray 66)).grown hg8 (fun e => (own6.apart bB6 (by decide)) e.symm))
              go_roundw
              case rel => exact ⟨_, _, _, _, rfl, by simp, own8, hb8, bX8, bB8, Lib.hid (.inr (.inl ⟨rfl, Hn2.out Hp.out⟩))⟩
              case measure => simp [intOf]
        · have hlo : o2.length ≤ 129 := by rw [ho, List.length_append]; have := List.length_filter_le P [domRt i]; simp only [List.length_cons, List.length_nil] at this; omega
          have htw : out ++ (twoD i).filter P = o2 ++ [domDn i].filter P := by rw [ho, List.append_assoc, ← List.filter_append]; rfl
          have Hn1 : Hid (P (domDn i) = false → o2 = out ++ (twoD i).filter P) := Lib.hid fun q => by rw [htw, List.filter_cons, q]; simp
          have Hn2 : Hid (P (domDn i) = true → o2 ++ [((x : Int), (y : Int), true)] = out ++ (twoD i).filter P) := Lib.hid fun q => by rw [htw, List.filter_cons, q, ← Hdn.out]; simp
          clear ho HJ htw
          obtain ⟨n, hn⟩ : ∃ n, n = cntWith rows ((x : Int), (y : Int), true) := ⟨_, rfl⟩
          obtain ⟨q, hq⟩ : ∃ q, q = domOk ((x : Int), (y : Int), true) := ⟨_, rfl⟩
          have CW : ∀ (u : Value) (w : World), Rd 1 RInt w u rows → Calls Try.prog 87 #[.agg #[u], .agg #[.int .i64 x, .int .i64 y, .bool true]] w (Ret (.int .i64 n) w) := fun u w k1 => by rw [hn]; exact cntWithI_any u rows x y true w k1
          have CD : ∀ w, Calls Try.prog 98 #[.agg #[.int .i64 x, .int .i64 y, .bool true]] w (Ret (.bool q) w) := fun w => by rw [hq]; exact domOkI_any x y true w
          have hPn := HP.out (domDn i)
          rw [Hdn.out, ← hq, ← hn, ← Hdn.out] at hPn
          have HPn := Lib.hid hPn; clear hPn hq hn
          go_wp2_with fail
          refine (cellAtI_nat i x y _ (by omega) Hx.out Hy.out).mono ?_
          rintro e w3 ⟨rfl, hb3⟩
          have own4 := ((own3.below hb3).alloc (.cells #[.int .i64 x, .int .i64 y] 63)).alloc (.cells #[.int .i64 x, .int .i64 y, .bool true] 66)
          have B4 := ((B3.tr hb3).al (.cells #[.int .i64 x, .int .i64 y] 63)).al (.cells #[.int .i64 x, .int .i64 y, .bool true] 66)
          have bX4 := ((bX3.bl hb3).alloc (.cells #[.int .i64 x, .int .i64 y] 63)).alloc (.cells #[.int .i64 x, .int .i64 y, .bool true] 66)
          have bB4 := ((bB3.bl hb3).alloc (.cells #[.int .i64 x, .int .i64 y] 63)).alloc (.cells #[.int .i64 x, .int .i64 y, .bool true] 66)
          have bD4 := Blk.new2 (w3.alloc (.cells #[.int .i64 x, .int .i64 y] 63)) 66 #[.int .i64 x, .int .i64 y, .bool true] (w3.heap.size + 1) (by simp)
          go_wp2_with fail
          refine (CD _).mono ?_
          rintro e w5 ⟨rfl, hb5⟩
          have own5 := own4.below hb5
          have B5 := B4.tr hb5
          have bX5 := bX4.bl hb5
          have bB5 := bB4.bl hb5
          have bD5 := bD4.bl hb5
          clear own3 B3 bX3 bB3 hb3 own4 B4 bX4 bB4 bD4 hb5 zB0 zB1
          cases q
          · have Hp : Hid (P (domDn i) = false) := Lib.hid (by rw [HPn.out, Bool.false_and])
            go_wp2
            go_roundw
            case rel => exact ⟨_, o2, _, _, rfl, rfl, own5, B5, bX5, bB5, Lib.hid (.inr (.inr ⟨rfl, Hn1.out Hp.out⟩))⟩
            case measure => simp [intOf]
          · have zx := bX5.c1
            have d_0 := bD5.cell 0
            have d_1 := bD5.cell 1
            have d_2 := bD5.cell 2
            simp only [List.getElem?_toArray, List.getElem?_cons_zero, List.getElem?_cons_succ] at d_0 d_1 d_2
            go_wp2_with fail
            refine (CW _ _ (h.below RE.stays B5)).mono ?_
            rintro e w6 ⟨rfl, hb6⟩
            have own6 := own5.below hb6
            have B6 := B5.tr hb6
            have bX6 := bX5.bl hb6
            have bB6 := bB5.bl hb6
            have bD6 := bD5.bl hb6
            clear zx d_0 d_1 d_2 own5 B5 bX5 bB5 bD5 hb6
            obtain ⟨gD, hgD⟩ : ∃ g, g = w3.heap.size + 1 := ⟨_, rfl⟩
            rw [← hgD] at bD6 ⊢
            clear hgD
            rcases hp : (fun n => decide (n = all)) n with _ | _
            · have Hp : Hid (P (domDn i) = false) := Lib.hid (by rw [HPn.out, Bool.true_and]; exact hp)
              go_wp2_with fail
              refine (CC n false _ B6 hp).mono ?_
              rintro e w7 ⟨rfl, rfl⟩
              clear hp
              go_wp2
              go_roundw
              case rel => exact ⟨_, o2, _, _, rfl, rfl, own6, B6, bX6, bB6, Lib.hid (.inr (.inr ⟨rfl, Hn1.out Hp.out⟩))⟩
              case measure => simp [intOf]
            · have Hp : Hid (P (domDn i) = true) := Lib.hid (by rw [HPn.out, Bool.true_and]; exact hp)
              go_wp2_with fail
              refine (CC n true _ B6 hp).mono ?_
              rintro e w7 ⟨rfl, rfl⟩
              clear hp
              have d_0 := bD6.cell 0
              have d_1 := bD6.cell 1
              have d_2 := bD6.cell 2
              simp only [List.getElem?_toArray, List.getElem?_cons_zero, List.getElem?_cons_succ] at d_0 d_1 d_2
              have hDl := bD6.lt
              have H8 : Hid ((o2.length + 1) * 24 ≤ 140737488355328) := Lib.hid (by omega)
              have HM : Hid (o2.length + 1 ≤ maxLen) := Lib.hid (by unfold maxLen; omega)
              go_wp2_with (at_builtin; go_must (refine wpList_app1 (enc := eDom) rowDom lenDom oneDom B6 own6 (((x : Int), (y : Int), true) : Dm) H8.out HM.out rfl _ _ rfl rfl rfl ?_); intro v8 w8 own8 hb8 hg8 hd8; obtain ⟨A8, c8, rfl, hc8, hm8⟩ := own8.form; have bX8 := (bX6.alloc (.cells (eDom ((x : Int), (y : Int), true)).toArray 66)).grown hg8 (fun e => (own6.apart bX6 (by decide)) e.symm); have bB8 := (bB6.alloc (.cells (eDom ((x : Int), (y : Int), true)).toArray 66)).grown hg8 (fun e => (own6.apart bB6 (by decide)) e.symm))
              go_roundw
              case rel => exact ⟨_, _, _, _, rfl, by simp, own8, hb8, bX8, bB8, Lib.hid (.inr (.inr ⟨rfl, Hn2.out Hp.out⟩))⟩
              case measure => simp [intOf]
        · clear HJ
          have Ho := Lib.hid ho; clear ho
          go_wp2
          go_roundw
          case rel => exact ⟨i + 1, o2, _, _, by omega, by go_num, rfl, own3, B3, bX3, by rw [Ho.out]; exact HR2⟩
          case measure => simp [intOf]; omega
    · obtain rfl : i = 64 := by omega
      have ho : out = R := by
        rw [← HR.out, List.drop_of_length_le (by simp)]; simp
      subst ho
      clear HR
      go_wp2
      go_ret
      exact ⟨_, _, rfl, own, B⟩
set_option maxRecDepth 100000 in
theorem forcedI_any (v : Value) (rows : List Int) (w : World) (h : Rd 1 RInt w v rows) : Calls Try.prog 27 #[.agg #[v]] w (fun e w' => ∃ A c, e = .returned (.slice A (forced rows).length c) ∧ Rd 3 RDom w' (.slice A (forced rows).length c) (forced rows) ∧ Below w.heap.size w w') := by
  obtain ⟨A, c, rfl, hc, hm⟩ := h.form
  have hA := (Below.refl w.heap.size w).al (.cells #[.slice A rows.length c] 26)
  have bX := Blk.new_ w 26 #[.slice A rows.length c]
  by_cases h0 : cntRows rows = 0
  · have e : forced rows = [] := by unfold forced; rw [if_pos h0]
    rw [e]
    have C : ∀ (u : Value) (w : World), Rd 1 RInt w u rows → Calls Try.prog 68 #[.agg #[u]] w (Ret (.int .i64 0) w) := fun u w k1 => by have := cntTilI_any u rows w k1; rw [h0] at this; exact this
    clear h0 e
    go_enter Try.func27, Try.ntmps27
    go_wp2_with fail
    refine (C _ _ (h.below RE.stays hA)).mono ?_
    rintro e w1 ⟨rfl, hb1⟩
    go_wp2
    go_ret
    exact ⟨none, 0, rfl, ⟨none, 0, rfl, by simp, by simp [maxLen], fun q => by simp at q⟩, (hA.tr hb1).al _⟩
  · have e : forced rows = whereL rows (fun n => decide (n = cntRows rows)) := by unfold forced; rw [if_neg h0]
    rw [e]
    obtain ⟨k, hk⟩ : ∃ k, k = cntRows rows := ⟨_, rfl⟩
    have C : ∀ (u : Value) (w : World), Rd 1 RInt w u rows → Calls Try.prog 68 #[.agg #[u]] w (Ret (.int .i64 k) w) := fun u w k1 => by rw [hk]; exact cntTilI_any u rows w k1
    rw [← hk] at h0 ⊢
    have hk0 : (k == 0) = false := by simpa using h0
    obtain ⟨L, hL⟩ : ∃ L, L = whereL rows (fun n => decide (n = k)) := ⟨_, rfl⟩
    have CW : ∀ (u : Value) (g : Nat) (w : World), Rd 1 RInt w u rows → Blk w g 3 #[.int .i64 k] → Calls Try.prog 69 #[.agg #[u], .func (.func 70) #[] #[.pointer (some ⟨g, 0, none⟩)]] w (RetOwn 66 3 eDom L w) := fun u g w k1 k2 => by rw [hL]; exact whereF_any u rows k g w k1 k2
    rw [← hL]
    clear h0 e hk hL
    go_enter Try.func27, Try.ntmps27
    go_wp2_with fail
    refine (C _ _ (h.below RE.stays hA)).mono ?_
    rintro e w1 ⟨rfl, hb1⟩
    have B1 := (hA.tr hb1).al (.cells #[.int .i64 k] 3)
    have bX1 := (bX.bl hb1).alloc (.cells #[.int .i64 k] 3)
    have bK := Blk.new_ w1 3 #[.int .i64 k]
    have hl := (bX.bl hb1).lt
    have hn : w.heap.size ≠ w1.heap.size := by omega
    have z0 := bX1.c1
    have zk := bK.c1
    go_wp2_with fail
    refine (CW _ _ _ (h.below RE.stays B1) bK).mono ?_
    rintro e w2 ⟨D, d, rfl, own, hb2⟩
    go_wp2
    go_ret
    exact ⟨D, d, rfl, own.rd lenDom (by decide), B1.tr hb2⟩
abbrev oFreeI25 : Oper := { dst := some 8, op := Go.Op.load 26 (Go.Operand.tmp 1), type := 26, pos := "l15_forced.go:39", after := #[], guard := none }
abbrev oFreeI26 : Oper := { dst := some 10, op := Go.Op.load 26 (Go.Operand.tmp 1), type := 26, pos := "l15_forced.go:39", after := #[], guard := none }
abbrev oFreeI27 : Oper := { dst := some 9, op := Go.Op.call { callee := Go.Callee.value (Go.Operand.func 77), args := #[Go.Operand.tmp 8], argTypes := #[26] }, type := 101, pos := "l15_forced.go:39", after := #[{ on := 0, ground := Go.Ground.data }], guard := none }
abbrev oFreeI28 : Oper := { dst := some 11, op := Go.Op.call { callee := Go.Callee.value (Go.Operand.func 27), args := #[Go.Operand.tmp 10], argTypes := #[26] }, type := 27, pos := "l15_forced.go:39", after := #[{ on := 2, ground := Go.Ground.data }, { on := 1, ground := Go.Ground.chain }], guard := none }
abbrev oFreeI29 : Oper := { dst := some 12, op := Go.Op.call { callee := Go.Callee.value (Go.Operand.func 78), args := #[Go.Operand.tmp 11], argTypes := #[27] }, type := 101, pos := "l15_forced.go:39", after := #[{ on := 3, ground := Go.Ground.data }, { on := 3, ground := Go.Ground.chain }], guard := none }
abbrev oFreeI30 : Oper := { dst := some 13, op := Go.Op.binOp Go.BinOp.andNot 101 (Go.Operand.tmp 9) (Go.Operand.tmp 12) 101, type := 101, pos := "l15_forced.go:39", after := #[{ on := 1, ground := Go.Ground.data }, { on := 4, ground := Go.Ground.data }], guard := none }
abbrev oFreeI31 : Oper := { dst := some 14, op := Go.Op.call { callee := Go.Callee.value (Go.Operand.func 76), args := #[Go.Operand.tmp 13, Go.Operand.const (Go.Value.int Go.IntKind.i64 8)], argTypes := #[101, 3] }, type := 26, pos := "l15_forced.go:39", after := #[{ on := 5, ground := Go.Ground.data }, { on := 4, ground := Go.Ground.chain }], guard := none }
abbrev oFreeI32 : Oper := { dst := none, op := Go.Op.store 26 (Go.Operand.tmp 2) (Go.Operand.tmp 14), type := 0, pos := "l15_forced.go:39", after := #[{ on := 6, ground := Go.Ground.data }, { on := 6, ground := Go.Ground.chain }, { on := 0, ground := Go.Ground.phase }, { on := 1, ground := Go.Ground.phase }, { on := 2, ground := Go.Ground.phase }, { on := 3, ground := Go.Ground.phase }, { on := 4, ground := Go.Ground.phase }, { on := 5, ground := Go.Ground.phase }, { on := 6, ground := Go.Ground.phase }], guard := none }
set_option maxHeartbeats 2000000 in
set_option maxRecDepth 100000 in
theorem freeI_any (v : Value) (rows : List Int) (w : World) (h : Rd 1 RInt w v rows) (hl : Small rows.length) : Calls Try.prog 30 #[.agg #[v]] w (RetReg (freeRows rows) w) := by
  obtain ⟨A, c, rfl, hc, hm⟩ := h.form
  have B0 := ((Below.refl w.heap.size w).al (.cells #[.slice A rows.length c] 26)).al (.cells #[.slice none 0 0] 26)
  have bX := (Blk.new_ w 26 #[.slice A rows.length c]).alloc (.cells #[.slice none 0 0] 26)
  have bR := Blk.new2 (w.alloc (.cells #[.slice A rows.length c] 26)) 26 #[.slice none 0 0] (w.heap.size + 1) (by simp)
  by_cases h0 : cntRows rows = 0
  · have e : freeRows rows = rows := by unfold freeRows; rw [if_pos h0]
    rw [e]
    have CT : ∀ (u : Value) (w : World), Rd 1 RInt w u rows → Calls Try.prog 74 #[.agg #[u]] w (Ret (.bool false) w) := fun u w k1 => isTileI_any u rows false w k1 (.inl ⟨h0, rfl⟩)
    clear h0 e
    go_enter Try.func30, Try.ntmps30
    go_wp2_with fail
    refine (CT _ _ (h.below RE.stays B0)).mono ?_
    rintro e w1 ⟨rfl, hb1⟩
    have B1 := B0.tr hb1
    have bX1 := bX.bl hb1
    have bR1 := bR.bl hb1
    obtain ⟨gX, hgX⟩ : ∃ g, g = w.heap.size := ⟨_, rfl⟩
    obtain ⟨gR, hgR'⟩ : ∃ g, g = w.heap.size + 1 := ⟨_, rfl⟩
    have hgR : w.heap.size ≤ gR := by omega
    rw [← hgR'] at bR1 ⊢
    rw [← hgX] at bX1 ⊢
    clear hgX hgR' hb1 B0 bX bR
    have z0 := bX1.c1
    go_wp2_with fail
    refine (copied_any _ rows _ (h.below RE.stays B1) hl).mono ?_
    rintro e w2 ⟨D, d, rfl, own, hb2⟩
    have bR2 := bR1.bl hb2
    have own := own.mono B1.size
    have z1 := bR2.c1
    have fR : ∀ j, w2.frozen? ⟨gR, j, none⟩ = false := fun j => bR2.frozen j
    have oE := own.far (a := ⟨gR, 0, none⟩) (own.apart bR2 (by decide)) (.slice D rows.length d)
    have BE := (B1.tr hb2).st ⟨gR, 0, none⟩ (.slice D rows.length d) hgR
    have bE := bR2.set1 (.slice D rows.length d)
    have q0 := bE.c1
    go_wp2
    exact bodyPost_ret (v := .agg #[.slice D rows.length d]) (by simp [results, Try.results30, go_sem, q0]) rfl ⟨D, d, rfl, oE, BE⟩
  · have hr : regionOk rows = true := by
      rcases q : regionOk rows with _ | _
      · exact absurd (show cntRows rows = 0 by unfold cntRows; rw [q]; rfl) h0
      · rfl
    have Hok : Hid (RowsOk rows) := Lib.hid (regionOk_iff.1 hr)
    have hs := setOf_lt Hok.out
    obtain ⟨L, hL⟩ : ∃ L, L = forced rows := ⟨_, rfl⟩
    obtain ⟨s, hse⟩ : ∃ s, s = setOf rows := ⟨_, rfl⟩
    obtain ⟨k, hk⟩ : ∃ k, k = coverGo 0 L := ⟨_, rfl⟩
    have e : freeRows rows = rowsOf (sDiff s k) 8 := by unfold freeRows; rw [if_neg h0, hk, hL, hse]
    rw [e]
    have hkl : k < U64 := by rw [hk]; exact coverGo_lt L 0 (by unfold U64; decide)
    have CT : ∀ (u : Value) (w : World), Rd 1 RInt w u rows → Calls Try.prog 74 #[.agg #[u]] w (Ret (.bool true) w) := fun u w k1 => isTileI_any u rows true w k1 (.inr ⟨h0, rfl⟩)
    have CS : ∀ (u : Value) (w : World), Rd 1 RInt w u rows → Calls Try.prog 77 #[.agg #[u]] w (Ret (.int .u64 (s : Nat)) w) := fun u w k1 => by rw [hse]; exact setI_any u rows w k1 Hok
    have CF : ∀ (u : Value) (w : World), Rd 1 RInt w u rows → Calls Try.prog 27 #[.agg #[u]] w (fun e w' => ∃ A c, e = .returned (.slice A L.length c) ∧ Rd 3 RDom w' (.slice A L.length c) L ∧ Below w.heap.size w w') := fun u w k1 => by rw [hL]; exact forcedI_any u rows w k1
    have CC : ∀ (u : Value) (w : World), Rd 3 RDom w u L → Calls Try.prog 78 #[u] w (Ret (.int .u64 (k : Nat)) w) := fun u w k1 => by rw [hk]; exact coveredI_any u L w k1
    rw [← hse] at hs
    obtain ⟨u1, u2⟩ := u64_bits hs hkl
    have hsd : sDiff s k < U64 := sDiff_lt hs
    obtain ⟨S, hS⟩ : ∃ S, S = sDiff s k := ⟨_, rfl⟩
    rw [← hS] at u2 hsd ⊢
    obtain ⟨N, hN⟩ : ∃ N, N = rowsOf S 8 := ⟨_, rfl⟩
    have CR : ∀ w, Calls Try.prog 76 #[.int .u64 S, .int .i64 8] w (RetReg N w) := fun w => by rw [hN]; exact regionOf8 S w hsd
    rw [← hN]
    clear h0 e hL hse hk hr hS hN u1
    go_enter Try.func30, Try.ntmps30
    go_wp2_with fail
    refine (CT _ _ (h.below RE.stays B0)).mono ?_
    rintro e w1 ⟨rfl, hb1⟩
    have B1 := B0.tr hb1
    have bX1 := bX.bl hb1
    have bR1 := bR.bl hb1
    obtain ⟨gX, hgX⟩ : ∃ g, g = w.heap.size := ⟨_, rfl⟩
    obtain ⟨gR, hgR'⟩ : ∃ g, g = w.heap.size + 1 := ⟨_, rfl⟩
    have hgR : w.heap.size ≤ gR := by omega
    have hXR : gX ≠ gR := by omega
    rw [← hgR'] at bR1 ⊢
    rw [← hgX] at bX1 ⊢
    clear hgX hgR' hb1 B0 bX bR
    have hp0 := bX1.lt
    have z0 := bX1.c1
    have Bw : Below w1.heap.size w1 w1.drew := (Below.refl _ _).drew
    have hz : w1.heap.size ≤ w1.drew.heap.size := by simp
    go_wp2_with fail
    refine wp_region_held_drew (S := (fun w' => w'.cell? ⟨gX, 0, none⟩ = some (.slice A rows.length c))) (by kernel_rfl) ?_ (fun hHeld => ?_)
    · (try dsimp only); (try go_keep)
    refine tk 0 oFreeI25 rfl (by kernel_rfl) (v := ?_) (fun _ _ _ h => h) (Or.inl ⟨by rfl, ?_⟩) (by assumption) ?_
    rotate_left 1
    · (intro wS hSw; (try dsimp only at hSw); dsimp only [oFreeI25]; go_simp; (all_goals with_reducible rfl))
    simp only [oFreeI25, putL, List.set]
    refine tk 2 oFreeI26 rfl (by kernel_rfl) (v := ?_) (fun _ _ _ h => h) (Or.inl ⟨by rfl, ?_⟩) (by assumption) ?_
    rotate_left 1
    · (intro wS hSw; (try dsimp only at hSw); dsimp only [oFreeI26]; go_simp; (all_goals with_reducible rfl))
    simp only [oFreeI26, putL, List.set]
    refine wpAnyH_ready (rs := [1]) (by kernel_rfl) (by simp) ?_
    refine AllReadyH.cons (o := oFreeI27) rfl (fun K hK => ?_) AllReadyH.nil
    dsimp only [oFreeI27]
    go_simp
    (first | (go_at_call 77; go_must (refine (CS _ _ (h.below RE.stays (B1.tr Bw))).mono ?_; rintro e wX ⟨rfl, hbX⟩; obtain ⟨hcX, hfX, hzX⟩ := bkn hbX w1.heap.size hz; have hz := hzX; have Bw := Bw.tr hbX); (try go_wp2_with fail)) | (go_at_call 27; go_must (refine (CF _ _ (h.below RE.stays (B1.tr Bw))).mono ?_; rintro e wX ⟨F, f, rfl, rF, hbX⟩; obtain ⟨hcX, hfX, hzX⟩ := bkn hbX w1.heap.size hz; have hz := hzX; have Bw := Bw.tr hbX); (try go_wp2_with fail)) | (go_at_call 78; go_must (refine (CC _ _ rF).mono ?_; rintro e wX ⟨rfl, hbX⟩; obtain ⟨hcX, hfX, hzX⟩ := bkn hbX w1.heap.size hz; have hz := hzX; have Bw := Bw.tr hbX); (try go_wp2_with fail)) | (go_at_call 76; go_must (refine (CR _).mono ?_; rintro e wX ⟨D, d, rfl, own, hbX⟩; have own := own.mono (B1.tr Bw).size;obtain ⟨hcX, hfX, hzX⟩ := bkn hbX w1.heap.size hz; have hz := hzX; have Bw := Bw.tr hbX); (try go_wp2_with fail)))
    refine hK.out _ _ ?_ (fun hHeld => ?_)
    · (try dsimp only); (try go_keep)
    clear hK K
    (try simp only [Act.put, List.setIfInBounds_toArray, List.set_cons_zero, List.set_cons_succ])
    refine wpAnyH_ready (rs := [3]) (by kernel_rfl) (by simp) ?_
    refine AllReadyH.cons (o := oFreeI28) rfl (fun K hK => ?_) AllReadyH.nil
    dsimp only [oFreeI28]
    go_simp
    (first | (go_at_call 77; go_must (refine (CS _ _ (h.below RE.stays (B1.tr Bw))).mono ?_; rintro e wX ⟨rfl, hbX⟩; obtain ⟨hcX, hfX, hzX⟩ := bkn hbX w1.heap.size hz; have hz := hzX; have Bw := Bw.tr hbX); (try go_wp2_with fail)) | (go_at_call 27; go_must (refine (CF _ _ (h.below RE.stays (B1.tr Bw))).mono ?_; rintro e wX ⟨F, f, rfl, rF, hbX⟩; obtain ⟨hcX, hfX, hzX⟩ := bkn hbX w1.heap.size hz; have hz := hzX; have Bw := Bw.tr hbX); (try go_wp2_with fail)) | (go_at_call 78; go_must (refine (CC _ _ rF).mono ?_; rintro e wX ⟨rfl, hbX⟩; obtain ⟨hcX, hfX, hzX⟩ := bkn hbX w1.heap.size hz; have hz := hzX; have Bw := Bw.tr hbX); (try go_wp2_with fail)) | (go_at_call 76; go_must (refine (CR _).mono ?_; rintro e wX ⟨D, d, rfl, own, hbX⟩; have own := own.mono (B1.tr Bw).size;obtain ⟨hcX, hfX, hzX⟩ := bkn hbX w1.heap.size hz; have hz := hzX; have Bw := Bw.tr hbX); (try go_wp2_with fail)))
    refine hK.out _ _ ?_ (fun hHeld => ?_)
    · (try dsimp only); (try go_keep)
    clear hK K
    (try simp only [Act.put, List.setIfInBounds_toArray, List.set_cons_zero, List.set_cons_succ])
    refine wpAnyH_ready (rs := [4]) (by kernel_rfl) (by simp) ?_
    refine AllReadyH.cons (o := oFreeI29) rfl (fun K hK => ?_) AllReadyH.nil
    dsimp only [oFreeI29]
    go_simp
    (first | (go_at_call 77; go_must (refine (CS _ _ (h.below RE.stays (B1.tr Bw))).mono ?_; rintro e wX ⟨rfl, hbX⟩; obtain ⟨hcX, hfX, hzX⟩ := bkn hbX w1.heap.size hz; have hz := hzX; have Bw := Bw.tr hbX); (try go_wp2_with fail)) | (go_at_call 27; go_must (refine (CF _ _ (h.below RE.stays (B1.tr Bw))).mono ?_; rintro e wX ⟨F, f, rfl, rF, hbX⟩; obtain ⟨hcX, hfX, hzX⟩ := bkn hbX w1.heap.size hz; have hz := hzX; have Bw := Bw.tr hbX); (try go_wp2_with fail)) | (go_at_call 78; go_must (refine (CC _ _ rF).mono ?_; rintro e wX ⟨rfl, hbX⟩; obtain ⟨hcX, hfX, hzX⟩ := bkn hbX w1.heap.size hz; have hz := hzX; have Bw := Bw.tr hbX); (try go_wp2_with fail)) | (go_at_call 76; go_must (refine (CR _).mono ?_; rintro e wX ⟨D, d, rfl, own, hbX⟩; have own := own.mono (B1.tr Bw).size;obtain ⟨hcX, hfX, hzX⟩ := bkn hbX w1.heap.size hz; have hz := hzX; have Bw := Bw.tr hbX); (try go_wp2_with fail)))
    refine hK.out _ _ ?_ (fun hHeld => ?_)
    · (try dsimp only); (try go_keep)
    clear hK K
    (try simp only [Act.put, List.setIfInBounds_toArray, List.set_cons_zero, List.set_cons_succ])
    refine tk 5 oFreeI30 rfl (by kernel_rfl) (v := ?_) (fun _ _ _ h => h) (Or.inl ⟨by rfl, ?_⟩) (by assumption) ?_
    rotate_left 1
    · (intro wS hSw; (try dsimp only at hSw); dsimp only [oFreeI30]; go_simp; (all_goals with_reducible rfl))
    simp only [oFreeI30, putL, List.set]
    refine wpAnyH_ready (rs := [6]) (by kernel_rfl) (by simp) ?_
    refine AllReadyH.cons (o := oFreeI31) rfl (fun K hK => ?_) AllReadyH.nil
    dsimp only [oFreeI31]
    go_simp
    (first | (go_at_call 77; go_must (refine (CS _ _ (h.below RE.stays (B1.tr Bw))).mono ?_; rintro e wX ⟨rfl, hbX⟩; obtain ⟨hcX, hfX, hzX⟩ := bkn hbX w1.heap.size hz; have hz := hzX; have Bw := Bw.tr hbX); (try go_wp2_with fail)) | (go_at_call 27; go_must (refine (CF _ _ (h.below RE.stays (B1.tr Bw))).mono ?_; rintro e wX ⟨F, f, rfl, rF, hbX⟩; obtain ⟨hcX, hfX, hzX⟩ := bkn hbX w1.heap.size hz; have hz := hzX; have Bw := Bw.tr hbX); (try go_wp2_with fail)) | (go_at_call 78; go_must (refine (CC _ _ rF).mono ?_; rintro e wX ⟨rfl, hbX⟩; obtain ⟨hcX, hfX, hzX⟩ := bkn hbX w1.heap.size hz; have hz := hzX; have Bw := Bw.tr hbX); (try go_wp2_with fail)) | (go_at_call 76; go_must (refine (CR _).mono ?_; rintro e wX ⟨D, d, rfl, own, hbX⟩; have own := own.mono (B1.tr Bw).size;obtain ⟨hcX, hfX, hzX⟩ := bkn hbX w1.heap.size hz; have hz := hzX; have Bw := Bw.tr hbX); (try go_wp2_with fail)))
    refine hK.out _ _ ?_ (fun hHeld => ?_)
    · (try dsimp only); (try go_keep)
    clear hK K
    (try simp only [Act.put, List.setIfInBounds_toArray, List.set_cons_zero, List.set_cons_succ])
    refine wpAnyH_ready (rs := [7]) (by kernel_rfl) (by simp) ?_
    refine AllReadyH.cons (o := oFreeI32) rfl (fun K hK => ?_) AllReadyH.nil
    (refine step_storeRow rfl 26 _ _ rfl gR #[.slice D N.length d] rfl rfl _ _ (bR1.bl Bw) (by kernel_rfl) rfl (by simp [Value.oneCell']) ?_; intro wE bE hgE; have oE : OwnL 3 1 eInt w.heap.size wE (.slice D N.length d) N := World.ownsRow.kept own hgE (.inr (own.apart (bR1.bl Bw) (by decide))); have BE := (B1.tr Bw).grown hgE (B1.tr Bw).size (fun k hk => by injection hk with hk; subst hk; exact hgR); have bXE := (bX1.bl Bw).grown hgE (by simp; omega); have zE := bXE.c1)
    refine hK.out _ _ ?_ (fun hHeld => ?_)
    · (try dsimp only); (try go_keep)
    clear hK K
    (try simp only [Act.put, List.setIfInBounds_toArray, List.set_cons_zero, List.set_cons_succ])
    refine wpAnyH_done (by kernel_rfl) ?_ _
    go_wp2_with fail
    have q0 := bE.c1
    exact bodyPost_ret (v := .agg #[.slice D N.length d]) (by simp [results, Try.results30, go_sem, q0]) rfl ⟨D, d, rfl, oE, BE⟩
end Go.Proofs.Ytmmeomjclfgljaa
