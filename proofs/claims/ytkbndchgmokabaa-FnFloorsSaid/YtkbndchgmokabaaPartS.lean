/- DominoAt of both sides; HasCell, CellIndex, IsDominoBefore of the reference: the walks. No conditions but sizes and validity where said. -/
import Derived.Test.YtkbndchgmokabaaFloorPl
import Derived.Test.YtkbndchgmokabaaPartI2
import Derived.Test.YtkbndchgmokabaaDrawR
namespace Go.Proofs.Ytkbndchgmokabaa
open Go.ChangeShapes Go.WideShapes Go.ChangeAt Go.RowKit
set_option linter.unusedVariables false
set_option linter.unusedSimpArgs false

set_option maxHeartbeats 1000000 in
set_option maxRecDepth 100000 in
theorem domAtI_any (v : Value) (l : List Dm) (x y : Int) (w : World) (h : Rd 3 RDom w v l) : Calls Try.prog 103 #[v, .agg #[.int .i64 x, .int .i64 y]] w (Ret (.int .i64 (domAt l (x, y))) w) := by
  obtain ⟨A, c, rfl, hc, hm⟩ := h.form
  have hA := ((Below.refl w.heap.size w).al (.cells #[.int .i64 x, .int .i64 y] 70))
  have hx := Blk.new_ w 70 #[.int .i64 x, .int .i64 y]
  have hD : domAt l (x, y) = domAtGo (x, y) l 0 := rfl
  obtain ⟨D, hDD⟩ : ∃ D, D = domAt l (x, y) := ⟨_, rfl⟩
  rw [← hDD] at hD ⊢
  have HD := Lib.hid hD; clear hD hDD
  go_enter Try.func103, Try.ntmps103
  go_wp2
  go_loopw [9] (fun s9 wr => ∃ k : Nat, k ≤ l.length ∧ s9 = .int .i64 k ∧ Hid (domAtGo (x, y) (l.drop k) k = D) ∧ wr.cell? ⟨w.heap.size, 0, none⟩ = some (.int .i64 x) ∧ wr.cell? ⟨w.heap.size, 1, none⟩ = some (.int .i64 y) ∧ w.heap.size < wr.heap.size ∧ Below w.heap.size w wr) (fun i _ => l.length - (intOf i).toNat)
  case atStart => exact ⟨0, Nat.zero_le _, rfl, Lib.hid HD.out.symm, hx.cell 0, hx.cell 1, hx.lt, hA⟩
  case round =>
    obtain ⟨k, hk, rfl, Hg, z1, z2, hwl, hbel⟩ := hrel
    clear hx hA
    by_cases hlt : k < l.length
    · obtain ⟨b, off, rfl, hb, q1, q2, q3⟩ := (h.below RE.stays hbel).atDom hlt
      have hg := Hg.out
      rw [List.drop_eq_getElem_cons hlt] at hg
      obtain ⟨d, hd⟩ : ∃ d, d = l[k] := ⟨_, rfl⟩
      rw [← hd] at q1 q2 q3 hg
      obtain ⟨dx, dy, dn⟩ := d
      simp only at q1 q2 q3
      have hbz := hbel.al (.cells #[.int .i64 dx, .int .i64 dy, .bool dn] 73)
      have Bacc := hbz.drew
      have hz : wr.heap.size + 1 ≤ (wr.alloc (.cells #[.int .i64 dx, .int .i64 dy, .bool dn] 73)).drew.heap.size := by simp
      have hp0 : wr.heap.size < wr.heap.size + 1 := by omega
      have hp1 : w.heap.size < wr.heap.size + 1 := by omega
      have hn1 : w.heap.size ≠ wr.heap.size := by omega
      rcases hok : domOk (dx, dy, dn) with _ | _
      · have hg2 : domAtGo (x, y) (l.drop (k + 1)) (k + 1) = D := by rw [← hg]; simp only [domAtGo]; rw [if_neg (by rw [domHas_no hok]; simp)]
        have HG := Lib.hid hg2; have Hok2 := Lib.hid hok; have Hdd := Lib.hid hd; clear hg hg2 hok hd
        go_wp2_with fail
        refine wp_region_held_drew (S := (fun w' => w'.cell? ⟨wr.heap.size, 0, none⟩ = some (.int .i64 dx) ∧ w'.cell? ⟨wr.heap.size, 1, none⟩ = some (.int .i64 dy) ∧ w'.cell? ⟨wr.heap.size, 2, none⟩ = some (.bool dn) ∧ w'.cell? ⟨w.heap.size, 0, none⟩ = some (.int .i64 x) ∧ w'.cell? ⟨w.heap.size, 1, none⟩ = some (.int .i64 y))) (by kernel_rfl) ?_ (fun hHeld => ?_)
        · (try dsimp only); go_keep
        refine wpAnyH_take (i := 0) (oi := { dst := some 14, op := Go.Op.load 73 (Go.Operand.tmp 6), type := 73, pos := "l06_tiling.go:37", after := #[], guard := none }) (v := ?_) rfl (by kernel_rfl) (by kernel_rfl) (by kernel_rfl) (fun _ _ _ h => h) (Or.inl ⟨by rfl, ?_⟩) (by assumption) ?_
        rotate_left 1
        · (intro wS hSw; (try dsimp only at hSw); go_simp; (all_goals with_reducible rfl))
        simp only [Act.put, List.setIfInBounds_toArray, List.set_cons_zero, List.set_cons_succ]
        refine wpAnyH_ready (rs := [1]) (by kernel_rfl) (by simp) ?_
        refine AllReadyH.cons (o := { dst := some 15, op := Go.Op.call { callee := Go.Callee.value (Go.Operand.func 139), args := #[Go.Operand.tmp 14], argTypes := #[73] }, type := 4, pos := "l06_tiling.go:37", after := #[{ on := 0, ground := Go.Ground.data }], guard := none }) rfl (fun K hK => ?_) AllReadyH.nil
        go_simp
        (first | (go_at_call 139; go_must (refine (domOkI_any dx dy dn _).mono ?_; rintro e wX ⟨rfl, hbX⟩; rw [Hok2.out]; obtain ⟨hcX, hfX, hzX⟩ := bkn hbX (wr.heap.size + 1) hz; have hz := hzX; have Bacc := Bacc.tr hbX); (try go_wp2_with fail)))
        refine hK.out _ _ ?_ (fun hHeld => ?_)
        · (try dsimp only); go_keep
        clear hK K
        (try simp only [Act.put, List.setIfInBounds_toArray, List.set_cons_zero, List.set_cons_succ])
        refine wpAnyH_take (i := 2) (oi := { dst := some 16, op := Go.Op.move (Go.Operand.tmp 15), type := 4, pos := "l06_tiling.go:37", after := #[{ on := 1, ground := Go.Ground.data }, { on := 1, ground := Go.Ground.chain }], guard := none }) (v := ?_) rfl (by kernel_rfl) (by kernel_rfl) (by kernel_rfl) (fun _ _ _ h => h) (Or.inl ⟨by rfl, ?_⟩) (by assumption) ?_
        rotate_left 1
        · (intro wS hSw; (try dsimp only at hSw); go_simp; (all_goals with_reducible rfl))
        simp only [Act.put, List.setIfInBounds_toArray, List.set_cons_zero, List.set_cons_succ]
        refine wpAnyH_take (i := 3) (oi := { dst := some 17, op := Go.Op.load 73 (Go.Operand.tmp 6), type := 73, pos := "l06_tiling.go:37", after := #[{ on := 2, ground := Go.Ground.guard }], guard := some (2, true) }) (v := undef) rfl (by kernel_rfl) (by kernel_rfl) (by kernel_rfl) (fun _ _ _ h => h) (Or.inr ⟨by rfl, rfl⟩) (by assumption) ?_
        simp only [Act.put, List.setIfInBounds_toArray, List.set_cons_zero, List.set_cons_succ]
        refine wpAnyH_take (i := 4) (oi := { dst := some 18, op := Go.Op.call { callee := Go.Callee.value (Go.Operand.func 131), args := #[Go.Operand.tmp 17], argTypes := #[73] }, type := 120, pos := "l06_tiling.go:37", after := #[{ on := 3, ground := Go.Ground.data }, { on := 2, ground := Go.Ground.chain }, { on := 2, ground := Go.Ground.guard }], guard := some (2, true) }) (v := undef) rfl (by kernel_rfl) (by kernel_rfl) (by kernel_rfl) (fun _ _ _ h => h) (Or.inr ⟨by rfl, rfl⟩) (by assumption) ?_
        simp only [Act.put, List.setIfInBounds_toArray, List.set_cons_zero, List.set_cons_succ]
        refine wpAnyH_take (i := 5) (oi := { dst := some 19, op := Go.Op.load 70 (Go.Operand.tmp 3), type := 70, pos := "l06_tiling.go:37", after := #[{ on := 2, ground := Go.Ground.guard }], guard := some (2, true) }) (v := undef) rfl (by kernel_rfl) (by kernel_rfl) (by kernel_rfl) (fun _ _ _ h => h) (Or.inr ⟨by rfl, rfl⟩) (by assumption) ?_
        simp only [Act.put, List.setIfInBounds_toArray, List.set_cons_zero, List.set_cons_succ]
        refine wpAnyH_take (i := 6) (oi := { dst := some 20, op := Go.Op.call { callee := Go.Callee.value (Go.Operand.func 102), args := #[Go.Operand.tmp 18, Go.Operand.tmp 19], argTypes := #[120, 70] }, type := 4, pos := "l06_tiling.go:37", after := #[{ on := 4, ground := Go.Ground.data }, { on := 5, ground := Go.Ground.data }, { on := 4, ground := Go.Ground.chain }, { on := 2, ground := Go.Ground.guard }], guard := some (2, true) }) (v := undef) rfl (by kernel_rfl) (by kernel_rfl) (by kernel_rfl) (fun _ _ _ h => h) (Or.inr ⟨by rfl, rfl⟩) (by assumption) ?_
        simp only [Act.put, List.setIfInBounds_toArray, List.set_cons_zero, List.set_cons_succ]
        refine wpAnyH_take (i := 7) (oi := { dst := some 21, op := Go.Op.pick (Go.Operand.tmp 16) (Go.Operand.tmp 20) (Go.Operand.const (Go.Value.bool false)), type := 4, pos := "l06_tiling.go:37", after := #[{ on := 2, ground := Go.Ground.data }, { on := 6, ground := Go.Ground.data }], guard := none }) (v := ?_) rfl (by kernel_rfl) (by kernel_rfl) (by kernel_rfl) (fun _ _ _ h => h) (Or.inl ⟨by rfl, ?_⟩) (by assumption) ?_
        rotate_left 1
        · (intro wS hSw; (try dsimp only at hSw); go_simp; (all_goals with_reducible rfl))
        simp only [Act.put, List.setIfInBounds_toArray, List.set_cons_zero, List.set_cons_succ]
        refine wpAnyH_done (by kernel_rfl) ?_ _
        go_wp2
        go_roundw
        case rel => exact ⟨k + 1, by omega, by go_num, HG, hHeld.2.2.2.1, hHeld.2.2.2.2, by omega, Bacc⟩
        case measure => simp [intOf]; omega
      · have hDlt := domSet_lt hok
        have hbit := domHas_bit hok (x, y)
        have Hok2 := Lib.hid hok; have Hdd := Lib.hid hd; clear hok hd
        rcases hh : domHas (dx, dy, dn) (x, y) with _ | _
        · have hg2 : domAtGo (x, y) (l.drop (k + 1)) (k + 1) = D := by rw [← hg]; simp only [domAtGo]; rw [if_neg (by rw [hh]; simp)]
          rw [hh] at hbit
          have HG := Lib.hid hg2; have Hbit := Lib.hid hbit; clear hg hg2 hh hbit
          go_wp2_with fail
          refine wp_region_held_drew (S := (fun w' => w'.cell? ⟨wr.heap.size, 0, none⟩ = some (.int .i64 dx) ∧ w'.cell? ⟨wr.heap.size, 1, none⟩ = some (.int .i64 dy) ∧ w'.cell? ⟨wr.heap.size, 2, none⟩ = some (.bool dn) ∧ w'.cell? ⟨w.heap.size, 0, none⟩ = some (.int .i64 x) ∧ w'.cell? ⟨w.heap.size, 1, none⟩ = some (.int .i64 y))) (by kernel_rfl) ?_ (fun hHeld => ?_)
          · (try dsimp only); go_keep
          refine wpAnyH_take (i := 0) (oi := { dst := some 14, op := Go.Op.load 73 (Go.Operand.tmp 6), type := 73, pos := "l06_tiling.go:37", after := #[], guard := none }) (v := ?_) rfl (by kernel_rfl) (by kernel_rfl) (by kernel_rfl) (fun _ _ _ h => h) (Or.inl ⟨by rfl, ?_⟩) (by assumption) ?_
          rotate_left 1
          · (intro wS hSw; (try dsimp only at hSw); go_simp; (all_goals with_reducible rfl))
          simp only [Act.put, List.setIfInBounds_toArray, List.set_cons_zero, List.set_cons_succ]
          refine wpAnyH_ready (rs := [1]) (by kernel_rfl) (by simp) ?_
          refine AllReadyH.cons (o := { dst := some 15, op := Go.Op.call { callee := Go.Callee.value (Go.Operand.func 139), args := #[Go.Operand.tmp 14], argTypes := #[73] }, type := 4, pos := "l06_tiling.go:37", after := #[{ on := 0, ground := Go.Ground.data }], guard := none }) rfl (fun K hK => ?_) AllReadyH.nil
          go_simp
          (first | (go_at_call 139; go_must (refine (domOkI_any dx dy dn _).mono ?_; rintro e wX ⟨rfl, hbX⟩; rw [Hok2.out]; obtain ⟨hcX, hfX, hzX⟩ := bkn hbX (wr.heap.size + 1) hz; have hz := hzX; have Bacc := Bacc.tr hbX); (try go_wp2_with fail)) | (go_at_call 131; go_must (refine (domSetI_yes dx dy dn _ Hok2.out).mono ?_; rintro e wX ⟨rfl, hbX⟩; obtain ⟨hcX, hfX, hzX⟩ := bkn hbX (wr.heap.size + 1) hz; have hz := hzX; have Bacc := Bacc.tr hbX); (try go_wp2_with fail)) | (go_at_call 102; go_must (refine (hasI_any (domSet (dx, dy, dn)) x y _ hDlt).mono ?_; rintro e wX ⟨rfl, hbX⟩; rw [Hbit.out]; obtain ⟨hcX, hfX, hzX⟩ := bkn hbX (wr.heap.size + 1) hz; have hz := hzX; have Bacc := Bacc.tr hbX); (try go_wp2_with fail)))
          refine hK.out _ _ ?_ (fun hHeld => ?_)
          · (try dsimp only); go_keep
          clear hK K
          (try simp only [Act.put, List.setIfInBounds_toArray, List.set_cons_zero, List.set_cons_succ])
          refine wpAnyH_take (i := 2) (oi := { dst := some 16, op := Go.Op.move (Go.Operand.tmp 15), type := 4, pos := "l06_tiling.go:37", after := #[{ on := 1, ground := Go.Ground.data }, { on := 1, ground := Go.Ground.chain }], guard := none }) (v := ?_) rfl (by kernel_rfl) (by kernel_rfl) (by kernel_rfl) (fun _ _ _ h => h) (Or.inl ⟨by rfl, ?_⟩) (by assumption) ?_
          rotate_left 1
          · (intro wS hSw; (try dsimp only at hSw); go_simp; (all_goals with_reducible rfl))
          simp only [Act.put, List.setIfInBounds_toArray, List.set_cons_zero, List.set_cons_succ]
          refine wpAnyH_take (i := 3) (oi := { dst := some 17, op := Go.Op.load 73 (Go.Operand.tmp 6), type := 73, pos := "l06_tiling.go:37", after := #[{ on := 2, ground := Go.Ground.guard }], guard := some (2, true) }) (v := ?_) rfl (by kernel_rfl) (by kernel_rfl) (by kernel_rfl) (fun _ _ _ h => h) (Or.inl ⟨by rfl, ?_⟩) (by assumption) ?_
          rotate_left 1
          · (intro wS hSw; (try dsimp only at hSw); go_simp; (all_goals with_reducible rfl))
          simp only [Act.put, List.setIfInBounds_toArray, List.set_cons_zero, List.set_cons_succ]
          refine wpAnyH_take (i := 5) (oi := { dst := some 19, op := Go.Op.load 70 (Go.Operand.tmp 3), type := 70, pos := "l06_tiling.go:37", after := #[{ on := 2, ground := Go.Ground.guard }], guard := some (2, true) }) (v := ?_) rfl (by kernel_rfl) (by kernel_rfl) (by kernel_rfl) (fun _ _ _ h => h) (Or.inl ⟨by rfl, ?_⟩) (by assumption) ?_
          rotate_left 1
          · (intro wS hSw; (try dsimp only at hSw); go_simp; (all_goals with_reducible rfl))
          simp only [Act.put, List.setIfInBounds_toArray, List.set_cons_zero, List.set_cons_succ]
          refine wpAnyH_ready (rs := [4]) (by kernel_rfl) (by simp) ?_
          refine AllReadyH.cons (o := { dst := some 18, op := Go.Op.call { callee := Go.Callee.value (Go.Operand.func 131), args := #[Go.Operand.tmp 17], argTypes := #[73] }, type := 120, pos := "l06_tiling.go:37", after := #[{ on := 3, ground := Go.Ground.data }, { on := 2, ground := Go.Ground.chain }, { on := 2, ground := Go.Ground.guard }], guard := some (2, true) }) rfl (fun K hK => ?_) AllReadyH.nil
          go_simp
          (first | (go_at_call 139; go_must (refine (domOkI_any dx dy dn _).mono ?_; rintro e wX ⟨rfl, hbX⟩; rw [Hok2.out]; obtain ⟨hcX, hfX, hzX⟩ := bkn hbX (wr.heap.size + 1) hz; have hz := hzX; have Bacc := Bacc.tr hbX); (try go_wp2_with fail)) | (go_at_call 131; go_must (refine (domSetI_yes dx dy dn _ Hok2.out).mono ?_; rintro e wX ⟨rfl, hbX⟩; obtain ⟨hcX, hfX, hzX⟩ := bkn hbX (wr.heap.size + 1) hz; have hz := hzX; have Bacc := Bacc.tr hbX); (try go_wp2_with fail)) | (go_at_call 102; go_must (refine (hasI_any (domSet (dx, dy, dn)) x y _ hDlt).mono ?_; rintro e wX ⟨rfl, hbX⟩; rw [Hbit.out]; obtain ⟨hcX, hfX, hzX⟩ := bkn hbX (wr.heap.size + 1) hz; have hz := hzX; have Bacc := Bacc.tr hbX); (try go_wp2_with fail)))
          refine hK.out _ _ ?_ (fun hHeld => ?_)
          · (try dsimp only); go_keep
          clear hK K
          (try simp only [Act.put, List.setIfInBounds_toArray, List.set_cons_zero, List.set_cons_succ])
          refine wpAnyH_ready (rs := [6]) (by kernel_rfl) (by simp) ?_
          refine AllReadyH.cons (o := { dst := some 20, op := Go.Op.call { callee := Go.Callee.value (Go.Operand.func 102), args := #[Go.Operand.tmp 18, Go.Operand.tmp 19], argTypes := #[120, 70] }, type := 4, pos := "l06_tiling.go:37", after := #[{ on := 4, ground := Go.Ground.data }, { on := 5, ground := Go.Ground.data }, { on := 4, ground := Go.Ground.chain }, { on := 2, ground := Go.Ground.guard }], guard := some (2, true) }) rfl (fun K hK => ?_) AllReadyH.nil
          go_simp
          (first | (go_at_call 139; go_must (refine (domOkI_any dx dy dn _).mono ?_; rintro e wX ⟨rfl, hbX⟩; rw [Hok2.out]; obtain ⟨hcX, hfX, hzX⟩ := bkn hbX (wr.heap.size + 1) hz; have hz := hzX; have Bacc := Bacc.tr hbX); (try go_wp2_with fail)) | (go_at_call 131; go_must (refine (domSetI_yes dx dy dn _ Hok2.out).mono ?_; rintro e wX ⟨rfl, hbX⟩; obtain ⟨hcX, hfX, hzX⟩ := bkn hbX (wr.heap.size + 1) hz; have hz := hzX; have Bacc := Bacc.tr hbX); (try go_wp2_with fail)) | (go_at_call 102; go_must (refine (hasI_any (domSet (dx, dy, dn)) x y _ hDlt).mono ?_; rintro e wX ⟨rfl, hbX⟩; rw [Hbit.out]; obtain ⟨hcX, hfX, hzX⟩ := bkn hbX (wr.heap.size + 1) hz; have hz := hzX; have Bacc := Bacc.tr hbX); (try go_wp2_with fail)))
          refine hK.out _ _ ?_ (fun hHeld => ?_)
          · (try dsimp only); go_keep
          clear hK K
          (try simp only [Act.put, List.setIfInBounds_toArray, List.set_cons_zero, List.set_cons_succ])
          refine wpAnyH_take (i := 7) (oi := { dst := some 21, op := Go.Op.pick (Go.Operand.tmp 16) (Go.Operand.tmp 20) (Go.Operand.const (Go.Value.bool false)), type := 4, pos := "l06_tiling.go:37", after := #[{ on := 2, ground := Go.Ground.data }, { on := 6, ground := Go.Ground.data }], guard := none }) (v := ?_) rfl (by kernel_rfl) (by kernel_rfl) (by kernel_rfl) (fun _ _ _ h => h) (Or.inl ⟨by rfl, ?_⟩) (by assumption) ?_
          rotate_left 1
          · (intro wS hSw; (try dsimp only at hSw); go_simp; (all_goals with_reducible rfl))
          simp only [Act.put, List.setIfInBounds_toArray, List.set_cons_zero, List.set_cons_succ]
          refine wpAnyH_done (by kernel_rfl) ?_ _
          go_wp2
          go_roundw
          case rel => exact ⟨k + 1, by omega, by go_num, HG, hHeld.2.2.2.1, hHeld.2.2.2.2, by omega, Bacc⟩
          case measure => simp [intOf]; omega
        · have hg2 : (k : Int) = D := by rw [← hg]; simp only [domAtGo]; rw [if_pos hh]
          rw [hh] at hbit
          have HG := Lib.hid hg2; have Hbit := Lib.hid hbit; clear hg hg2 hh hbit
          go_wp2_with fail
          refine wp_region_held_drew (S := (fun w' => w'.cell? ⟨wr.heap.size, 0, none⟩ = some (.int .i64 dx) ∧ w'.cell? ⟨wr.heap.size, 1, none⟩ = some (.int .i64 dy) ∧ w'.cell? ⟨wr.heap.size, 2, none⟩ = some (.bool dn) ∧ w'.cell? ⟨w.heap.size, 0, none⟩ = some (.int .i64 x) ∧ w'.cell? ⟨w.heap.size, 1, none⟩ = some (.int .i64 y))) (by kernel_rfl) ?_ (fun hHeld => ?_)
          · (try dsimp only); go_keep
          refine wpAnyH_take (i := 0) (oi := { dst := some 14, op := Go.Op.load 73 (Go.Operand.tmp 6), type := 73, pos := "l06_tiling.go:37", after := #[], guard := none }) (v := ?_) rfl (by kernel_rfl) (by kernel_rfl) (by kernel_rfl) (fun _ _ _ h => h) (Or.inl ⟨by rfl, ?_⟩) (by assumption) ?_
          rotate_left 1
          · (intro wS hSw; (try dsimp only at hSw); go_simp; (all_goals with_reducible rfl))
          simp only [Act.put, List.setIfInBounds_toArray, List.set_cons_zero, List.set_cons_succ]
          refine wpAnyH_ready (rs := [1]) (by kernel_rfl) (by simp) ?_
          refine AllReadyH.cons (o := { dst := some 15, op := Go.Op.call { callee := Go.Callee.value (Go.Operand.func 139), args := #[Go.Operand.tmp 14], argTypes := #[73] }, type := 4, pos := "l06_tiling.go:37", after := #[{ on := 0, ground := Go.Ground.data }], guard := none }) rfl (fun K hK => ?_) AllReadyH.nil
          go_simp
          (first | (go_at_call 139; go_must (refine (domOkI_any dx dy dn _).mono ?_; rintro e wX ⟨rfl, hbX⟩; rw [Hok2.out]; obtain ⟨hcX, hfX, hzX⟩ := bkn hbX (wr.heap.size + 1) hz; have hz := hzX; have Bacc := Bacc.tr hbX); (try go_wp2_with fail)) | (go_at_call 131; go_must (refine (domSetI_yes dx dy dn _ Hok2.out).mono ?_; rintro e wX ⟨rfl, hbX⟩; obtain ⟨hcX, hfX, hzX⟩ := bkn hbX (wr.heap.size + 1) hz; have hz := hzX; have Bacc := Bacc.tr hbX); (try go_wp2_with fail)) | (go_at_call 102; go_must (refine (hasI_any (domSet (dx, dy, dn)) x y _ hDlt).mono ?_; rintro e wX ⟨rfl, hbX⟩; rw [Hbit.out]; obtain ⟨hcX, hfX, hzX⟩ := bkn hbX (wr.heap.size + 1) hz; have hz := hzX; have Bacc := Bacc.tr hbX); (try go_wp2_with fail)))
          refine hK.out _ _ ?_ (fun hHeld => ?_)
          · (try dsimp only); go_keep
          clear hK K
          (try simp only [Act.put, List.setIfInBounds_toArray, List.set_cons_zero, List.set_cons_succ])
          refine wpAnyH_take (i := 2) (oi := { dst := some 16, op := Go.Op.move (Go.Operand.tmp 15), type := 4, pos := "l06_tiling.go:37", after := #[{ on := 1, ground := Go.Ground.data }, { on := 1, ground := Go.Ground.chain }], guard := none }) (v := ?_) rfl (by kernel_rfl) (by kernel_rfl) (by kernel_rfl) (fun _ _ _ h => h) (Or.inl ⟨by rfl, ?_⟩) (by assumption) ?_
          rotate_left 1
          · (intro wS hSw; (try dsimp only at hSw); go_simp; (all_goals with_reducible rfl))
          simp only [Act.put, List.setIfInBounds_toArray, List.set_cons_zero, List.set_cons_succ]
          refine wpAnyH_take (i := 3) (oi := { dst := some 17, op := Go.Op.load 73 (Go.Operand.tmp 6), type := 73, pos := "l06_tiling.go:37", after := #[{ on := 2, ground := Go.Ground.guard }], guard := some (2, true) }) (v := ?_) rfl (by kernel_rfl) (by kernel_rfl) (by kernel_rfl) (fun _ _ _ h => h) (Or.inl ⟨by rfl, ?_⟩) (by assumption) ?_
          rotate_left 1
          · (intro wS hSw; (try dsimp only at hSw); go_simp; (all_goals with_reducible rfl))
          simp only [Act.put, List.setIfInBounds_toArray, List.set_cons_zero, List.set_cons_succ]
          refine wpAnyH_take (i := 5) (oi := { dst := some 19, op := Go.Op.load 70 (Go.Operand.tmp 3), type := 70, pos := "l06_tiling.go:37", after := #[{ on := 2, ground := Go.Ground.guard }], guard := some (2, true) }) (v := ?_) rfl (by kernel_rfl) (by kernel_rfl) (by kernel_rfl) (fun _ _ _ h => h) (Or.inl ⟨by rfl, ?_⟩) (by assumption) ?_
          rotate_left 1
          · (intro wS hSw; (try dsimp only at hSw); go_simp; (all_goals with_reducible rfl))
          simp only [Act.put, List.setIfInBounds_toArray, List.set_cons_zero, List.set_cons_succ]
          refine wpAnyH_ready (rs := [4]) (by kernel_rfl) (by simp) ?_
          refine AllReadyH.cons (o := { dst := some 18, op := Go.Op.call { callee := Go.Callee.value (Go.Operand.func 131), args := #[Go.Operand.tmp 17], argTypes := #[73] }, type := 120, pos := "l06_tiling.go:37", after := #[{ on := 3, ground := Go.Ground.data }, { on := 2, ground := Go.Ground.chain }, { on := 2, ground := Go.Ground.guard }], guard := some (2, true) }) rfl (fun K hK => ?_) AllReadyH.nil
          go_simp
          (first | (go_at_call 139; go_must (refine (domOkI_any dx dy dn _).mono ?_; rintro e wX ⟨rfl, hbX⟩; rw [Hok2.out]; obtain ⟨hcX, hfX, hzX⟩ := bkn hbX (wr.heap.size + 1) hz; have hz := hzX; have Bacc := Bacc.tr hbX); (try go_wp2_with fail)) | (go_at_call 131; go_must (refine (domSetI_yes dx dy dn _ Hok2.out).mono ?_; rintro e wX ⟨rfl, hbX⟩; obtain ⟨hcX, hfX, hzX⟩ := bkn hbX (wr.heap.size + 1) hz; have hz := hzX; have Bacc := Bacc.tr hbX); (try go_wp2_with fail)) | (go_at_call 102; go_must (refine (hasI_any (domSet (dx, dy, dn)) x y _ hDlt).mono ?_; rintro e wX ⟨rfl, hbX⟩; rw [Hbit.out]; obtain ⟨hcX, hfX, hzX⟩ := bkn hbX (wr.heap.size + 1) hz; have hz := hzX; have Bacc := Bacc.tr hbX); (try go_wp2_with fail)))
          refine hK.out _ _ ?_ (fun hHeld => ?_)
          · (try dsimp only); go_keep
          clear hK K
          (try simp only [Act.put, List.setIfInBounds_toArray, List.set_cons_zero, List.set_cons_succ])
          refine wpAnyH_ready (rs := [6]) (by kernel_rfl) (by simp) ?_
          refine AllReadyH.cons (o := { dst := some 20, op := Go.Op.call { callee := Go.Callee.value (Go.Operand.func 102), args := #[Go.Operand.tmp 18, Go.Operand.tmp 19], argTypes := #[120, 70] }, type := 4, pos := "l06_tiling.go:37", after := #[{ on := 4, ground := Go.Ground.data }, { on := 5, ground := Go.Ground.data }, { on := 4, ground := Go.Ground.chain }, { on := 2, ground := Go.Ground.guard }], guard := some (2, true) }) rfl (fun K hK => ?_) AllReadyH.nil
          go_simp
          (first | (go_at_call 139; go_must (refine (domOkI_any dx dy dn _).mono ?_; rintro e wX ⟨rfl, hbX⟩; rw [Hok2.out]; obtain ⟨hcX, hfX, hzX⟩ := bkn hbX (wr.heap.size + 1) hz; have hz := hzX; have Bacc := Bacc.tr hbX); (try go_wp2_with fail)) | (go_at_call 131; go_must (refine (domSetI_yes dx dy dn _ Hok2.out).mono ?_; rintro e wX ⟨rfl, hbX⟩; obtain ⟨hcX, hfX, hzX⟩ := bkn hbX (wr.heap.size + 1) hz; have hz := hzX; have Bacc := Bacc.tr hbX); (try go_wp2_with fail)) | (go_at_call 102; go_must (refine (hasI_any (domSet (dx, dy, dn)) x y _ hDlt).mono ?_; rintro e wX ⟨rfl, hbX⟩; rw [Hbit.out]; obtain ⟨hcX, hfX, hzX⟩ := bkn hbX (wr.heap.size + 1) hz; have hz := hzX; have Bacc := Bacc.tr hbX); (try go_wp2_with fail)))
          refine hK.out _ _ ?_ (fun hHeld => ?_)
          · (try dsimp only); go_keep
          clear hK K
          (try simp only [Act.put, List.setIfInBounds_toArray, List.set_cons_zero, List.set_cons_succ])
          refine wpAnyH_take (i := 7) (oi := { dst := some 21, op := Go.Op.pick (Go.Operand.tmp 16) (Go.Operand.tmp 20) (Go.Operand.const (Go.Value.bool false)), type := 4, pos := "l06_tiling.go:37", after := #[{ on := 2, ground := Go.Ground.data }, { on := 6, ground := Go.Ground.data }], guard := none }) (v := ?_) rfl (by kernel_rfl) (by kernel_rfl) (by kernel_rfl) (fun _ _ _ h => h) (Or.inl ⟨by rfl, ?_⟩) (by assumption) ?_
          rotate_left 1
          · (intro wS hSw; (try dsimp only at hSw); go_simp; (all_goals with_reducible rfl))
          simp only [Act.put, List.setIfInBounds_toArray, List.set_cons_zero, List.set_cons_succ]
          refine wpAnyH_done (by kernel_rfl) ?_ _
          go_wp2
          go_ret
          exact ⟨retI HG.out, Bacc⟩
    · obtain rfl : k = l.length := by omega
      have hg := Hg.out
      rw [List.drop_of_length_le (Nat.le_refl _)] at hg
      have HG : Hid ((-1 : Int) = D) := Lib.hid hg
      clear hg
      go_wp2
      go_ret
      exact ⟨retI HG.out, hbel⟩

theorem i64_bit {r : Int} {x : Nat} (h0 : 0 ≤ r) (h1 : r ≤ 255) (hx : x < 8) : (bits .and .i64 (r / 2 ^ x) 1 == 1) = r.toNat.testBit x := by
  obtain ⟨n, rfl⟩ := Int.eq_ofNat_of_zero_le h0
  rw [i64_and1]
  have e : ((n : Int) / 2 ^ x) % 2 = ((n / 2 ^ x % 2 : Nat) : Int) := by simp
  rw [e, Int.toNat_natCast, Nat.testBit_eq_decide_div_mod_eq]
  rw [Bool.eq_iff_iff, beq_iff_eq, decide_eq_true_iff]; omega
set_option maxRecDepth 100000 in
theorem l03HasS_yes (v : Value) (rows : List Int) (x y : Nat) (w : World) (h : Rd 1 RInt w v rows) (Hok : Hid (RowsOk rows)) (hx : x < 8) (hy : y < 8) : Calls Try.prog 86 #[.agg #[v], .agg #[.int .i64 x, .int .i64 y]] w (Ret (.bool ((setOf rows).testBit (8 * y + x))) w) := by
  obtain ⟨A, c, rfl, hc, hm⟩ := h.form
  have hA := ((Below.refl w.heap.size w).al (.cells #[.slice A rows.length c] 31)).al (.cells #[.int .i64 x, .int .i64 y] 70)
  have hbit := setOf_bit Hok.out (8 * y + x)
  rw [show (8 * y + x) / 8 = y by omega, show (8 * y + x) % 8 = x by omega] at hbit
  obtain ⟨B, hB⟩ : ∃ B, B = (setOf rows).testBit (8 * y + x) := ⟨_, rfl⟩
  rw [← hB] at hbit ⊢
  clear hB
  by_cases hlt : y < rows.length
  · obtain ⟨b, off, rfl, hb, q1⟩ := h.atInt hlt
    rw [List.getD_eq_getElem?_getD, List.getElem?_eq_getElem hlt, Option.getD_some] at hbit
    obtain ⟨k0, k1⟩ := Hok.out.2 rows[y] (List.getElem_mem _)
    obtain ⟨r, hr⟩ : ∃ r, r = rows[y] := ⟨_, rfl⟩
    rw [← hr] at q1 hbit k0 k1
    have e1 := i64_bit k0 k1 hx
    rw [← hbit] at e1
    have hltI : (y : Int) < (rows.length : Int) := by omega
    have hbn1 : b ≠ w.heap.size := by omega
    have hbn2 : b ≠ w.heap.size + 1 := by omega
    clear hbit hr
    go_enter Try.func86, Try.ntmps86
    go_wp2_with fail
    go_quiet (fail)
    go_wp2
    go_ret
    exact ⟨rfl, below_drewN hA _⟩
  · have hB0 : B = false := by rw [hbit, List.getD_eq_getElem?_getD, List.getElem?_eq_none (by omega)]; simp
    have hltD : decide (y < rows.length) = false := by simpa using hlt
    have hltI : decide ((y : Int) < (rows.length : Int)) = false := by simpa using hlt
    have HB0 := Lib.hid hB0; clear hB0 hbit hlt
    go_enter Try.func86, Try.ntmps86
    go_wp2_with fail
    go_quiet (fail)
    go_wp2
    go_ret
    exact ⟨retB HB0.out.symm, below_drewN hA _⟩
end Go.Proofs.Ytkbndchgmokabaa
