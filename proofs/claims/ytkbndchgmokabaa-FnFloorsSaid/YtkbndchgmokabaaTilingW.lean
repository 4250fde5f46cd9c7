/- IsTiling of both sides; the cells of a region as the reference lists them: the walks. No conditions but sizes. -/
import Derived.Test.YtkbndchgmokabaaTiling
import Derived.Test.YtkbndchgmokabaaPartS4
import Derived.Test.YtkbndchgmokabaaPartI2
import Derived.Test.YtkbndchgmokabaaRect
import Derived.IntWalk
namespace Go.Proofs.Ytkbndchgmokabaa
open Go.ChangeShapes Go.WideShapes Go.ChangeAt Go.RowKit
set_option linter.unusedVariables false
set_option linter.unusedSimpArgs false

theorem cellAtS_n2 (i x y : Nat) (w : World) (hi : i < 64) (hx : x = i % 8) (hy : y = i / 8) : Calls Try.prog 85 #[.int .i64 i] w (Ret (.tuple #[.agg #[.int .i64 x, .int .i64 y], .bool true]) w) := by
  have := cellAtS_yes i w hi
  rw [hx, hy]; simpa using this
theorem coverGo_cons (s : Nat) (d : Dm) (r : List Dm) : coverGo s (d :: r) = coverGo (if domOk d then s ||| domSet d else s) r := rfl
set_option maxHeartbeats 1000000 in
set_option maxRecDepth 100000 in
theorem coveredI_any (v : Value) (l : List Dm) (w : World) (h : Rd 3 RDom w v l) : Calls Try.prog 118 #[v] w (Ret (.int .u64 (coverGo 0 l : Nat)) w) := by
  obtain ⟨A, c, rfl, hc, hm⟩ := h.form
  go_enter Try.func118, Try.ntmps118
  go_wp2
  go_loopw [3, 8] (fun s3 s8 wr => ∃ k S : Nat, k ≤ l.length ∧ s8 = .int .i64 k ∧ s3 = .int .u64 S ∧ S < U64 ∧ Hid (coverGo S (l.drop k) = coverGo 0 l) ∧ Below w.heap.size w wr) (fun _ i _ => l.length - (intOf i).toNat)
  case atStart => exact ⟨0, 0, Nat.zero_le _, rfl, rfl, zero_lt_U64, Lib.hid rfl, Below.refl _ _⟩
  case round =>
    obtain ⟨k, S, hk, rfl, rfl, hS, Hg, hbel⟩ := hrel
    by_cases hlt : k < l.length
    · obtain ⟨b, off, rfl, hb, q1, q2, q3⟩ := (h.below RE.stays hbel).atDom hlt
      have hg := Hg.out
      rw [List.drop_eq_getElem_cons hlt, coverGo_cons] at hg
      obtain ⟨d, hd⟩ : ∃ d, d = l[k] := ⟨_, rfl⟩
      rw [← hd] at q1 q2 q3 hg
      obtain ⟨x, y, dn⟩ := d
      simp only at q1 q2 q3
      have bD := Blk.new_ wr 73 #[.int .i64 x, .int .i64 y, .bool dn]
      rcases hok : domOk (x, y, dn) with _ | _
      · rw [hok, if_neg (by simp)] at hg
        have Hg2 := Lib.hid hg; have Hok := Lib.hid hok; clear hg hok hd
        go_wp2_with fail
        refine (domOkI_any x y dn _).mono ?_
        rintro e w1 ⟨rfl, hb1⟩
        rw [Hok.out]
        go_wp2
        go_roundw
        case rel => exact ⟨k + 1, S, by omega, by go_num, rfl, hS, Hg2, (hbel.al _).tr hb1⟩
        case measure => simp [intOf]; omega
      · rw [hok, if_pos rfl] at hg
        have hDlt := domSet_lt hok
        have Hok := Lib.hid hok; clear hok hd
        go_wp2_with fail
        refine (domOkI_any x y dn _).mono ?_
        rintro e w1 ⟨rfl, hb1⟩
        rw [Hok.out]
        have bD1 := bD.bl hb1
        have z0 := bD1.cell 0
        have z1 := bD1.cell 1
        have z2 := bD1.cell 2
        simp only [List.getElem?_toArray, List.getElem?_cons_zero, List.getElem?_cons_succ] at z0 z1 z2
        obtain ⟨D, hD⟩ : ∃ D, D = domSet (x, y, dn) := ⟨_, rfl⟩
        have hor : bits .or .u64 (S : Int) (D : Int) = ((S ||| D : Nat) : Int) := by
          rw [← hD] at hDlt
          unfold U64 at hS hDlt
          exact u64_or_nat S D hS hDlt
        have hlt2 : S ||| D < U64 := by rw [hD]; exact or_U64 hS hDlt
        rw [← hD] at hg
        have Hg2 := Lib.hid hg; clear hg
        have HD := Lib.hid hD; clear hD
        go_wp2_with fail
        refine (domSetI_yes x y dn _ Hok.out).mono ?_
        rintro e w2 ⟨rfl, hb2⟩
        rw [← HD.out]
        go_wp2
        go_roundw
        case rel => exact ⟨k + 1, S ||| D, by omega, by go_num, rfl, hlt2, Hg2, ((hbel.al _).tr hb1).tr hb2⟩
        case measure => simp [intOf]; omega
    · obtain rfl : k = l.length := by omega
      have hg := Hg.out
      rw [List.drop_of_length_le (Nat.le_refl _)] at hg
      have hg2 : S = coverGo 0 l := hg
      have HG := Lib.hid hg2; clear hg hg2
      go_wp2
      go_ret
      exact ⟨congrArg Ending.returned (retU' HG.out), hbel⟩

set_option maxHeartbeats 2000000 in
set_option maxRecDepth 100000 in
theorem tilingI_any (v u : Value) (rows : List Int) (l : List Dm) (w : World) (h : Rd 1 RInt w v rows) (h2 : Rd 3 RDom w u l) : Calls Try.prog 121 #[.agg #[v], u] w (Ret (.bool (isTiling rows l)) w) := by
  obtain ⟨A, c, rfl, hc, hm⟩ := h.form
  obtain ⟨A2, c2, rfl, hc2, hm2⟩ := h2.form
  have hA := ((Below.refl w.heap.size w).al (.cells #[.slice A rows.length c] 31))
  have hz : w.heap.size + 1 ≤ (w.alloc (.cells #[.slice A rows.length c] 31)).drew.heap.size := by simp
  have hp0 : w.heap.size < w.heap.size + 1 := by omega
  have Bacc := hA.drew
  have HR := Lib.hid h; have HL := Lib.hid h2; clear h h2
  rcases hpt : isPartial rows l with _ | _
  · have e : isTiling rows l = false := by unfold isTiling; rw [hpt]; rfl
    rw [e]
    have Hpt := Lib.hid hpt; clear hpt e
    go_enter Try.func121, Try.ntmps121
    go_wp2_with fail
    refine wp_region_held_drew (S := (fun w' => w'.cell? ⟨w.heap.size, 0, none⟩ = some (.slice A rows.length c))) (by kernel_rfl) ?_ (fun hHeld => ?_)
    · (try dsimp only); go_keep
    refine wpAnyH_take (i := 0) (oi := { dst := some 5, op := Go.Op.load 31 (Go.Operand.tmp 2), type := 31, pos := "l06_tiling.go:32", after := #[], guard := none }) (v := ?_) rfl (by kernel_rfl) (by kernel_rfl) (by kernel_rfl) (fun _ _ _ h => h) (Or.inl ⟨by rfl, ?_⟩) (by assumption) ?_
    rotate_left 1
    · (intro wS hSw; (try dsimp only at hSw); go_simp; (all_goals with_reducible rfl))
    simp only [Act.put, List.setIfInBounds_toArray, List.set_cons_zero, List.set_cons_succ]
    refine wpAnyH_take (i := 1) (oi := { dst := some 6, op := Go.Op.move (Go.Operand.tmp 1), type := 37, pos := "l06_tiling.go:32", after := #[], guard := none }) (v := ?_) rfl (by kernel_rfl) (by kernel_rfl) (by kernel_rfl) (fun _ _ _ h => h) (Or.inl ⟨by rfl, ?_⟩) (by assumption) ?_
    rotate_left 1
    · (intro wS hSw; (try dsimp only at hSw); go_simp; (all_goals with_reducible rfl))
    simp only [Act.put, List.setIfInBounds_toArray, List.set_cons_zero, List.set_cons_succ]
    refine wpAnyH_ready (rs := [2]) (by kernel_rfl) (by simp) ?_
    refine AllReadyH.cons (o := { dst := some 7, op := Go.Op.call { callee := Go.Callee.value (Go.Operand.func 101), args := #[Go.Operand.tmp 5, Go.Operand.tmp 6], argTypes := #[31, 37] }, type := 4, pos := "l06_tiling.go:32", after := #[{ on := 0, ground := Go.Ground.data }, { on := 1, ground := Go.Ground.data }], guard := none }) rfl (fun K hK => ?_) AllReadyH.nil
    go_simp
    (first | (go_at_call 101; go_must (refine (partI_any _ _ rows l _ (HR.out.below RE.stays Bacc) (HL.out.below RE.stays Bacc)).mono ?_; rintro e wX ⟨rfl, hbX⟩; rw [Hpt.out]; obtain ⟨hcX, hfX, hzX⟩ := bkn hbX (w.heap.size + 1) hz; have hz := hzX; have Bacc := Bacc.tr hbX); (try go_wp2_with fail)))
    refine hK.out _ _ ?_ (fun hHeld => ?_)
    · (try dsimp only); go_keep
    clear hK K
    (try simp only [Act.put, List.setIfInBounds_toArray, List.set_cons_zero, List.set_cons_succ])
    refine wpAnyH_take (i := 3) (oi := { dst := some 8, op := Go.Op.move (Go.Operand.tmp 7), type := 4, pos := "l06_tiling.go:32", after := #[{ on := 2, ground := Go.Ground.data }, { on := 2, ground := Go.Ground.chain }], guard := none }) (v := ?_) rfl (by kernel_rfl) (by kernel_rfl) (by kernel_rfl) (fun _ _ _ h => h) (Or.inl ⟨by rfl, ?_⟩) (by assumption) ?_
    rotate_left 1
    · (intro wS hSw; (try dsimp only at hSw); go_simp; (all_goals with_reducible rfl))
    simp only [Act.put, List.setIfInBounds_toArray, List.set_cons_zero, List.set_cons_succ]
    refine wpAnyH_take (i := 4) (oi := { dst := some 9, op := Go.Op.move (Go.Operand.tmp 1), type := 37, pos := "l06_tiling.go:32", after := #[{ on := 3, ground := Go.Ground.guard }], guard := some (3, true) }) (v := undef) rfl (by kernel_rfl) (by kernel_rfl) (by kernel_rfl) (fun _ _ _ h => h) (Or.inr ⟨by rfl, rfl⟩) (by assumption) ?_
    simp only [Act.put, List.setIfInBounds_toArray, List.set_cons_zero, List.set_cons_succ]
    refine wpAnyH_take (i := 5) (oi := { dst := some 10, op := Go.Op.call { callee := Go.Callee.value (Go.Operand.func 118), args := #[Go.Operand.tmp 9], argTypes := #[37] }, type := 120, pos := "l06_tiling.go:32", after := #[{ on := 4, ground := Go.Ground.data }, { on := 3, ground := Go.Ground.chain }, { on := 3, ground := Go.Ground.guard }], guard := some (3, true) }) (v := undef) rfl (by kernel_rfl) (by kernel_rfl) (by kernel_rfl) (fun _ _ _ h => h) (Or.inr ⟨by rfl, rfl⟩) (by assumption) ?_
    simp only [Act.put, List.setIfInBounds_toArray, List.set_cons_zero, List.set_cons_succ]
    refine wpAnyH_take (i := 6) (oi := { dst := some 11, op := Go.Op.load 31 (Go.Operand.tmp 2), type := 31, pos := "l06_tiling.go:32", after := #[{ on := 3, ground := Go.Ground.guard }], guard := some (3, true) }) (v := undef) rfl (by kernel_rfl) (by kernel_rfl) (by kernel_rfl) (fun _ _ _ h => h) (Or.inr ⟨by rfl, rfl⟩) (by assumption) ?_
    simp only [Act.put, List.setIfInBounds_toArray, List.set_cons_zero, List.set_cons_succ]
    refine wpAnyH_take (i := 7) (oi := { dst := some 12, op := Go.Op.call { callee := Go.Callee.value (Go.Operand.func 94), args := #[Go.Operand.tmp 11], argTypes := #[31] }, type := 120, pos := "l06_tiling.go:32", after := #[{ on := 6, ground := Go.Ground.data }, { on := 5, ground := Go.Ground.chain }, { on := 3, ground := Go.Ground.guard }], guard := some (3, true) }) (v := undef) rfl (by kernel_rfl) (by kernel_rfl) (by kernel_rfl) (fun _ _ _ h => h) (Or.inr ⟨by rfl, rfl⟩) (by assumption) ?_
    simp only [Act.put, List.setIfInBounds_toArray, List.set_cons_zero, List.set_cons_succ]
    refine wpAnyH_take (i := 8) (oi := { dst := some 13, op := Go.Op.binOp Go.BinOp.eql 120 (Go.Operand.tmp 10) (Go.Operand.tmp 12) 120, type := 4, pos := "l06_tiling.go:32", after := #[{ on := 5, ground := Go.Ground.data }, { on := 7, ground := Go.Ground.data }, { on := 3, ground := Go.Ground.guard }], guard := some (3, true) }) (v := undef) rfl (by kernel_rfl) (by kernel_rfl) (by kernel_rfl) (fun _ _ _ h => h) (Or.inr ⟨by rfl, rfl⟩) (by assumption) ?_
    simp only [Act.put, List.setIfInBounds_toArray, List.set_cons_zero, List.set_cons_succ]
    refine wpAnyH_take (i := 9) (oi := { dst := some 14, op := Go.Op.pick (Go.Operand.tmp 8) (Go.Operand.tmp 13) (Go.Operand.const (Go.Value.bool false)), type := 4, pos := "l06_tiling.go:32", after := #[{ on := 3, ground := Go.Ground.data }, { on := 8, ground := Go.Ground.data }], guard := none }) (v := ?_) rfl (by kernel_rfl) (by kernel_rfl) (by kernel_rfl) (fun _ _ _ h => h) (Or.inl ⟨by rfl, ?_⟩) (by assumption) ?_
    rotate_left 1
    · (intro wS hSw; (try dsimp only at hSw); go_simp; (all_goals with_reducible rfl))
    simp only [Act.put, List.setIfInBounds_toArray, List.set_cons_zero, List.set_cons_succ]
    refine wpAnyH_take (i := 10) (oi := { dst := some 4, op := Go.Op.assign (Go.Operand.tmp 14), type := 4, pos := "l06_tiling.go:32", after := #[{ on := 9, ground := Go.Ground.data }, { on := 7, ground := Go.Ground.chain }, { on := 0, ground := Go.Ground.phase }, { on := 1, ground := Go.Ground.phase }, { on := 2, ground := Go.Ground.phase }, { on := 3, ground := Go.Ground.phase }, { on := 4, ground := Go.Ground.phase }, { on := 5, ground := Go.Ground.phase }, { on := 6, ground := Go.Ground.phase }, { on := 7, ground := Go.Ground.phase }, { on := 8, ground := Go.Ground.phase }, { on := 9, ground := Go.Ground.phase }], guard := none }) (v := ?_) rfl (by kernel_rfl) (by kernel_rfl) (by kernel_rfl) (fun _ _ _ h => h) (Or.inl ⟨by rfl, ?_⟩) (by assumption) ?_
    rotate_left 1
    · (intro wS hSw; (try dsimp only at hSw); go_simp; (all_goals with_reducible rfl))
    simp only [Act.put, List.setIfInBounds_toArray, List.set_cons_zero, List.set_cons_succ]
    refine wpAnyH_done (by kernel_rfl) ?_ _
    go_wp2
    go_ret
    exact ⟨rfl, Bacc⟩
  · have ho := (isPartial_ok hpt).1
    have hs := setOf_lt ho
    have e := isTiling_cover hpt
    have e2 : (((coverGo 0 l : Nat) : Int) == ((setOf rows : Nat) : Int)) = isTiling rows l := by
      rw [e, Bool.eq_iff_iff, beq_iff_eq, decide_eq_true_iff]; omega
    obtain ⟨R, hR⟩ : ∃ R, R = isTiling rows l := ⟨_, rfl⟩
    obtain ⟨S, hS⟩ : ∃ S, S = coverGo 0 l := ⟨_, rfl⟩
    obtain ⟨T, hT⟩ : ∃ T, T = setOf rows := ⟨_, rfl⟩
    rw [← hR, ← hS, ← hT] at e2
    rw [← hR]
    have Hok := Lib.hid ho; have Hpt := Lib.hid hpt; have HS := Lib.hid hS; have HT := Lib.hid hT
    clear ho hpt e hR hS hT hs
    go_enter Try.func121, Try.ntmps121
    go_wp2_with fail
    refine wp_region_held_drew (S := (fun w' => w'.cell? ⟨w.heap.size, 0, none⟩ = some (.slice A rows.length c))) (by kernel_rfl) ?_ (fun hHeld => ?_)
    · (try dsimp only); go_keep
    refine wpAnyH_take (i := 0) (oi := { dst := some 5, op := Go.Op.load 31 (Go.Operand.tmp 2), type := 31, pos := "l06_tiling.go:32", after := #[], guard := none }) (v := ?_) rfl (by kernel_rfl) (by kernel_rfl) (by kernel_rfl) (fun _ _ _ h => h) (Or.inl ⟨by rfl, ?_⟩) (by assumption) ?_
    rotate_left 1
    · (intro wS hSw; (try dsimp only at hSw); go_simp; (all_goals with_reducible rfl))
    simp only [Act.put, List.setIfInBounds_toArray, List.set_cons_zero, List.set_cons_succ]
    refine wpAnyH_take (i := 1) (oi := { dst := some 6, op := Go.Op.move (Go.Operand.tmp 1), type := 37, pos := "l06_tiling.go:32", after := #[], guard := none }) (v := ?_) rfl (by kernel_rfl) (by kernel_rfl) (by kernel_rfl) (fun _ _ _ h => h) (Or.inl ⟨by rfl, ?_⟩) (by assumption) ?_
    rotate_left 1
    · (intro wS hSw; (try dsimp only at hSw); go_simp; (all_goals with_reducible rfl))
    simp only [Act.put, List.setIfInBounds_toArray, List.set_cons_zero, List.set_cons_succ]
    refine wpAnyH_ready (rs := [2]) (by kernel_rfl) (by simp) ?_
    refine AllReadyH.cons (o := { dst := some 7, op := Go.Op.call { callee := Go.Callee.value (Go.Operand.func 101), args := #[Go.Operand.tmp 5, Go.Operand.tmp 6], argTypes := #[31, 37] }, type := 4, pos := "l06_tiling.go:32", after := #[{ on := 0, ground := Go.Ground.data }, { on := 1, ground := Go.Ground.data }], guard := none }) rfl (fun K hK => ?_) AllReadyH.nil
    go_simp
    (first | (go_at_call 101; go_must (refine (partI_any _ _ rows l _ (HR.out.below RE.stays Bacc) (HL.out.below RE.stays Bacc)).mono ?_; rintro e wX ⟨rfl, hbX⟩; rw [Hpt.out]; obtain ⟨hcX, hfX, hzX⟩ := bkn hbX (w.heap.size + 1) hz; have hz := hzX; have Bacc := Bacc.tr hbX); (try go_wp2_with fail)) | (go_at_call 118; go_must (refine (coveredI_any _ l _ (HL.out.below RE.stays Bacc)).mono ?_; rintro e wX ⟨rfl, hbX⟩; rw [← HS.out]; obtain ⟨hcX, hfX, hzX⟩ := bkn hbX (w.heap.size + 1) hz; have hz := hzX; have Bacc := Bacc.tr hbX); (try go_wp2_with fail)) | (go_at_call 94; go_must (refine (setI_any _ rows _ (HR.out.below RE.stays Bacc) Hok).mono ?_; rintro e wX ⟨rfl, hbX⟩; rw [← HT.out]; obtain ⟨hcX, hfX, hzX⟩ := bkn hbX (w.heap.size + 1) hz; have hz := hzX; have Bacc := Bacc.tr hbX); (try go_wp2_with fail)))
    refine hK.out _ _ ?_ (fun hHeld => ?_)
    · (try dsimp only); go_keep
    clear hK K
    (try simp only [Act.put, List.setIfInBounds_toArray, List.set_cons_zero, List.set_cons_succ])
    refine wpAnyH_take (i := 3) (oi := { dst := some 8, op := Go.Op.move (Go.Operand.tmp 7), type := 4, pos := "l06_tiling.go:32", after := #[{ on := 2, ground := Go.Ground.data }, { on := 2, ground := Go.Ground.chain }], guard := none }) (v := ?_) rfl (by kernel_rfl) (by kernel_rfl) (by kernel_rfl) (fun _ _ _ h => h) (Or.inl ⟨by rfl, ?_⟩) (by assumption) ?_
    rotate_left 1
    · (intro wS hSw; (try dsimp only at hSw); go_simp; (all_goals with_reducible rfl))
    simp only [Act.put, List.setIfInBounds_toArray, List.set_cons_zero, List.set_cons_succ]
    refine wpAnyH_take (i := 4) (oi := { dst := some 9, op := Go.Op.move (Go.Operand.tmp 1), type := 37, pos := "l06_tiling.go:32", after := #[{ on := 3, ground := Go.Ground.guard }], guard := some (3, true) }) (v := ?_) rfl (by kernel_rfl) (by kernel_rfl) (by kernel_rfl) (fun _ _ _ h => h) (Or.inl ⟨by rfl, ?_⟩) (by assumption) ?_
    rotate_left 1
    · (intro wS hSw; (try dsimp only at hSw); go_simp; (all_goals with_reducible rfl))
    simp only [Act.put, List.setIfInBounds_toArray, List.set_cons_zero, List.set_cons_succ]
    refine wpAnyH_take (i := 6) (oi := { dst := some 11, op := Go.Op.load 31 (Go.Operand.tmp 2), type := 31, pos := "l06_tiling.go:32", after := #[{ on := 3, ground := Go.Ground.guard }], guard := some (3, true) }) (v := ?_) rfl (by kernel_rfl) (by kernel_rfl) (by kernel_rfl) (fun _ _ _ h => h) (Or.inl ⟨by rfl, ?_⟩) (by assumption) ?_
    rotate_left 1
    · (intro wS hSw; (try dsimp only at hSw); go_simp; (all_goals with_reducible rfl))
    simp only [Act.put, List.setIfInBounds_toArray, List.set_cons_zero, List.set_cons_succ]
    refine wpAnyH_ready (rs := [5]) (by kernel_rfl) (by simp) ?_
    refine AllReadyH.cons (o := { dst := some 10, op := Go.Op.call { callee := Go.Callee.value (Go.Operand.func 118), args := #[Go.Operand.tmp 9], argTypes := #[37] }, type := 120, pos := "l06_tiling.go:32", after := #[{ on := 4, ground := Go.Ground.data }, { on := 3, ground := Go.Ground.chain }, { on := 3, ground := Go.Ground.guard }], guard := some (3, true) }) rfl (fun K hK => ?_) AllReadyH.nil
    go_simp
    (first | (go_at_call 101; go_must (refine (partI_any _ _ rows l _ (HR.out.below RE.stays Bacc) (HL.out.below RE.stays Bacc)).mono ?_; rintro e wX ⟨rfl, hbX⟩; rw [Hpt.out]; obtain ⟨hcX, hfX, hzX⟩ := bkn hbX (w.heap.size + 1) hz; have hz := hzX; have Bacc := Bacc.tr hbX); (try go_wp2_with fail)) | (go_at_call 118; go_must (refine (coveredI_any _ l _ (HL.out.below RE.stays Bacc)).mono ?_; rintro e wX ⟨rfl, hbX⟩; rw [← HS.out]; obtain ⟨hcX, hfX, hzX⟩ := bkn hbX (w.heap.size + 1) hz; have hz := hzX; have Bacc := Bacc.tr hbX); (try go_wp2_with fail)) | (go_at_call 94; go_must (refine (setI_any _ rows _ (HR.out.below RE.stays Bacc) Hok).mono ?_; rintro e wX ⟨rfl, hbX⟩; rw [← HT.out]; obtain ⟨hcX, hfX, hzX⟩ := bkn hbX (w.heap.size + 1) hz; have hz := hzX; have Bacc := Bacc.tr hbX); (try go_wp2_with fail)))
    refine hK.out _ _ ?_ (fun hHeld => ?_)
    · (try dsimp only); go_keep
    clear hK K
    (try simp only [Act.put, List.setIfInBounds_toArray, List.set_cons_zero, List.set_cons_succ])
    refine wpAnyH_ready (rs := [7]) (by kernel_rfl) (by simp) ?_
    refine AllReadyH.cons (o := { dst := some 12, op := Go.Op.call { callee := Go.Callee.value (Go.Operand.func 94), args := #[Go.Operand.tmp 11], argTypes := #[31] }, type := 120, pos := "l06_tiling.go:32", after := #[{ on := 6, ground := Go.Ground.data }, { on := 5, ground := Go.Ground.chain }, { on := 3, ground := Go.Ground.guard }], guard := some (3, true) }) rfl (fun K hK => ?_) AllReadyH.nil
    go_simp
    (first | (go_at_call 101; go_must (refine (partI_any _ _ rows l _ (HR.out.below RE.stays Bacc) (HL.out.below RE.stays Bacc)).mono ?_; rintro e wX ⟨rfl, hbX⟩; rw [Hpt.out]; obtain ⟨hcX, hfX, hzX⟩ := bkn hbX (w.heap.size + 1) hz; have hz := hzX; have Bacc := Bacc.tr hbX); (try go_wp2_with fail)) | (go_at_call 118; go_must (refine (coveredI_any _ l _ (HL.out.below RE.stays Bacc)).mono ?_; rintro e wX ⟨rfl, hbX⟩; rw [← HS.out]; obtain ⟨hcX, hfX, hzX⟩ := bkn hbX (w.heap.size + 1) hz; have hz := hzX; have Bacc := Bacc.tr hbX); (try go_wp2_with fail)) | (go_at_call 94; go_must (refine (setI_any _ rows _ (HR.out.below RE.stays Bacc) Hok).mono ?_; rintro e wX ⟨rfl, hbX⟩; rw [← HT.out]; obtain ⟨hcX, hfX, hzX⟩ := bkn hbX (w.heap.size + 1) hz; have hz := hzX; have Bacc := Bacc.tr hbX); (try go_wp2_with fail)))
    refine hK.out _ _ ?_ (fun hHeld => ?_)
    · (try dsimp only); go_keep
    clear hK K
    (try simp only [Act.put, List.setIfInBounds_toArray, List.set_cons_zero, List.set_cons_succ])
    refine wpAnyH_take (i := 8) (oi := { dst := some 13, op := Go.Op.binOp Go.BinOp.eql 120 (Go.Operand.tmp 10) (Go.Operand.tmp 12) 120, type := 4, pos := "l06_tiling.go:32", after := #[{ on := 5, ground := Go.Ground.data }, { on := 7, ground := Go.Ground.data }, { on := 3, ground := Go.Ground.guard }], guard := some (3, true) }) (v := ?_) rfl (by kernel_rfl) (by kernel_rfl) (by kernel_rfl) (fun _ _ _ h => h) (Or.inl ⟨by rfl, ?_⟩) (by assumption) ?_
    rotate_left 1
    · (intro wS hSw; (try dsimp only at hSw); go_simp; (all_goals with_reducible rfl))
    simp only [Act.put, List.setIfInBounds_toArray, List.set_cons_zero, List.set_cons_succ]
    refine wpAnyH_take (i := 9) (oi := { dst := some 14, op := Go.Op.pick (Go.Operand.tmp 8) (Go.Operand.tmp 13) (Go.Operand.const (Go.Value.bool false)), type := 4, pos := "l06_tiling.go:32", after := #[{ on := 3, ground := Go.Ground.data }, { on := 8, ground := Go.Ground.data }], guard := none }) (v := ?_) rfl (by kernel_rfl) (by kernel_rfl) (by kernel_rfl) (fun _ _ _ h => h) (Or.inl ⟨by rfl, ?_⟩) (by assumption) ?_
    rotate_left 1
    · (intro wS hSw; (try dsimp only at hSw); go_simp; (all_goals with_reducible rfl))
    simp only [Act.put, List.setIfInBounds_toArray, List.set_cons_zero, List.set_cons_succ]
    refine wpAnyH_take (i := 10) (oi := { dst := some 4, op := Go.Op.assign (Go.Operand.tmp 14), type := 4, pos := "l06_tiling.go:32", after := #[{ on := 9, ground := Go.Ground.data }, { on := 7, ground := Go.Ground.chain }, { on := 0, ground := Go.Ground.phase }, { on := 1, ground := Go.Ground.phase }, { on := 2, ground := Go.Ground.phase }, { on := 3, ground := Go.Ground.phase }, { on := 4, ground := Go.Ground.phase }, { on := 5, ground := Go.Ground.phase }, { on := 6, ground := Go.Ground.phase }, { on := 7, ground := Go.Ground.phase }, { on := 8, ground := Go.Ground.phase }, { on := 9, ground := Go.Ground.phase }], guard := none }) (v := ?_) rfl (by kernel_rfl) (by kernel_rfl) (by kernel_rfl) (fun _ _ _ h => h) (Or.inl ⟨by rfl, ?_⟩) (by assumption) ?_
    rotate_left 1
    · (intro wS hSw; (try dsimp only at hSw); go_simp; (all_goals with_reducible rfl))
    simp only [Act.put, List.setIfInBounds_toArray, List.set_cons_zero, List.set_cons_succ]
    refine wpAnyH_done (by kernel_rfl) ?_ _
    all_goals
      go_wp2
      go_ret
      exact ⟨retB (by first | exact e2 | (simp; done) | simpa using e2), Bacc⟩

set_option maxHeartbeats 2000000 in
set_option maxRecDepth 100000 in
theorem cellsOfS_any (v : Value) (rows : List Int) (w : World) (h : Rd 1 RInt w v rows) : Calls Try.prog 53 #[.agg #[v]] w (RetOwn 70 2 ePair (regCells rows) w) := by
  obtain ⟨A, c, rfl, hc, hm⟩ := h.form
  have hA := (Below.refl w.heap.size w).al (.cells #[.slice A rows.length c] 31)
  have bX := Blk.new_ w 31 #[.slice A rows.length c]
  have h' := h.below RE.stays hA
  rcases hr : regionOk rows with _ | _
  · have e : regCells rows = [] := by unfold regCells; rw [hr]; rfl
    rw [e]
    go_enter Try.func53, Try.ntmps53
    go_wp2
    go_loopw [3, 4] (fun s3 s4 wr => s4 = .int .i64 0 ∧ s3 = .slice (some ⟨w.heap.size + 1, 0, none⟩) 0 0 ∧ OwnL 70 2 ePair w.heap.size wr (.slice (some ⟨w.heap.size + 1, 0, none⟩) 0 0) ([] : List Cl) ∧ Below (w.alloc (.cells #[.slice A rows.length c] 31)).heap.size (w.alloc (.cells #[.slice A rows.length c] 31)) wr) (fun _ _ _ => 0)
    case atStart => exact ⟨rfl, rfl, own_mt (w.alloc (.cells #[.slice A rows.length c] 31)) (w.heap.size + 1) (by simp) _ (by simp), (Below.refl _ _).al _⟩
    case round =>
      obtain ⟨rfl, rfl, hown, hbel⟩ := hrel
      have zx := (bX.bl hbel).c1
      go_wp2_with fail
      refine (regionOkS_any _ rows _ (h'.below RE.stays hbel)).mono ?_
      rintro e w1 ⟨rfl, hb1⟩
      rw [hr]
      go_wp2
      go_ret
      exact ⟨_, _, rfl, hown.below hb1, (hA.tr hbel).tr hb1⟩
  · have e : regCells rows = cellsTo (setOf rows) 64 := by unfold regCells; rw [hr]; rfl
    rw [e]
    have hok := regionOk_iff.1 hr
    have Hok := Lib.hid hok; have Hr := Lib.hid hr; clear hok e hr
    obtain ⟨s, hse⟩ : ∃ s, s = setOf rows := ⟨_, rfl⟩
    rw [← hse]
    have Hse := Lib.hid hse; clear hse
    go_enter Try.func53, Try.ntmps53
    go_wp2
    go_loopw [3, 4] (fun s3 s4 wr => ∃ (k : Nat) (A3 : Option Addr) (c3 : Nat), k ≤ 64 ∧ s4 = .int .i64 k ∧ s3 = .slice A3 (cellsTo s k).length c3 ∧ OwnL 70 2 ePair (w.alloc (.cells #[.slice A rows.length c] 31)).heap.size wr (.slice A3 (cellsTo s k).length c3) (cellsTo s k) ∧ Below (w.alloc (.cells #[.slice A rows.length c] 31)).heap.size (w.alloc (.cells #[.slice A rows.length c] 31)) wr) (fun _ i _ => 64 - (intOf i).toNat)
    case atStart => exact ⟨0, _, _, by omega, rfl, rfl, own_mt (w.alloc (.cells #[.slice A rows.length c] 31)) (w.heap.size + 1) (by simp) _ (Nat.le_refl _), (Below.refl _ _).al _⟩
    case round =>
      obtain ⟨k, A3, c3, hk, rfl, rfl, hown, hbel⟩ := hrel
      have zx := (bX.bl hbel).c1
      by_cases hlt : k < 64
      · have hle := cellsTo_le s k
        have hsucc := cellsTo_succ s k
        obtain ⟨x, hx⟩ : ∃ x, x = k % 8 := ⟨_, rfl⟩
        obtain ⟨y, hy⟩ : ∃ y, y = k / 8 := ⟨_, rfl⟩
        have hx8 : x < 8 := by omega
        have hy8 : y < 8 := by omega
        have hk8 : 8 * y + x = k := by omega
        have hix : ixCell k = ((x : Int), (y : Int)) := by unfold ixCell; simp only [Prod.mk.injEq]; omega
        obtain ⟨cs, hcs⟩ : ∃ cs, cs = cellsTo s k := ⟨_, rfl⟩
        rw [← hcs] at hle hsucc hown ⊢
        rw [hix] at hsucc
        have H8 : Hid ((cs.length + 1) * 16 ≤ 140737488355328) := Lib.hid (by omega)
        have HM : Hid (cs.length + 1 ≤ maxLen) := Lib.hid (by unfold maxLen; omega)
        have Hk8 := Lib.hid hk8; have Hx := Lib.hid hx; have Hy := Lib.hid hy; have Hsucc := Lib.hid hsucc; have Hcs := Lib.hid hcs; clear hsucc hcs hx hy hix hk8
        go_wp2_with fail
        refine (regionOkS_any _ rows _ (h'.below RE.stays hbel)).mono ?_
        rintro e w1 ⟨rfl, hb1⟩
        rw [Hr.out]
        go_wp2_with fail
        refine (cellAtS_n2 k x y _ hlt Hx.out Hy.out).mono ?_
        rintro e w2 ⟨rfl, hb2⟩
        have B2 := ((hbel.tr hb1).tr hb2).al (.cells #[.int .i64 x, .int .i64 y] 70)
        have bC := Blk.new_ w2 70 #[.int .i64 x, .int .i64 y]
        have own2 := ((hown.below hb1).below hb2).alloc (.cells #[.int .i64 x, .int .i64 y] 70)
        clear zx
        have zx := (bX.bl B2).c1
        have zc0 := bC.cell 0
        have zc1 := bC.cell 1
        simp only [List.getElem?_toArray, List.getElem?_cons_zero, List.getElem?_cons_succ] at zc0 zc1
        go_wp2_with fail
        refine (l03HasS_yes _ rows x y _ (h'.below RE.stays B2) Hok hx8 hy8).mono ?_
        rintro e w3 ⟨rfl, hb3⟩
        rw [← Hse.out, Hk8.out]
        have bC3 := bC.bl hb3
        have B3 := B2.tr hb3
        have own3 := own2.below hb3
        rcases hb : s.testBit k with _ | _
        · have e : cellsTo s (k + 1) = cs := by rw [Hsucc.out, if_neg (by rw [hb]; simp)]; simp
          have E := Lib.hid e; have Hb := Lib.hid hb; clear e hb
          go_wp2
          go_roundw
          case rel => exact ⟨k + 1, A3, c3, by omega, by go_num, by rw [E.out], by rw [E.out]; exact own3, B3⟩
          case measure => simp [intOf]; omega
        · have e : cellsTo s (k + 1) = cs ++ [((x : Int), (y : Int))] := by rw [Hsucc.out, if_pos hb]
          have E := Lib.hid e; have Hb := Lib.hid hb; clear e hb
          clear zc0 zc1
          have zc0 := bC3.cell 0
          have zc1 := bC3.cell 1
          simp only [List.getElem?_toArray, List.getElem?_cons_zero, List.getElem?_cons_succ] at zc0 zc1
          go_wp2_with (at_builtin; go_must (refine wpList_app1 (enc := ePair) rowCell lenCell oneCell B3 own3 (((x : Int), (y : Int)) : Cl) H8.out HM.out rfl _ _ rfl rfl rfl ?_); intro v4 w4 own4 hb4 hg4 hd4; obtain ⟨A4, c4, rfl, hc4, hm4⟩ := own4.form)
          go_roundw
          case rel => exact ⟨k + 1, A4, c4, by omega, by go_num, by rw [E.out]; simp, by rw [E.out]; exact own4, hb4⟩
          case measure => simp [intOf]; omega
      · obtain rfl : k = 64 := by omega
        go_wp2
        go_ret
        exact ⟨A3, c3, rfl, hown.mono hA.size, hA.tr hbel⟩
theorem countCellsS_any (v : Value) (rows : List Int) (w : World) (h : Rd 1 RInt w v rows) : Calls Try.prog 60 #[.agg #[v]] w (Ret (.int .i64 (regCells rows).length) w) := by
  obtain ⟨A, c, rfl, hc, hm⟩ := h.form
  have hA := (Below.refl w.heap.size w).al (.cells #[.slice A rows.length c] 31)
  go_enter Try.func60, Try.ntmps60
  go_wp2_with fail
  refine (cellsOfS_any _ rows _ (h.below RE.stays hA)).mono ?_
  rintro e w1 ⟨A1, c1, rfl, own1, hb1⟩
  go_wp2
  go_ret
  exact ⟨rfl, hA.tr hb1⟩
set_option maxHeartbeats 2000000 in
set_option maxRecDepth 100000 in
theorem tilingS_any (v u : Value) (rows : List Int) (l : List Dm) (w : World) (h : Rd 1 RInt w v rows) (h2 : Rd 3 RDom w u l) : Calls Try.prog 65 #[.agg #[v], u] w (Ret (.bool (isTiling rows l)) w) := by
  obtain ⟨A, c, rfl, hc, hm⟩ := h.form
  obtain ⟨A2, c2, rfl, hc2, hm2⟩ := h2.form
  have hA := ((Below.refl w.heap.size w).al (.cells #[.slice A rows.length c] 31))
  have bX := Blk.new_ w 31 #[.slice A rows.length c]
  rcases hpt : isPartial rows l with _ | _
  · have e : isTiling rows l = false := by unfold isTiling; rw [hpt]; rfl
    rw [e]
    have Hpt := Lib.hid hpt; clear hpt e
    go_enter Try.func65, Try.ntmps65
    go_wp2_with fail
    refine (partS_any _ _ rows l _ (h.below RE.stays hA) (h2.below RE.stays hA)).mono ?_
    rintro e w1 ⟨rfl, hb1⟩
    rw [Hpt.out]
    go_wp2
    go_ret
    exact ⟨rfl, hA.tr hb1⟩
  · have ho := (isPartial_ok hpt).1
    have hlen := partGo_len (setOf_lt ho) (isPartial_ok hpt).2
    have hle := regCells_le rows
    have e : isTiling rows l = ((2 * (l.length : Int)) == ((regCells rows).length : Int)) := by
      unfold isTiling; rw [hpt, Bool.true_and, Bool.eq_iff_iff, beq_iff_eq, decide_eq_true_iff]; omega
    obtain ⟨N, hN⟩ : ∃ N, N = (regCells rows).length := ⟨_, rfl⟩
    rw [← hN] at e hle
    rw [e]
    have Hpt := Lib.hid hpt; have HN := Lib.hid hN; clear hpt e hN ho
    have hw2 : IntKind.i64.wrap (2 * (l.length : Int)) = 2 * (l.length : Int) := IntWalk.i64_in _ (by omega)
    go_enter Try.func65, Try.ntmps65
    go_wp2_with fail
    refine (partS_any _ _ rows l _ (h.below RE.stays hA) (h2.below RE.stays hA)).mono ?_
    rintro e w1 ⟨rfl, hb1⟩
    rw [Hpt.out]
    have zx := (bX.bl hb1).c1
    go_wp2_with fail
    refine (countCellsS_any _ rows _ ((h.below RE.stays hA).below RE.stays hb1)).mono ?_
    rintro e w2 ⟨rfl, hb2⟩
    rw [← HN.out]
    go_wp2
    go_ret
    exact ⟨rfl, (hA.tr hb1).tr hb2⟩
end Go.Proofs.Ytkbndchgmokabaa
