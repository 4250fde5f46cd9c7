/- SortDominoes of the program: the walk. Conditions: sizes. -/
import Derived.Test.YtkbndchgmokabaaFlipW
import Derived.Test.YtkbndchgmokabaaCopyD
import Derived.Test.YtkbndchgmokabaaPartI
namespace Go.Proofs.Ytkbndchgmokabaa
open Go.ChangeShapes Go.WideShapes Go.ChangeAt Go.RowKit
set_option linter.unusedVariables false
set_option linter.unusedSimpArgs false

theorem shift_set {α : Type} (out : List α) (z d : α) {P : Nat} (h : P ≤ out.length) : ((out ++ [z]).take (P + 1) ++ out.drop P).set P d = out.take P ++ d :: out.drop P := by
  have hP : P < (out ++ [z]).length := by simp; omega
  rw [List.take_succ_eq_append_getElem hP, List.take_append_of_le_length h, List.append_assoc, List.set_append_right _ _ (by simp; omega)]
  congr 1
  rw [List.length_take, Nat.min_eq_left h, Nat.sub_self]
  rfl
theorem sortGo_cons (out : List Dm) (d : Dm) (r : List Dm) : sortGo out (d :: r) = sortGo (sortStep out d) r := rfl
theorem sortStep_pos (out : List Dm) {d : Dm} (h : domOk d = true) : sortStep out d = if out[posD d out]? = some d then out else out.take (posD d out) ++ d :: out.drop (posD d out) := by
  unfold sortStep; rw [if_pos h, insD_pos]
theorem orderI_of (x y : Int) (d : Bool) (r : Int) (w : World) (hd : domOk (x, y, d) = true) (hr : r = domOrd (x, y, d)) : Calls Try.prog 176 #[.agg #[.int .i64 x, .int .i64 y, .bool d]] w (Ret (.int .i64 r) w) := by
  rw [hr]; exact orderI_yes x y d w hd

set_option maxHeartbeats 4000000 in
set_option maxRecDepth 100000 in
theorem sortI_any (v : Value) (l : List Dm) (w : World) (h : Rd 3 RDom w v l) : Calls Try.prog 186 #[v] w (RetOwn 73 3 eDom (sortD l) w) := by
  obtain ⟨A, c, rfl, hc, hm⟩ := h.form
  go_enter Try.func186, Try.ntmps186
  go_wp2
  go_loopw [3, 10] (fun s3 s10 wr => ∃ (k : Nat) (out : List Dm) (A3 : Option Addr) (c3 : Nat), k ≤ l.length ∧ s10 = .int .i64 k ∧ s3 = .slice A3 out.length c3 ∧ Hid (sortGo out (l.drop k) = sortD l) ∧ Hid (Sorted out) ∧ OwnL 73 3 eDom w.heap.size wr (.slice A3 out.length c3) out ∧ Below w.heap.size w wr) (fun _ i _ => l.length - (intOf i).toNat)
  case atStart => exact ⟨0, [], _, _, Nat.zero_le _, rfl, rfl, Lib.hid rfl, Lib.hid sorted_nil, own_mt w _ rfl _ (Nat.le_refl _), (Below.refl _ _).al _⟩
  case round =>
    obtain ⟨k, out, A3, c3, hk, rfl, rfl, Hg, Hso, hown, hbel⟩ := hrel
    have hol := sorted_len Hso.out
    obtain ⟨wo, rfl⟩ : ∃ wo : World, wo = wr := ⟨_, rfl⟩
    by_cases hlt : k < l.length
    · obtain ⟨b, off, rfl, hb, q1, q2, q3⟩ := (h.below RE.stays hbel).atDom hlt
      have hg := Hg.out
      rw [List.drop_eq_getElem_cons hlt, sortGo_cons] at hg
      obtain ⟨d, hd⟩ : ∃ d, d = l[k] := ⟨_, rfl⟩
      rw [← hd] at q1 q2 q3 hg
      obtain ⟨x, y, dn⟩ := d
      simp only at q1 q2 q3
      have bD := Blk.new_ wo 73 #[.int .i64 x, .int .i64 y, .bool dn]
      rcases hok : domOk (x, y, dn) with _ | _
      · have e : sortStep out (x, y, dn) = out := by unfold sortStep; rw [hok]; rfl
        rw [e] at hg
        have Hg2 := Lib.hid hg; have Hok := Lib.hid hok; clear hg hok hd e
        go_wp2_with fail
        refine (domOkI_any x y dn _).mono ?_
        rintro e w1 ⟨rfl, hb1⟩
        rw [Hok.out]
        go_wp2
        go_roundw
        case rel => exact ⟨k + 1, out, A3, c3, by omega, by go_num, rfl, Hg2, Hso, (hown.alloc _).below hb1, (hbel.al _).tr hb1⟩
        case measure => simp [intOf]; omega
      · have hst := sortStep_pos out hok
        have Hst := Lib.hid hst; have Hg2 := Lib.hid hg; have Hok := Lib.hid hok; clear hst hg hok hd
        go_wp2_with fail
        refine (domOkI_any x y dn _).mono ?_
        rintro e w1 ⟨rfl, hb1⟩
        rw [Hok.out]
        have own1 := (hown.alloc (.cells #[.int .i64 x, .int .i64 y, .bool dn] 73)).below hb1
        have bD1 := bD.bl hb1
        have B1 := (hbel.al (.cells #[.int .i64 x, .int .i64 y, .bool dn] 73)).tr hb1
        obtain ⟨gd, hgd⟩ : ∃ gd, gd = wo.heap.size := ⟨_, rfl⟩
        rw [← hgd] at bD1 ⊢
        obtain ⟨P, hP⟩ : ∃ P, P = posD (x, y, dn) out := ⟨_, rfl⟩
        have hPle : P ≤ out.length := by rw [hP]; exact posD_le _ _
        obtain ⟨E, hE⟩ : ∃ E, E = if out[P]? = some (x, y, dn) then P + 1 else P := ⟨_, rfl⟩
        have hEle : E ≤ out.length := by
          rw [hE]; split
          · rename_i q; have := (List.getElem?_eq_some_iff.1 q).1; omega
          · exact hPle
        have hback : ∀ j, (hj : j < out.length) → (domOrd out[j] > domOrd (x, y, dn) ↔ E ≤ j) := fun j hj => by rw [hE, hP]; exact sorted_back Hso.out Hok.out hj
        rw [← hP] at Hst
        have hneD : Value.ownBlock (.slice A3 out.length c3) ≠ some gd := by
          intro e; have := World.ownsRow.lt hown _ e; omega
        have HneD := Lib.hid hneD; clear hneD
        have Hback := Lib.hid hback; have HE := Lib.hid hE; have HP := Lib.hid hP; clear hback hE hP hgd
        go_wp2
        go_loopw [6] (fun s6 wi => ∃ j : Nat, E ≤ j ∧ j ≤ out.length ∧ s6 = .int .i64 j ∧ OwnL 73 3 eDom w.heap.size wi (.slice A3 out.length c3) out ∧ Blk wi gd 73 #[.int .i64 x, .int .i64 y, .bool dn] ∧ Below w.heap.size w wi) (fun i _ => (intOf i).toNat)
        case atStart => exact ⟨out.length, hEle, Nat.le_refl _, rfl, own1, bD1, B1⟩
        case round =>
          obtain ⟨j, hj0, hj, rfl, hown2, hD2, hbel2⟩ := hrel
          clear own1 bD1 B1 hown hbel bD q1 q2 q3 hb1
          have zd_0 := hD2.cell 0
          have zd_1 := hD2.cell 1
          have zd_2 := hD2.cell 2
          simp only [List.getElem?_toArray, List.getElem?_cons_zero, List.getElem?_cons_succ] at zd_0 zd_1 zd_2
          rcases Nat.eq_zero_or_pos j with hj00 | hjp
          · have hno : ¬ out[P]? = some (x, y, dn) := by
              intro q; have := HE.out; rw [if_pos q] at this; omega
            have hP0 : P = j := by have := HE.out; rw [if_neg hno] at this; omega
            have HNo := Lib.hid hno; clear hno
            subst hP0
            have hjz : (P : Int) ≤ 0 := by omega
            have hjz2 : P ≤ 0 := by omega
            have hjz3 : decide (0 < P) = false := by simp; omega
            have hjz4 : decide ((0 : Int) < (P : Int)) = false := by simp; omega
            have Hj := Lib.hid hj00; clear hj00 hj0
            go_wp2_with fail
            refine wp_region_held_drew (S := (fun _ => True)) (by kernel_rfl) ?_ (fun hHeld => ?_)
            · (try dsimp only); (try go_keep)
            refine wpAnyH_take (i := 0) (oi := { dst := some 19, op := Go.Op.move (Go.Operand.tmp 6), type := 3, pos := "l06_tiling.go:52", after := #[], guard := none }) (v := ?_) rfl (by kernel_rfl) (by kernel_rfl) (by kernel_rfl) (fun _ _ _ h => h) (Or.inl ⟨by rfl, ?_⟩) (by assumption) ?_
            rotate_left 1
            · (intro wS hSw; (try dsimp only at hSw); go_simp; (all_goals with_reducible rfl))
            simp only [Act.put, List.setIfInBounds_toArray, List.set_cons_zero, List.set_cons_succ]
            refine wpAnyH_take (i := 1) (oi := { dst := some 20, op := Go.Op.binOp Go.BinOp.gtr 3 (Go.Operand.tmp 19) (Go.Operand.const (Go.Value.int Go.IntKind.i64 0)) 3, type := 4, pos := "l06_tiling.go:52", after := #[{ on := 0, ground := Go.Ground.data }], guard := none }) (v := ?_) rfl (by kernel_rfl) (by kernel_rfl) (by kernel_rfl) (fun _ _ _ h => h) (Or.inl ⟨by rfl, ?_⟩) (by assumption) ?_
            rotate_left 1
            · (intro wS hSw; (try dsimp only at hSw); go_simp; (all_goals with_reducible rfl))
            simp only [Act.put, List.setIfInBounds_toArray, List.set_cons_zero, List.set_cons_succ]
            refine wpAnyH_take (i := 2) (oi := { dst := some 21, op := Go.Op.move (Go.Operand.tmp 20), type := 4, pos := "l06_tiling.go:52", after := #[{ on := 1, ground := Go.Ground.data }], guard := none }) (v := ?_) rfl (by kernel_rfl) (by kernel_rfl) (by kernel_rfl) (fun _ _ _ h => h) (Or.inl ⟨by rfl, ?_⟩) (by assumption) ?_
            rotate_left 1
            · (intro wS hSw; (try dsimp only at hSw); go_simp; (all_goals with_reducible rfl))
            simp only [Act.put, List.setIfInBounds_toArray, List.set_cons_zero, List.set_cons_succ]
            refine wpAnyH_take (i := 3) (oi := { dst := some 22, op := Go.Op.move (Go.Operand.tmp 3), type := 37, pos := "l06_tiling.go:52", after := #[{ on := 2, ground := Go.Ground.guard }], guard := some (2, true) }) (v := undef) rfl (by kernel_rfl) (by kernel_rfl) (by kernel_rfl) (fun _ _ _ h => h) (Or.inr ⟨by rfl, rfl⟩) (by assumption) ?_
            simp only [Act.put, List.setIfInBounds_toArray, List.set_cons_zero, List.set_cons_succ]
            refine wpAnyH_take (i := 4) (oi := { dst := some 23, op := Go.Op.move (Go.Operand.tmp 6), type := 3, pos := "l06_tiling.go:52", after := #[{ on := 2, ground := Go.Ground.guard }], guard := some (2, true) }) (v := undef) rfl (by kernel_rfl) (by kernel_rfl) (by kernel_rfl) (fun _ _ _ h => h) (Or.inr ⟨by rfl, rfl⟩) (by assumption) ?_
            simp only [Act.put, List.setIfInBounds_toArray, List.set_cons_zero, List.set_cons_succ]
            refine wpAnyH_take (i := 5) (oi := { dst := some 24, op := Go.Op.binOp Go.BinOp.sub 3 (Go.Operand.tmp 23) (Go.Operand.const (Go.Value.int Go.IntKind.i64 1)) 3, type := 3, pos := "l06_tiling.go:52", after := #[{ on := 4, ground := Go.Ground.data }, { on := 2, ground := Go.Ground.guard }], guard := some (2, true) }) (v := undef) rfl (by kernel_rfl) (by kernel_rfl) (by kernel_rfl) (fun _ _ _ h => h) (Or.inr ⟨by rfl, rfl⟩) (by assumption) ?_
            simp only [Act.put, List.setIfInBounds_toArray, List.set_cons_zero, List.set_cons_succ]
            refine wpAnyH_take (i := 6) (oi := { dst := some 25, op := Go.Op.indexAddr 37 (Go.Operand.tmp 22) (Go.Operand.tmp 24), type := 0, pos := "l06_tiling.go:52", after := #[{ on := 3, ground := Go.Ground.data }, { on := 5, ground := Go.Ground.data }, { on := 2, ground := Go.Ground.guard }], guard := some (2, true) }) (v := undef) rfl (by kernel_rfl) (by kernel_rfl) (by kernel_rfl) (fun _ _ _ h => h) (Or.inr ⟨by rfl, rfl⟩) (by assumption) ?_
            simp only [Act.put, List.setIfInBounds_toArray, List.set_cons_zero, List.set_cons_succ]
            refine wpAnyH_take (i := 7) (oi := { dst := some 26, op := Go.Op.load 73 (Go.Operand.tmp 25), type := 73, pos := "l06_tiling.go:52", after := #[{ on := 6, ground := Go.Ground.data }, { on := 2, ground := Go.Ground.guard }], guard := some (2, true) }) (v := undef) rfl (by kernel_rfl) (by kernel_rfl) (by kernel_rfl) (fun _ _ _ h => h) (Or.inr ⟨by rfl, rfl⟩) (by assumption) ?_
            simp only [Act.put, List.setIfInBounds_toArray, List.set_cons_zero, List.set_cons_succ]
            refine wpAnyH_take (i := 8) (oi := { dst := some 27, op := Go.Op.call { callee := Go.Callee.value (Go.Operand.func 176), args := #[Go.Operand.tmp 26], argTypes := #[73] }, type := 3, pos := "l06_tiling.go:52", after := #[{ on := 7, ground := Go.Ground.data }, { on := 2, ground := Go.Ground.chain }, { on := 2, ground := Go.Ground.guard }], guard := some (2, true) }) (v := undef) rfl (by kernel_rfl) (by kernel_rfl) (by kernel_rfl) (fun _ _ _ h => h) (Or.inr ⟨by rfl, rfl⟩) (by assumption) ?_
            simp only [Act.put, List.setIfInBounds_toArray, List.set_cons_zero, List.set_cons_succ]
            refine wpAnyH_take (i := 9) (oi := { dst := some 28, op := Go.Op.load 73 (Go.Operand.tmp 5), type := 73, pos := "l06_tiling.go:52", after := #[{ on := 2, ground := Go.Ground.guard }], guard := some (2, true) }) (v := undef) rfl (by kernel_rfl) (by kernel_rfl) (by kernel_rfl) (fun _ _ _ h => h) (Or.inr ⟨by rfl, rfl⟩) (by assumption) ?_
            simp only [Act.put, List.setIfInBounds_toArray, List.set_cons_zero, List.set_cons_succ]
            refine wpAnyH_take (i := 10) (oi := { dst := some 29, op := Go.Op.call { callee := Go.Callee.value (Go.Operand.func 176), args := #[Go.Operand.tmp 28], argTypes := #[73] }, type := 3, pos := "l06_tiling.go:52", after := #[{ on := 9, ground := Go.Ground.data }, { on := 8, ground := Go.Ground.chain }, { on := 2, ground := Go.Ground.guard }], guard := some (2, true) }) (v := undef) rfl (by kernel_rfl) (by kernel_rfl) (by kernel_rfl) (fun _ _ _ h => h) (Or.inr ⟨by rfl, rfl⟩) (by assumption) ?_
            simp only [Act.put, List.setIfInBounds_toArray, List.set_cons_zero, List.set_cons_succ]
            refine wpAnyH_take (i := 11) (oi := { dst := some 30, op := Go.Op.binOp Go.BinOp.gtr 3 (Go.Operand.tmp 27) (Go.Operand.tmp 29) 3, type := 4, pos := "l06_tiling.go:52", after := #[{ on := 8, ground := Go.Ground.data }, { on := 10, ground := Go.Ground.data }, { on := 2, ground := Go.Ground.guard }], guard := some (2, true) }) (v := undef) rfl (by kernel_rfl) (by kernel_rfl) (by kernel_rfl) (fun _ _ _ h => h) (Or.inr ⟨by rfl, rfl⟩) (by assumption) ?_
            simp only [Act.put, List.setIfInBounds_toArray, List.set_cons_zero, List.set_cons_succ]
            refine wpAnyH_take (i := 12) (oi := { dst := some 31, op := Go.Op.pick (Go.Operand.tmp 21) (Go.Operand.tmp 30) (Go.Operand.const (Go.Value.bool false)), type := 4, pos := "l06_tiling.go:52", after := #[{ on := 2, ground := Go.Ground.data }, { on := 11, ground := Go.Ground.data }], guard := none }) (v := ?_) rfl (by kernel_rfl) (by kernel_rfl) (by kernel_rfl) (fun _ _ _ h => h) (Or.inl ⟨by rfl, ?_⟩) (by assumption) ?_
            rotate_left 1
            · (intro wS hSw; (try dsimp only at hSw); go_simp; (all_goals with_reducible rfl))
            simp only [Act.put, List.setIfInBounds_toArray, List.set_cons_zero, List.set_cons_succ]
            refine wpAnyH_done (by kernel_rfl) ?_ _
            have Bw : Below wr.heap.size wr wr.drew.drew := (Below.refl _ _).drew.drew
            go_wp2_with fail
            refine wp_region_held_drew (S := (fun _ => True)) (by kernel_rfl) ?_ (fun hHeld => ?_)
            · (try dsimp only); (try go_keep)
            refine wpAnyH_take (i := 0) (oi := { dst := some 34, op := Go.Op.move (Go.Operand.tmp 6), type := 3, pos := "l06_tiling.go:55", after := #[], guard := none }) (v := ?_) rfl (by kernel_rfl) (by kernel_rfl) (by kernel_rfl) (fun _ _ _ h => h) (Or.inl ⟨by rfl, ?_⟩) (by assumption) ?_
            rotate_left 1
            · (intro wS hSw; (try dsimp only at hSw); go_simp; (all_goals with_reducible rfl))
            simp only [Act.put, List.setIfInBounds_toArray, List.set_cons_zero, List.set_cons_succ]
            refine wpAnyH_take (i := 1) (oi := { dst := some 35, op := Go.Op.binOp Go.BinOp.gtr 3 (Go.Operand.tmp 34) (Go.Operand.const (Go.Value.int Go.IntKind.i64 0)) 3, type := 4, pos := "l06_tiling.go:55", after := #[{ on := 0, ground := Go.Ground.data }], guard := none }) (v := ?_) rfl (by kernel_rfl) (by kernel_rfl) (by kernel_rfl) (fun _ _ _ h => h) (Or.inl ⟨by rfl, ?_⟩) (by assumption) ?_
            rotate_left 1
            · (intro wS hSw; (try dsimp only at hSw); go_simp; (all_goals with_reducible rfl))
            simp only [Act.put, List.setIfInBounds_toArray, List.set_cons_zero, List.set_cons_succ]
            refine wpAnyH_take (i := 2) (oi := { dst := some 36, op := Go.Op.move (Go.Operand.tmp 35), type := 4, pos := "l06_tiling.go:55", after := #[{ on := 1, ground := Go.Ground.data }], guard := none }) (v := ?_) rfl (by kernel_rfl) (by kernel_rfl) (by kernel_rfl) (fun _ _ _ h => h) (Or.inl ⟨by rfl, ?_⟩) (by assumption) ?_
            rotate_left 1
            · (intro wS hSw; (try dsimp only at hSw); go_simp; (all_goals with_reducible rfl))
            simp only [Act.put, List.setIfInBounds_toArray, List.set_cons_zero, List.set_cons_succ]
            refine wpAnyH_take (i := 3) (oi := { dst := some 37, op := Go.Op.move (Go.Operand.tmp 3), type := 37, pos := "l06_tiling.go:55", after := #[{ on := 2, ground := Go.Ground.guard }], guard := some (2, true) }) (v := undef) rfl (by kernel_rfl) (by kernel_rfl) (by kernel_rfl) (fun _ _ _ h => h) (Or.inr ⟨by rfl, rfl⟩) (by assumption) ?_
            simp only [Act.put, List.setIfInBounds_toArray, List.set_cons_zero, List.set_cons_succ]
            refine wpAnyH_take (i := 4) (oi := { dst := some 38, op := Go.Op.move (Go.Operand.tmp 6), type := 3, pos := "l06_tiling.go:55", after := #[{ on := 2, ground := Go.Ground.guard }], guard := some (2, true) }) (v := undef) rfl (by kernel_rfl) (by kernel_rfl) (by kernel_rfl) (fun _ _ _ h => h) (Or.inr ⟨by rfl, rfl⟩) (by assumption) ?_
            simp only [Act.put, List.setIfInBounds_toArray, List.set_cons_zero, List.set_cons_succ]
            refine wpAnyH_take (i := 5) (oi := { dst := some 39, op := Go.Op.binOp Go.BinOp.sub 3 (Go.Operand.tmp 38) (Go.Operand.const (Go.Value.int Go.IntKind.i64 1)) 3, type := 3, pos := "l06_tiling.go:55", after := #[{ on := 4, ground := Go.Ground.data }, { on := 2, ground := Go.Ground.guard }], guard := some (2, true) }) (v := undef) rfl (by kernel_rfl) (by kernel_rfl) (by kernel_rfl) (fun _ _ _ h => h) (Or.inr ⟨by rfl, rfl⟩) (by assumption) ?_
            simp only [Act.put, List.setIfInBounds_toArray, List.set_cons_zero, List.set_cons_succ]
            refine wpAnyH_take (i := 6) (oi := { dst := some 40, op := Go.Op.indexAddr 37 (Go.Operand.tmp 37) (Go.Operand.tmp 39), type := 0, pos := "l06_tiling.go:55", after := #[{ on := 3, ground := Go.Ground.data }, { on := 5, ground := Go.Ground.data }, { on := 2, ground := Go.Ground.guard }], guard := some (2, true) }) (v := undef) rfl (by kernel_rfl) (by kernel_rfl) (by kernel_rfl) (fun _ _ _ h => h) (Or.inr ⟨by rfl, rfl⟩) (by assumption) ?_
            simp only [Act.put, List.setIfInBounds_toArray, List.set_cons_zero, List.set_cons_succ]
            refine wpAnyH_take (i := 7) (oi := { dst := some 41, op := Go.Op.load 73 (Go.Operand.tmp 40), type := 73, pos := "l06_tiling.go:55", after := #[{ on := 6, ground := Go.Ground.data }, { on := 2, ground := Go.Ground.guard }], guard := some (2, true) }) (v := undef) rfl (by kernel_rfl) (by kernel_rfl) (by kernel_rfl) (fun _ _ _ h => h) (Or.inr ⟨by rfl, rfl⟩) (by assumption) ?_
            simp only [Act.put, List.setIfInBounds_toArray, List.set_cons_zero, List.set_cons_succ]
            refine wpAnyH_take (i := 8) (oi := { dst := some 42, op := Go.Op.load 73 (Go.Operand.tmp 5), type := 73, pos := "l06_tiling.go:55", after := #[{ on := 2, ground := Go.Ground.guard }], guard := some (2, true) }) (v := undef) rfl (by kernel_rfl) (by kernel_rfl) (by kernel_rfl) (fun _ _ _ h => h) (Or.inr ⟨by rfl, rfl⟩) (by assumption) ?_
            simp only [Act.put, List.setIfInBounds_toArray, List.set_cons_zero, List.set_cons_succ]
            refine wpAnyH_take (i := 9) (oi := { dst := some 43, op := Go.Op.binOp Go.BinOp.eql 73 (Go.Operand.tmp 41) (Go.Operand.tmp 42) 73, type := 4, pos := "l06_tiling.go:55", after := #[{ on := 7, ground := Go.Ground.data }, { on := 8, ground := Go.Ground.data }, { on := 2, ground := Go.Ground.guard }], guard := some (2, true) }) (v := undef) rfl (by kernel_rfl) (by kernel_rfl) (by kernel_rfl) (fun _ _ _ h => h) (Or.inr ⟨by rfl, rfl⟩) (by assumption) ?_
            simp only [Act.put, List.setIfInBounds_toArray, List.set_cons_zero, List.set_cons_succ]
            refine wpAnyH_take (i := 10) (oi := { dst := some 44, op := Go.Op.pick (Go.Operand.tmp 36) (Go.Operand.tmp 43) (Go.Operand.const (Go.Value.bool false)), type := 4, pos := "l06_tiling.go:55", after := #[{ on := 2, ground := Go.Ground.data }, { on := 9, ground := Go.Ground.data }], guard := none }) (v := ?_) rfl (by kernel_rfl) (by kernel_rfl) (by kernel_rfl) (fun _ _ _ h => h) (Or.inl ⟨by rfl, ?_⟩) (by assumption) ?_
            rotate_left 1
            · (intro wS hSw; (try dsimp only at hSw); go_simp; (all_goals with_reducible rfl))
            simp only [Act.put, List.setIfInBounds_toArray, List.set_cons_zero, List.set_cons_succ]
            refine wpAnyH_done (by kernel_rfl) ?_ _
            have own3 := hown2.below Bw
            have bD3 := hD2.bl Bw
            have B3 := hbel2.tr Bw
            clear hHeld zd_0 zd_1 zd_2 hown2 hD2 hbel2 Bw
            obtain ⟨W5, hW5⟩ : ∃ W5, W5 = wr.drew.drew := ⟨_, rfl⟩
            rw [← hW5] at own3 bD3 B3 ⊢
            clear hW5
            have Hins : Hid (sortGo (out.take P ++ (x, y, dn) :: out.drop P) (l.drop (k + 1)) = sortD l) := Lib.hid (by rw [← Hg2.out, Hst.out, if_neg HNo.out])
            have Hsi : Hid (Sorted (out.take P ++ (x, y, dn) :: out.drop P)) := Lib.hid (by have := sorted_step Hso.out (x, y, dn); rw [Hst.out, if_neg HNo.out] at this; exact this)
            have H8 : Hid ((out.length + 1) * 24 ≤ 140737488355328) := Lib.hid (by omega)
            have HM : Hid (out.length + 1 ≤ maxLen) := Lib.hid (by unfold maxLen; omega)
            have hneD := HneD.out
            go_wp2_with (at_builtin; go_must (refine wpList_app1 (enc := eDom) rowDom lenDom oneDom B3 own3 ((0, 0, false) : Dm) H8.out HM.out rfl _ _ rfl rfl rfl ?_); intro v4 w4 own4 hb4 hg4 hd4; obtain ⟨A4, c4, rfl, hc4, hm4⟩ := own4.form)
            have bD4 := (bD3.alloc _).grown hg4 (fun e => hneD e.symm)
            obtain ⟨g4, hA4, hg40, hg41⟩ := own4.split (k := 0) (by simp)
            subst hA4
            have hneg : g4 ≠ gd := by
              have hl5 := bD3.lt
              rcases hd4 with q | q
              · intro e; apply hneD; rw [← q, e]; rfl
              · simp [Value.ownBlock] at q; omega
            clear hd4
            simp only [List.length_append, List.length_singleton] at hc4 own4 ⊢
            have zd_0 := bD4.cell 0
            have zd_1 := bD4.cell 1
            have zd_2 := bD4.cell 2
            simp only [List.getElem?_toArray, List.getElem?_cons_zero, List.getElem?_cons_succ] at zd_0 zd_1 zd_2
            have hP4 : ¬ c4 = P := by omega
            have hwP : IntKind.i64.wrap (((P : Nat) : Int) + 1) = ((P : Nat) : Int) + 1 := IntWalk.i64_in _ (by omega)
            have hP0 : (0 : Int) ≤ ((P : Nat) : Int) + 1 := by omega
            have hP1 : ((P : Nat) : Int) + 1 ≤ (out.length : Int) + 1 := by omega
            have hPn : (((P : Nat) : Int) + 1).toNat = P + 1 := by omega
            have hPc : P + 1 ≤ c4 := by omega
            have hPi : ((P : Nat) : Int) ≤ (out.length : Int) + 1 := by omega
            have hPl : P ≤ out.length := by omega
            have own4d : OwnL 73 3 eDom w.heap.size w4.drew (.slice (some ⟨g4, 0, none⟩) (out.length + 1) c4) (out ++ [(0, 0, false)]) := own4.below (Below.refl _ _).drew
            have bD4d : Blk w4.drew gd 73 #[.int .i64 x, .int .i64 y, .bool dn] := bD4
            have B4d := hb4.drew
            clear own4 bD4 hb4 zd_0 zd_1 zd_2
            by_cases hcap : c4 = P + 1
            · go_wp2_with fail
              refine wp_region_held_drew (S := (fun _ => True)) (by kernel_rfl) ?_ (fun hHeld => ?_)
              · (try dsimp only); (try go_keep)
              refine wpAnyH_take (i := 0) (oi := { dst := some 49, op := Go.Op.move (Go.Operand.tmp 3), type := 37, pos := "l06_tiling.go:59", after := #[], guard := none }) (v := ?_) rfl (by kernel_rfl) (by kernel_rfl) (by kernel_rfl) (fun _ _ _ h => h) (Or.inl ⟨by rfl, ?_⟩) (by assumption) ?_
              rotate_left 1
              · (intro wS hSw; (try dsimp only at hSw); go_simp; (all_goals with_reducible rfl))
              simp only [Act.put, List.setIfInBounds_toArray, List.set_cons_zero, List.set_cons_succ]
              refine wpAnyH_take (i := 1) (oi := { dst := some 50, op := Go.Op.move (Go.Operand.tmp 6), type := 3, pos := "l06_tiling.go:59", after := #[], guard := none }) (v := ?_) rfl (by kernel_rfl) (by kernel_rfl) (by kernel_rfl) (fun _ _ _ h => h) (Or.inl ⟨by rfl, ?_⟩) (by assumption) ?_
              rotate_left 1
              · (intro wS hSw; (try dsimp only at hSw); go_simp; (all_goals with_reducible rfl))
              simp only [Act.put, List.setIfInBounds_toArray, List.set_cons_zero, List.set_cons_succ]
              refine wpAnyH_take (i := 2) (oi := { dst := some 51, op := Go.Op.binOp Go.BinOp.add 3 (Go.Operand.tmp 50) (Go.Operand.const (Go.Value.int Go.IntKind.i64 1)) 3, type := 3, pos := "l06_tiling.go:59", after := #[{ on := 1, ground := Go.Ground.data }], guard := none }) (v := ?_) rfl (by kernel_rfl) (by kernel_rfl) (by kernel_rfl) (fun _ _ _ h => h) (Or.inl ⟨by rfl, ?_⟩) (by assumption) ?_
              rotate_left 1
              · (intro wS hSw; (try dsimp only at hSw); go_simp; (all_goals with_reducible rfl))
              simp only [Act.put, List.setIfInBounds_toArray, List.set_cons_zero, List.set_cons_succ]
              refine wpAnyH_take (i := 3) (oi := { dst := some 52, op := Go.Op.slice 37 (Go.Operand.tmp 49) (some (Go.Operand.tmp 51)) none none, type := 37, pos := "l06_tiling.go:59", after := #[{ on := 0, ground := Go.Ground.data }, { on := 2, ground := Go.Ground.data }], guard := none }) (v := ?_) rfl (by kernel_rfl) (by kernel_rfl) (by kernel_rfl) (fun _ _ _ h => h) (Or.inl ⟨by rfl, ?_⟩) (by assumption) ?_
              rotate_left 1
              · (intro wS hSw; (try dsimp only at hSw); go_simp; (all_goals with_reducible rfl))
              simp only [Act.put, List.setIfInBounds_toArray, List.set_cons_zero, List.set_cons_succ]
              refine wpAnyH_take (i := 4) (oi := { dst := some 53, op := Go.Op.move (Go.Operand.tmp 3), type := 37, pos := "l06_tiling.go:59", after := #[], guard := none }) (v := ?_) rfl (by kernel_rfl) (by kernel_rfl) (by kernel_rfl) (fun _ _ _ h => h) (Or.inl ⟨by rfl, ?_⟩) (by assumption) ?_
              rotate_left 1
              · (intro wS hSw; (try dsimp only at hSw); go_simp; (all_goals with_reducible rfl))
              simp only [Act.put, List.setIfInBounds_toArray, List.set_cons_zero, List.set_cons_succ]
              refine wpAnyH_take (i := 5) (oi := { dst := some 54, op := Go.Op.move (Go.Operand.tmp 6), type := 3, pos := "l06_tiling.go:59", after := #[], guard := none }) (v := ?_) rfl (by kernel_rfl) (by kernel_rfl) (by kernel_rfl) (fun _ _ _ h => h) (Or.inl ⟨by rfl, ?_⟩) (by assumption) ?_
              rotate_left 1
              · (intro wS hSw; (try dsimp only at hSw); go_simp; (all_goals with_reducible rfl))
              simp only [Act.put, List.setIfInBounds_toArray, List.set_cons_zero, List.set_cons_succ]
              refine wpAnyH_take (i := 6) (oi := { dst := some 55, op := Go.Op.slice 37 (Go.Operand.tmp 53) (some (Go.Operand.tmp 54)) none none, type := 37, pos := "l06_tiling.go:59", after := #[{ on := 4, ground := Go.Ground.data }, { on := 5, ground := Go.Ground.data }], guard := none }) (v := ?_) rfl (by kernel_rfl) (by kernel_rfl) (by kernel_rfl) (fun _ _ _ h => h) (Or.inl ⟨by rfl, ?_⟩) (by assumption) ?_
              rotate_left 1
              · (intro wS hSw; (try dsimp only at hSw); go_simp; (all_goals with_reducible rfl))
              simp only [Act.put, List.setIfInBounds_toArray, List.set_cons_zero, List.set_cons_succ]
              refine wpAnyH_ready (rs := [7]) (by kernel_rfl) (by simp) ?_
              refine AllReadyH.cons (o := { dst := some 56, op := Go.Op.call { callee := Go.Callee.builtin Go.Builtin.copy, args := #[Go.Operand.tmp 52, Go.Operand.tmp 55], argTypes := #[37, 37] }, type := 3, pos := "l06_tiling.go:59", after := #[{ on := 3, ground := Go.Ground.data }, { on := 6, ground := Go.Ground.data }], guard := none }) rfl (fun K hK => ?_) AllReadyH.nil
              (refine step_shift rowDom lenDom oneDom own4d P hPl rfl _ _ rfl _ _ _ _ _ _ rfl rfl (by omega) (by omega) (fun h => by exfalso; omega) (fun h => by simp) ?_; intro w5 own5 hg5)
              refine hK.out _ _ ?_ (fun hHeld => ?_)
              · (try dsimp only); (try go_keep)
              clear hK K
              (try simp only [Act.put, List.setIfInBounds_toArray, List.set_cons_zero, List.set_cons_succ])
              refine wpAnyH_done (by kernel_rfl) ?_ _
              clear hHeld
              have bD5 := bD4d.grown hg5 (by simp; omega)
              have B5 := B4d.grown hg5 B4d.size (fun k hk => by injection hk with hk; omega)
              have hl5 : ((out ++ [((0, 0, false) : Dm)]).take (P + 1) ++ out.drop P).length = out.length + 1 := by simp; omega
              have hset := shift_set out ((0, 0, false) : Dm) (x, y, dn) hPl
              obtain ⟨NW, hNW⟩ : ∃ NW, NW = out.take P ++ (x, y, dn) :: out.drop P := ⟨_, rfl⟩
              have hNl : NW.length = out.length + 1 := by rw [hNW]; simp; omega
              rw [← hNW] at Hins Hsi hset
              obtain ⟨L5, hL5⟩ : ∃ L5, L5 = (out ++ [((0, 0, false) : Dm)]).take (P + 1) ++ out.drop P := ⟨_, rfl⟩
              rw [← hL5] at own5 hset hl5
              have hk5 : P < L5.length := by omega
              obtain ⟨u0, u1, u2, s0, s1, s2⟩ := own5.slot3 lenDom (k := P) hk5
              have hsf := own5.free
              have Hset := Lib.hid hset; have HNl := Lib.hid hNl; have Hk5 := Lib.hid hk5; clear hset hNl hNW hL5 hl5 own4d bD4d B4d hg5 hk5
              have hpn : ((P : Nat) : Int) < (out.length : Int) + 1 := by omega
              have zd_0 := bD5.cell 0
              have zd_1 := bD5.cell 1
              have zd_2 := bD5.cell 2
              simp only [List.getElem?_toArray, List.getElem?_cons_zero, List.getElem?_cons_succ] at zd_0 zd_1 zd_2
              go_wp2
              go_roundw
              case rel => exact ⟨k + 1, NW, _, c4, by omega, by go_num, by rw [HNl.out], Hins, Hsi, by rw [HNl.out, ← Hset.out]; exact own5.store3 lenDom Hk5.out rfl, ((B5.st _ _ (by first | exact hg40 | simp)).st _ _ (by first | exact hg40 | simp)).st _ _ (by first | exact hg40 | simp)⟩
              case measure => simp [intOf]; omega
            · go_wp2_with fail
              refine wp_region_held_drew (S := (fun _ => True)) (by kernel_rfl) ?_ (fun hHeld => ?_)
              · (try dsimp only); (try go_keep)
              refine wpAnyH_take (i := 0) (oi := { dst := some 49, op := Go.Op.move (Go.Operand.tmp 3), type := 37, pos := "l06_tiling.go:59", after := #[], guard := none }) (v := ?_) rfl (by kernel_rfl) (by kernel_rfl) (by kernel_rfl) (fun _ _ _ h => h) (Or.inl ⟨by rfl, ?_⟩) (by assumption) ?_
              rotate_left 1
              · (intro wS hSw; (try dsimp only at hSw); go_simp; (all_goals with_reducible rfl))
              simp only [Act.put, List.setIfInBounds_toArray, List.set_cons_zero, List.set_cons_succ]
              refine wpAnyH_take (i := 1) (oi := { dst := some 50, op := Go.Op.move (Go.Operand.tmp 6), type := 3, pos := "l06_tiling.go:59", after := #[], guard := none }) (v := ?_) rfl (by kernel_rfl) (by kernel_rfl) (by kernel_rfl) (fun _ _ _ h => h) (Or.inl ⟨by rfl, ?_⟩) (by assumption) ?_
              rotate_left 1
              · (intro wS hSw; (try dsimp only at hSw); go_simp; (all_goals with_reducible rfl))
              simp only [Act.put, List.setIfInBounds_toArray, List.set_cons_zero, List.set_cons_succ]
              refine wpAnyH_take (i := 2) (oi := { dst := some 51, op := Go.Op.binOp Go.BinOp.add 3 (Go.Operand.tmp 50) (Go.Operand.const (Go.Value.int Go.IntKind.i64 1)) 3, type := 3, pos := "l06_tiling.go:59", after := #[{ on := 1, ground := Go.Ground.data }], guard := none }) (v := ?_) rfl (by kernel_rfl) (by kernel_rfl) (by kernel_rfl) (fun _ _ _ h => h) (Or.inl ⟨by rfl, ?_⟩) (by assumption) ?_
              rotate_left 1
              · (intro wS hSw; (try dsimp only at hSw); go_simp; (all_goals with_reducible rfl))
              simp only [Act.put, List.setIfInBounds_toArray, List.set_cons_zero, List.set_cons_succ]
              refine wpAnyH_take (i := 3) (oi := { dst := some 52, op := Go.Op.slice 37 (Go.Operand.tmp 49) (some (Go.Operand.tmp 51)) none none, type := 37, pos := "l06_tiling.go:59", after := #[{ on := 0, ground := Go.Ground.data }, { on := 2, ground := Go.Ground.data }], guard := none }) (v := ?_) rfl (by kernel_rfl) (by kernel_rfl) (by kernel_rfl) (fun _ _ _ h => h) (Or.inl ⟨by rfl, ?_⟩) (by assumption) ?_
              rotate_left 1
              · (intro wS hSw; (try dsimp only at hSw); go_simp; (all_goals with_reducible rfl))
              simp only [Act.put, List.setIfInBounds_toArray, List.set_cons_zero, List.set_cons_succ]
              refine wpAnyH_take (i := 4) (oi := { dst := some 53, op := Go.Op.move (Go.Operand.tmp 3), type := 37, pos := "l06_tiling.go:59", after := #[], guard := none }) (v := ?_) rfl (by kernel_rfl) (by kernel_rfl) (by kernel_rfl) (fun _ _ _ h => h) (Or.inl ⟨by rfl, ?_⟩) (by assumption) ?_
              rotate_left 1
              · (intro wS hSw; (try dsimp only at hSw); go_simp; (all_goals with_reducible rfl))
              simp only [Act.put, List.setIfInBounds_toArray, List.set_cons_zero, List.set_cons_succ]
              refine wpAnyH_take (i := 5) (oi := { dst := some 54, op := Go.Op.move (Go.Operand.tmp 6), type := 3, pos := "l06_tiling.go:59", after := #[], guard := none }) (v := ?_) rfl (by kernel_rfl) (by kernel_rfl) (by kernel_rfl) (fun _ _ _ h => h) (Or.inl ⟨by rfl, ?_⟩) (by assumption) ?_
              rotate_left 1
              · (intro wS hSw; (try dsimp only at hSw); go_simp; (all_goals with_reducible rfl))
              simp only [Act.put, List.setIfInBounds_toArray, List.set_cons_zero, List.set_cons_succ]
              refine wpAnyH_take (i := 6) (oi := { dst := some 55, op := Go.Op.slice 37 (Go.Operand.tmp 53) (some (Go.Operand.tmp 54)) none none, type := 37, pos := "l06_tiling.go:59", after := #[{ on := 4, ground := Go.Ground.data }, { on := 5, ground := Go.Ground.data }], guard := none }) (v := ?_) rfl (by kernel_rfl) (by kernel_rfl) (by kernel_rfl) (fun _ _ _ h => h) (Or.inl ⟨by rfl, ?_⟩) (by assumption) ?_
              rotate_left 1
              · (intro wS hSw; (try dsimp only at hSw); go_simp; (all_goals with_reducible rfl))
              simp only [Act.put, List.setIfInBounds_toArray, List.set_cons_zero, List.set_cons_succ]
              refine wpAnyH_ready (rs := [7]) (by kernel_rfl) (by simp) ?_
              refine AllReadyH.cons (o := { dst := some 56, op := Go.Op.call { callee := Go.Callee.builtin Go.Builtin.copy, args := #[Go.Operand.tmp 52, Go.Operand.tmp 55], argTypes := #[37, 37] }, type := 3, pos := "l06_tiling.go:59", after := #[{ on := 3, ground := Go.Ground.data }, { on := 6, ground := Go.Ground.data }], guard := none }) rfl (fun K hK => ?_) AllReadyH.nil
              (refine step_shift rowDom lenDom oneDom own4d P hPl rfl _ _ rfl _ _ _ _ _ _ rfl rfl (by omega) (by omega) (fun h => by simp) (fun h => by simp) ?_; intro w5 own5 hg5)
              refine hK.out _ _ ?_ (fun hHeld => ?_)
              · (try dsimp only); (try go_keep)
              clear hK K
              (try simp only [Act.put, List.setIfInBounds_toArray, List.set_cons_zero, List.set_cons_succ])
              refine wpAnyH_done (by kernel_rfl) ?_ _
              clear hHeld
              have bD5 := bD4d.grown hg5 (by simp; omega)
              have B5 := B4d.grown hg5 B4d.size (fun k hk => by injection hk with hk; omega)
              have hl5 : ((out ++ [((0, 0, false) : Dm)]).take (P + 1) ++ out.drop P).length = out.length + 1 := by simp; omega
              have hset := shift_set out ((0, 0, false) : Dm) (x, y, dn) hPl
              obtain ⟨NW, hNW⟩ : ∃ NW, NW = out.take P ++ (x, y, dn) :: out.drop P := ⟨_, rfl⟩
              have hNl : NW.length = out.length + 1 := by rw [hNW]; simp; omega
              rw [← hNW] at Hins Hsi hset
              obtain ⟨L5, hL5⟩ : ∃ L5, L5 = (out ++ [((0, 0, false) : Dm)]).take (P + 1) ++ out.drop P := ⟨_, rfl⟩
              rw [← hL5] at own5 hset hl5
              have hk5 : P < L5.length := by omega
              obtain ⟨u0, u1, u2, s0, s1, s2⟩ := own5.slot3 lenDom (k := P) hk5
              have hsf := own5.free
              have Hset := Lib.hid hset; have HNl := Lib.hid hNl; have Hk5 := Lib.hid hk5; clear hset hNl hNW hL5 hl5 own4d bD4d B4d hg5 hk5
              have hpn : ((P : Nat) : Int) < (out.length : Int) + 1 := by omega
              have zd_0 := bD5.cell 0
              have zd_1 := bD5.cell 1
              have zd_2 := bD5.cell 2
              simp only [List.getElem?_toArray, List.getElem?_cons_zero, List.getElem?_cons_succ] at zd_0 zd_1 zd_2
              go_wp2
              go_roundw
              case rel => exact ⟨k + 1, NW, _, c4, by omega, by go_num, by rw [HNl.out], Hins, Hsi, by rw [HNl.out, ← Hset.out]; exact own5.store3 lenDom Hk5.out rfl, ((B5.st _ _ (by first | exact hg40 | simp)).st _ _ (by first | exact hg40 | simp)).st _ _ (by first | exact hg40 | simp)⟩
              case measure => simp [intOf]; omega
          · obtain ⟨i, rfl⟩ : ∃ i, j = i + 1 := ⟨j - 1, by omega⟩
            have hil : i < out.length := by omega
            obtain ⟨g, hA, hg0, hg1⟩ := hown2.split hil
            subst hA
            obtain ⟨e, he⟩ : ∃ e, e = out[i] := ⟨_, rfl⟩
            have hsl := hown2.slot lenDom (by decide) hil
            rw [← he] at hsl
            have heo : domOk e = true := by rw [he]; exact Hso.out.1 _ (List.getElem_mem hil)
            have hcmp := Hback.out i hil
            rw [← he] at hcmp
            obtain ⟨ex, ey, ed⟩ := e
            have z0 := hsl 0 _ rfl
            have z1 := hsl 1 _ rfl
            have z2 := hsl 2 _ rfl
            simp only [Nat.add_zero] at z0
            obtain ⟨o1, ho1⟩ : ∃ o1, o1 = domOrd (ex, ey, ed) := ⟨_, rfl⟩
            obtain ⟨o2, ho2⟩ : ∃ o2, o2 = domOrd (x, y, dn) := ⟨_, rfl⟩
            rw [← ho1, ← ho2] at hcmp
            have Heo := Lib.hid heo; have Ho1 := Lib.hid ho1; have Ho2 := Lib.hid ho2; have He := Lib.hid he; clear hsl heo ho1 ho2 he
            have hwi : IntKind.i64.wrap (i : Int) = (i : Int) := IntWalk.i64_in _ (by omega)
            have hi0 : (0 : Int) ≤ (i : Int) := by omega
            have hiI : (i : Int) < (out.length : Int) := by omega
            have hpd := hD2.lt
            have Bacc := hbel2.drew
            have Bw : Below wr.heap.size wr wr.drew := (Below.refl _ _).drew
            have hz : wr.heap.size ≤ wr.drew.heap.size := by simp
            by_cases hEi : E ≤ i
            · have hgt : o2 < o1 := hcmp.2 hEi
              clear hcmp
              go_wp2_with fail
              refine wp_region_held_drew (S := (fun w' => w'.cell? ⟨g, i * 3, none⟩ = some (.int .i64 ex) ∧ w'.cell? ⟨g, i * 3 + 1, none⟩ = some (.int .i64 ey) ∧ w'.cell? ⟨g, i * 3 + 2, none⟩ = some (.bool ed) ∧ w'.cell? ⟨gd, 0, none⟩ = some (.int .i64 x) ∧ w'.cell? ⟨gd, 1, none⟩ = some (.int .i64 y) ∧ w'.cell? ⟨gd, 2, none⟩ = some (.bool dn))) (by kernel_rfl) ?_ (fun hHeld => ?_)
              · (try dsimp only); (try go_keep)
              refine wpAnyH_take (i := 0) (oi := { dst := some 19, op := Go.Op.move (Go.Operand.tmp 6), type := 3, pos := "l06_tiling.go:52", after := #[], guard := none }) (v := ?_) rfl (by kernel_rfl) (by kernel_rfl) (by kernel_rfl) (fun _ _ _ h => h) (Or.inl ⟨by rfl, ?_⟩) (by assumption) ?_
              rotate_left 1
              · (intro wS hSw; (try dsimp only at hSw); go_simp; (all_goals with_reducible rfl))
              simp only [Act.put, List.setIfInBounds_toArray, List.set_cons_zero, List.set_cons_succ]
              refine wpAnyH_take (i := 1) (oi := { dst := some 20, op := Go.Op.binOp Go.BinOp.gtr 3 (Go.Operand.tmp 19) (Go.Operand.const (Go.Value.int Go.IntKind.i64 0)) 3, type := 4, pos := "l06_tiling.go:52", after := #[{ on := 0, ground := Go.Ground.data }], guard := none }) (v := ?_) rfl (by kernel_rfl) (by kernel_rfl) (by kernel_rfl) (fun _ _ _ h => h) (Or.inl ⟨by rfl, ?_⟩) (by assumption) ?_
              rotate_left 1
              · (intro wS hSw; (try dsimp only at hSw); go_simp; (all_goals with_reducible rfl))
              simp only [Act.put, List.setIfInBounds_toArray, List.set_cons_zero, List.set_cons_succ]
              refine wpAnyH_take (i := 2) (oi := { dst := some 21, op := Go.Op.move (Go.Operand.tmp 20), type := 4, pos := "l06_tiling.go:52", after := #[{ on := 1, ground := Go.Ground.data }], guard := none }) (v := ?_) rfl (by kernel_rfl) (by kernel_rfl) (by kernel_rfl) (fun _ _ _ h => h) (Or.inl ⟨by rfl, ?_⟩) (by assumption) ?_
              rotate_left 1
              · (intro wS hSw; (try dsimp only at hSw); go_simp; (all_goals with_reducible rfl))
              simp only [Act.put, List.setIfInBounds_toArray, List.set_cons_zero, List.set_cons_succ]
              refine wpAnyH_take (i := 3) (oi := { dst := some 22, op := Go.Op.move (Go.Operand.tmp 3), type := 37, pos := "l06_tiling.go:52", after := #[{ on := 2, ground := Go.Ground.guard }], guard := some (2, true) }) (v := ?_) rfl (by kernel_rfl) (by kernel_rfl) (by kernel_rfl) (fun _ _ _ h => h) (Or.inl ⟨by rfl, ?_⟩) (by assumption) ?_
              rotate_left 1
              · (intro wS hSw; (try dsimp only at hSw); go_simp; (all_goals with_reducible rfl))
              simp only [Act.put, List.setIfInBounds_toArray, List.set_cons_zero, List.set_cons_succ]
              refine wpAnyH_take (i := 4) (oi := { dst := some 23, op := Go.Op.move (Go.Operand.tmp 6), type := 3, pos := "l06_tiling.go:52", after := #[{ on := 2, ground := Go.Ground.guard }], guard := some (2, true) }) (v := ?_) rfl (by kernel_rfl) (by kernel_rfl) (by kernel_rfl) (fun _ _ _ h => h) (Or.inl ⟨by rfl, ?_⟩) (by assumption) ?_
              rotate_left 1
              · (intro wS hSw; (try dsimp only at hSw); go_simp; (all_goals with_reducible rfl))
              simp only [Act.put, List.setIfInBounds_toArray, List.set_cons_zero, List.set_cons_succ]
              refine wpAnyH_take (i := 5) (oi := { dst := some 24, op := Go.Op.binOp Go.BinOp.sub 3 (Go.Operand.tmp 23) (Go.Operand.const (Go.Value.int Go.IntKind.i64 1)) 3, type := 3, pos := "l06_tiling.go:52", after := #[{ on := 4, ground := Go.Ground.data }, { on := 2, ground := Go.Ground.guard }], guard := some (2, true) }) (v := ?_) rfl (by kernel_rfl) (by kernel_rfl) (by kernel_rfl) (fun _ _ _ h => h) (Or.inl ⟨by rfl, ?_⟩) (by assumption) ?_
              rotate_left 1
              · (intro wS hSw; (try dsimp only at hSw); go_simp; (all_goals with_reducible rfl))
              simp only [Act.put, List.setIfInBounds_toArray, List.set_cons_zero, List.set_cons_succ]
              refine wpAnyH_take (i := 6) (oi := { dst := some 25, op := Go.Op.indexAddr 37 (Go.Operand.tmp 22) (Go.Operand.tmp 24), type := 0, pos := "l06_tiling.go:52", after := #[{ on := 3, ground := Go.Ground.data }, { on := 5, ground := Go.Ground.data }, { on := 2, ground := Go.Ground.guard }], guard := some (2, true) }) (v := ?_) rfl (by kernel_rfl) (by kernel_rfl) (by kernel_rfl) (fun _ _ _ h => h) (Or.inl ⟨by rfl, ?_⟩) (by assumption) ?_
              rotate_left 1
              · (intro wS hSw; (try dsimp only at hSw); go_simp; (all_goals with_reducible rfl))
              simp only [Act.put, List.setIfInBounds_toArray, List.set_cons_zero, List.set_cons_succ]
              refine wpAnyH_take (i := 7) (oi := { dst := some 26, op := Go.Op.load 73 (Go.Operand.tmp 25), type := 73, pos := "l06_tiling.go:52", after := #[{ on := 6, ground := Go.Ground.data }, { on := 2, ground := Go.Ground.guard }], guard := some (2, true) }) (v := ?_) rfl (by kernel_rfl) (by kernel_rfl) (by kernel_rfl) (fun _ _ _ h => h) (Or.inl ⟨by rfl, ?_⟩) (by assumption) ?_
              rotate_left 1
              · (intro wS hSw; (try dsimp only at hSw); go_simp; (all_goals with_reducible rfl))
              simp only [Act.put, List.setIfInBounds_toArray, List.set_cons_zero, List.set_cons_succ]
              refine wpAnyH_take (i := 9) (oi := { dst := some 28, op := Go.Op.load 73 (Go.Operand.tmp 5), type := 73, pos := "l06_tiling.go:52", after := #[{ on := 2, ground := Go.Ground.guard }], guard := some (2, true) }) (v := ?_) rfl (by kernel_rfl) (by kernel_rfl) (by kernel_rfl) (fun _ _ _ h => h) (Or.inl ⟨by rfl, ?_⟩) (by assumption) ?_
              rotate_left 1
              · (intro wS hSw; (try dsimp only at hSw); go_simp; (all_goals with_reducible rfl))
              simp only [Act.put, List.setIfInBounds_toArray, List.set_cons_zero, List.set_cons_succ]
              refine wpAnyH_ready (rs := [8]) (by kernel_rfl) (by simp) ?_
              refine AllReadyH.cons (o := { dst := some 27, op := Go.Op.call { callee := Go.Callee.value (Go.Operand.func 176), args := #[Go.Operand.tmp 26], argTypes := #[73] }, type := 3, pos := "l06_tiling.go:52", after := #[{ on := 7, ground := Go.Ground.data }, { on := 2, ground := Go.Ground.chain }, { on := 2, ground := Go.Ground.guard }], guard := some (2, true) }) rfl (fun K hK => ?_) AllReadyH.nil
              go_simp
              (first | (go_at_call 176; go_must (refine (orderI_of _ _ _ _ _ (by first | exact Heo.out | exact Hok.out) (by first | exact Ho1.out | exact Ho2.out)).mono ?_; rintro e wX ⟨rfl, hbX⟩; obtain ⟨hcX, hfX, hzX⟩ := bkn hbX wr.heap.size hz; have hz := hzX; have Bw := Bw.tr hbX); (try go_wp2_with fail)))
              refine hK.out _ _ ?_ (fun hHeld => ?_)
              · (try dsimp only); (try go_keep)
              clear hK K
              (try simp only [Act.put, List.setIfInBounds_toArray, List.set_cons_zero, List.set_cons_succ])
              refine wpAnyH_ready (rs := [10]) (by kernel_rfl) (by simp) ?_
              refine AllReadyH.cons (o := { dst := some 29, op := Go.Op.call { callee := Go.Callee.value (Go.Operand.func 176), args := #[Go.Operand.tmp 28], argTypes := #[73] }, type := 3, pos := "l06_tiling.go:52", after := #[{ on := 9, ground := Go.Ground.data }, { on := 8, ground := Go.Ground.chain }, { on := 2, ground := Go.Ground.guard }], guard := some (2, true) }) rfl (fun K hK => ?_) AllReadyH.nil
              go_simp
              (first | (go_at_call 176; go_must (refine (orderI_of _ _ _ _ _ (by first | exact Heo.out | exact Hok.out) (by first | exact Ho1.out | exact Ho2.out)).mono ?_; rintro e wX ⟨rfl, hbX⟩; obtain ⟨hcX, hfX, hzX⟩ := bkn hbX wr.heap.size hz; have hz := hzX; have Bw := Bw.tr hbX); (try go_wp2_with fail)))
              refine hK.out _ _ ?_ (fun hHeld => ?_)
              · (try dsimp only); (try go_keep)
              clear hK K
              (try simp only [Act.put, List.setIfInBounds_toArray, List.set_cons_zero, List.set_cons_succ])
              refine wpAnyH_take (i := 11) (oi := { dst := some 30, op := Go.Op.binOp Go.BinOp.gtr 3 (Go.Operand.tmp 27) (Go.Operand.tmp 29) 3, type := 4, pos := "l06_tiling.go:52", after := #[{ on := 8, ground := Go.Ground.data }, { on := 10, ground := Go.Ground.data }, { on := 2, ground := Go.Ground.guard }], guard := some (2, true) }) (v := ?_) rfl (by kernel_rfl) (by kernel_rfl) (by kernel_rfl) (fun _ _ _ h => h) (Or.inl ⟨by rfl, ?_⟩) (by assumption) ?_
              rotate_left 1
              · (intro wS hSw; (try dsimp only at hSw); go_simp; (all_goals with_reducible rfl))
              simp only [Act.put, List.setIfInBounds_toArray, List.set_cons_zero, List.set_cons_succ]
              refine wpAnyH_take (i := 12) (oi := { dst := some 31, op := Go.Op.pick (Go.Operand.tmp 21) (Go.Operand.tmp 30) (Go.Operand.const (Go.Value.bool false)), type := 4, pos := "l06_tiling.go:52", after := #[{ on := 2, ground := Go.Ground.data }, { on := 11, ground := Go.Ground.data }], guard := none }) (v := ?_) rfl (by kernel_rfl) (by kernel_rfl) (by kernel_rfl) (fun _ _ _ h => h) (Or.inl ⟨by rfl, ?_⟩) (by assumption) ?_
              rotate_left 1
              · (intro wS hSw; (try dsimp only at hSw); go_simp; (all_goals with_reducible rfl))
              simp only [Act.put, List.setIfInBounds_toArray, List.set_cons_zero, List.set_cons_succ]
              refine wpAnyH_done (by kernel_rfl) ?_ _
              all_goals
                go_wp2
                go_roundw
                case rel => exact ⟨i, hEi, by omega, by go_num, hown2.below Bw, hD2.bl Bw, hbel2.tr Bw⟩
                case measure => simp [intOf]
            · have hle : o1 ≤ o2 := by
                have := mt hcmp.1 hEi
                omega
              have hEj : E = i + 1 := by omega
              clear hcmp
              go_wp2_with fail
              refine wp_region_held_drew (S := (fun w' => w'.cell? ⟨g, i * 3, none⟩ = some (.int .i64 ex) ∧ w'.cell? ⟨g, i * 3 + 1, none⟩ = some (.int .i64 ey) ∧ w'.cell? ⟨g, i * 3 + 2, none⟩ = some (.bool ed) ∧ w'.cell? ⟨gd, 0, none⟩ = some (.int .i64 x) ∧ w'.cell? ⟨gd, 1, none⟩ = some (.int .i64 y) ∧ w'.cell? ⟨gd, 2, none⟩ = some (.bool dn))) (by kernel_rfl) ?_ (fun hHeld => ?_)
              · (try dsimp only); (try go_keep)
              refine wpAnyH_take (i := 0) (oi := { dst := some 19, op := Go.Op.move (Go.Operand.tmp 6), type := 3, pos := "l06_tiling.go:52", after := #[], guard := none }) (v := ?_) rfl (by kernel_rfl) (by kernel_rfl) (by kernel_rfl) (fun _ _ _ h => h) (Or.inl ⟨by rfl, ?_⟩) (by assumption) ?_
              rotate_left 1
              · (intro wS hSw; (try dsimp only at hSw); go_simp; (all_goals with_reducible rfl))
              simp only [Act.put, List.setIfInBounds_toArray, List.set_cons_zero, List.set_cons_succ]
              refine wpAnyH_take (i := 1) (oi := { dst := some 20, op := Go.Op.binOp Go.BinOp.gtr 3 (Go.Operand.tmp 19) (Go.Operand.const (Go.Value.int Go.IntKind.i64 0)) 3, type := 4, pos := "l06_tiling.go:52", after := #[{ on := 0, ground := Go.Ground.data }], guard := none }) (v := ?_) rfl (by kernel_rfl) (by kernel_rfl) (by kernel_rfl) (fun _ _ _ h => h) (Or.inl ⟨by rfl, ?_⟩) (by assumption) ?_
              rotate_left 1
              · (intro wS hSw; (try dsimp only at hSw); go_simp; (all_goals with_reducible rfl))
              simp only [Act.put, List.setIfInBounds_toArray, List.set_cons_zero, List.set_cons_succ]
              refine wpAnyH_take (i := 2) (oi := { dst := some 21, op := Go.Op.move (Go.Operand.tmp 20), type := 4, pos := "l06_tiling.go:52", after := #[{ on := 1, ground := Go.Ground.data }], guard := none }) (v := ?_) rfl (by kernel_rfl) (by kernel_rfl) (by kernel_rfl) (fun _ _ _ h => h) (Or.inl ⟨by rfl, ?_⟩) (by assumption) ?_
              rotate_left 1
              · (intro wS hSw; (try dsimp only at hSw); go_simp; (all_goals with_reducible rfl))
              simp only [Act.put, List.setIfInBounds_toArray, List.set_cons_zero, List.set_cons_succ]
              refine wpAnyH_take (i := 3) (oi := { dst := some 22, op := Go.Op.move (Go.Operand.tmp 3), type := 37, pos := "l06_tiling.go:52", after := #[{ on := 2, ground := Go.Ground.guard }], guard := some (2, true) }) (v := ?_) rfl (by kernel_rfl) (by kernel_rfl) (by kernel_rfl) (fun _ _ _ h => h) (Or.inl ⟨by rfl, ?_⟩) (by assumption) ?_
              rotate_left 1
              · (intro wS hSw; (try dsimp only at hSw); go_simp; (all_goals with_reducible rfl))
              simp only [Act.put, List.setIfInBounds_toArray, List.set_cons_zero, List.set_cons_succ]
              refine wpAnyH_take (i := 4) (oi := { dst := some 23, op := Go.Op.move (Go.Operand.tmp 6), type := 3, pos := "l06_tiling.go:52", after := #[{ on := 2, ground := Go.Ground.guard }], guard := some (2, true) }) (v := ?_) rfl (by kernel_rfl) (by kernel_rfl) (by kernel_rfl) (fun _ _ _ h => h) (Or.inl ⟨by rfl, ?_⟩) (by assumption) ?_
              rotate_left 1
              · (intro wS hSw; (try dsimp only at hSw); go_simp; (all_goals with_reducible rfl))
              simp only [Act.put, List.setIfInBounds_toArray, List.set_cons_zero, List.set_cons_succ]
              refine wpAnyH_take (i := 5) (oi := { dst := some 24, op := Go.Op.binOp Go.BinOp.sub 3 (Go.Operand.tmp 23) (Go.Operand.const (Go.Value.int Go.IntKind.i64 1)) 3, type := 3, pos := "l06_tiling.go:52", after := #[{ on := 4, ground := Go.Ground.data }, { on := 2, ground := Go.Ground.guard }], guard := some (2, true) }) (v := ?_) rfl (by kernel_rfl) (by kernel_rfl) (by kernel_rfl) (fun _ _ _ h => h) (Or.inl ⟨by rfl, ?_⟩) (by assumption) ?_
              rotate_left 1
              · (intro wS hSw; (try dsimp only at hSw); go_simp; (all_goals with_reducible rfl))
              simp only [Act.put, List.setIfInBounds_toArray, List.set_cons_zero, List.set_cons_succ]
              refine wpAnyH_take (i := 6) (oi := { dst := some 25, op := Go.Op.indexAddr 37 (Go.Operand.tmp 22) (Go.Operand.tmp 24), type := 0, pos := "l06_tiling.go:52", after := #[{ on := 3, ground := Go.Ground.data }, { on := 5, ground := Go.Ground.data }, { on := 2, ground := Go.Ground.guard }], guard := some (2, true) }) (v := ?_) rfl (by kernel_rfl) (by kernel_rfl) (by kernel_rfl) (fun _ _ _ h => h) (Or.inl ⟨by rfl, ?_⟩) (by assumption) ?_
              rotate_left 1
              · (intro wS hSw; (try dsimp only at hSw); go_simp; (all_goals with_reducible rfl))
              simp only [Act.put, List.setIfInBounds_toArray, List.set_cons_zero, List.set_cons_succ]
              refine wpAnyH_take (i := 7) (oi := { dst := some 26, op := Go.Op.load 73 (Go.Operand.tmp 25), type := 73, pos := "l06_tiling.go:52", after := #[{ on := 6, ground := Go.Ground.data }, { on := 2, ground := Go.Ground.guard }], guard := some (2, true) }) (v := ?_) rfl (by kernel_rfl) (by kernel_rfl) (by kernel_rfl) (fun _ _ _ h => h) (Or.inl ⟨by rfl, ?_⟩) (by assumption) ?_
              rotate_left 1
              · (intro wS hSw; (try dsimp only at hSw); go_simp; (all_goals with_reducible rfl))
              simp only [Act.put, List.setIfInBounds_toArray, List.set_cons_zero, List.set_cons_succ]
              refine wpAnyH_take (i := 9) (oi := { dst := some 28, op := Go.Op.load 73 (Go.Operand.tmp 5), type := 73, pos := "l06_tiling.go:52", after := #[{ on := 2, ground := Go.Ground.guard }], guard := some (2, true) }) (v := ?_) rfl (by kernel_rfl) (by kernel_rfl) (by kernel_rfl) (fun _ _ _ h => h) (Or.inl ⟨by rfl, ?_⟩) (by assumption) ?_
              rotate_left 1
              · (intro wS hSw; (try dsimp only at hSw); go_simp; (all_goals with_reducible rfl))
              simp only [Act.put, List.setIfInBounds_toArray, List.set_cons_zero, List.set_cons_succ]
              refine wpAnyH_ready (rs := [8]) (by kernel_rfl) (by simp) ?_
              refine AllReadyH.cons (o := { dst := some 27, op := Go.Op.call { callee := Go.Callee.value (Go.Operand.func 176), args := #[Go.Operand.tmp 26], argTypes := #[73] }, type := 3, pos := "l06_tiling.go:52", after := #[{ on := 7, ground := Go.Ground.data }, { on := 2, ground := Go.Ground.chain }, { on := 2, ground := Go.Ground.guard }], guard := some (2, true) }) rfl (fun K hK => ?_) AllReadyH.nil
              go_simp
              (first | (go_at_call 176; go_must (refine (orderI_of _ _ _ _ _ (by first | exact Heo.out | exact Hok.out) (by first | exact Ho1.out | exact Ho2.out)).mono ?_; rintro e wX ⟨rfl, hbX⟩; obtain ⟨hcX, hfX, hzX⟩ := bkn hbX wr.heap.size hz; have hz := hzX; have Bw := Bw.tr hbX); (try go_wp2_with fail)))
              refine hK.out _ _ ?_ (fun hHeld => ?_)
              · (try dsimp only); (try go_keep)
              clear hK K
              (try simp only [Act.put, List.setIfInBounds_toArray, List.set_cons_zero, List.set_cons_succ])
              refine wpAnyH_ready (rs := [10]) (by kernel_rfl) (by simp) ?_
              refine AllReadyH.cons (o := { dst := some 29, op := Go.Op.call { callee := Go.Callee.value (Go.Operand.func 176), args := #[Go.Operand.tmp 28], argTypes := #[73] }, type := 3, pos := "l06_tiling.go:52", after := #[{ on := 9, ground := Go.Ground.data }, { on := 8, ground := Go.Ground.chain }, { on := 2, ground := Go.Ground.guard }], guard := some (2, true) }) rfl (fun K hK => ?_) AllReadyH.nil
              go_simp
              (first | (go_at_call 176; go_must (refine (orderI_of _ _ _ _ _ (by first | exact Heo.out | exact Hok.out) (by first | exact Ho1.out | exact Ho2.out)).mono ?_; rintro e wX ⟨rfl, hbX⟩; obtain ⟨hcX, hfX, hzX⟩ := bkn hbX wr.heap.size hz; have hz := hzX; have Bw := Bw.tr hbX); (try go_wp2_with fail)))
              refine hK.out _ _ ?_ (fun hHeld => ?_)
              · (try dsimp only); (try go_keep)
              clear hK K
              (try simp only [Act.put, List.setIfInBounds_toArray, List.set_cons_zero, List.set_cons_succ])
              refine wpAnyH_take (i := 11) (oi := { dst := some 30, op := Go.Op.binOp Go.BinOp.gtr 3 (Go.Operand.tmp 27) (Go.Operand.tmp 29) 3, type := 4, pos := "l06_tiling.go:52", after := #[{ on := 8, ground := Go.Ground.data }, { on := 10, ground := Go.Ground.data }, { on := 2, ground := Go.Ground.guard }], guard := some (2, true) }) (v := ?_) rfl (by kernel_rfl) (by kernel_rfl) (by kernel_rfl) (fun _ _ _ h => h) (Or.inl ⟨by rfl, ?_⟩) (by assumption) ?_
              rotate_left 1
              · (intro wS hSw; (try dsimp only at hSw); go_simp; (all_goals with_reducible rfl))
              simp only [Act.put, List.setIfInBounds_toArray, List.set_cons_zero, List.set_cons_succ]
              refine wpAnyH_take (i := 12) (oi := { dst := some 31, op := Go.Op.pick (Go.Operand.tmp 21) (Go.Operand.tmp 30) (Go.Operand.const (Go.Value.bool false)), type := 4, pos := "l06_tiling.go:52", after := #[{ on := 2, ground := Go.Ground.data }, { on := 11, ground := Go.Ground.data }], guard := none }) (v := ?_) rfl (by kernel_rfl) (by kernel_rfl) (by kernel_rfl) (fun _ _ _ h => h) (Or.inl ⟨by rfl, ?_⟩) (by assumption) ?_
              rotate_left 1
              · (intro wS hSw; (try dsimp only at hSw); go_simp; (all_goals with_reducible rfl))
              simp only [Act.put, List.setIfInBounds_toArray, List.set_cons_zero, List.set_cons_succ]
              refine wpAnyH_done (by kernel_rfl) ?_ _
              all_goals
                have own3 := hown2.below Bw
                have bD3 := hD2.bl Bw
                have B3 := hbel2.tr Bw
                have hlow := hD2.lt
                clear hHeld z0 z1 z2 zd_0 zd_1 zd_2 hown2 hD2 hbel2 Bw hz hcX hfX hzX hbX Bacc
                obtain ⟨W4, hW4⟩ : ∃ W4, W4 = wX := ⟨_, rfl⟩
                subst hW4
                have hsl := own3.slot lenDom (by decide) hil
                rw [← He.out] at hsl
                have z0 := hsl 0 _ rfl
                have z1 := hsl 1 _ rfl
                have z2 := hsl 2 _ rfl
                simp only [Nat.add_zero] at z0
                clear hsl
                have zd_0 := bD3.cell 0
                have zd_1 := bD3.cell 1
                have zd_2 := bD3.cell 2
                simp only [List.getElem?_toArray, List.getElem?_cons_zero, List.getElem?_cons_succ] at zd_0 zd_1 zd_2
                by_cases hyes : out[P]? = some (x, y, dn)
                · have hPi : P = i := by have := HE.out; rw [if_pos hyes] at this; omega
                  subst hPi
                  have he2 : (ex, ey, ed) = (x, y, dn) := by
                    rw [List.getElem?_eq_getElem hil, Option.some.injEq] at hyes
                    rw [He.out, hyes]
                  simp only [Prod.mk.injEq] at he2
                  obtain ⟨rfl, rfl, rfl⟩ := he2
                  have HG : Hid (sortGo out (l.drop (k + 1)) = sortD l) := Lib.hid (by rw [← Hg2.out, Hst.out, if_pos hyes])
                  clear hyes
                  go_wp2_with fail
                  refine wp_region_held_drew (S := (fun w' => w'.cell? ⟨g, P * 3, none⟩ = some (.int .i64 ex) ∧ w'.cell? ⟨g, P * 3 + 1, none⟩ = some (.int .i64 ey) ∧ w'.cell? ⟨g, P * 3 + 2, none⟩ = some (.bool ed) ∧ w'.cell? ⟨gd, 0, none⟩ = some (.int .i64 ex) ∧ w'.cell? ⟨gd, 1, none⟩ = some (.int .i64 ey) ∧ w'.cell? ⟨gd, 2, none⟩ = some (.bool ed))) (by kernel_rfl) ?_ (fun hHeld => ?_)
                  · (try dsimp only); (try go_keep)
                  refine wpAnyH_take (i := 0) (oi := { dst := some 34, op := Go.Op.move (Go.Operand.tmp 6), type := 3, pos := "l06_tiling.go:55", after := #[], guard := none }) (v := ?_) rfl (by kernel_rfl) (by kernel_rfl) (by kernel_rfl) (fun _ _ _ h => h) (Or.inl ⟨by rfl, ?_⟩) (by assumption) ?_
                  rotate_left 1
                  · (intro wS hSw; (try dsimp only at hSw); go_simp; (all_goals with_reducible rfl))
                  simp only [Act.put, List.setIfInBounds_toArray, List.set_cons_zero, List.set_cons_succ]
                  refine wpAnyH_take (i := 1) (oi := { dst := some 35, op := Go.Op.binOp Go.BinOp.gtr 3 (Go.Operand.tmp 34) (Go.Operand.const (Go.Value.int Go.IntKind.i64 0)) 3, type := 4, pos := "l06_tiling.go:55", after := #[{ on := 0, ground := Go.Ground.data }], guard := none }) (v := ?_) rfl (by kernel_rfl) (by kernel_rfl) (by kernel_rfl) (fun _ _ _ h => h) (Or.inl ⟨by rfl, ?_⟩) (by assumption) ?_
                  rotate_left 1
                  · (intro wS hSw; (try dsimp only at hSw); go_simp; (all_goals with_reducible rfl))
                  simp only [Act.put, List.setIfInBounds_toArray, List.set_cons_zero, List.set_cons_succ]
                  refine wpAnyH_take (i := 2) (oi := { dst := some 36, op := Go.Op.move (Go.Operand.tmp 35), type := 4, pos := "l06_tiling.go:55", after := #[{ on := 1, ground := Go.Ground.data }], guard := none }) (v := ?_) rfl (by kernel_rfl) (by kernel_rfl) (by kernel_rfl) (fun _ _ _ h => h) (Or.inl ⟨by rfl, ?_⟩) (by assumption) ?_
                  rotate_left 1
                  · (intro wS hSw; (try dsimp only at hSw); go_simp; (all_goals with_reducible rfl))
                  simp only [Act.put, List.setIfInBounds_toArray, List.set_cons_zero, List.set_cons_succ]
                  refine wpAnyH_take (i := 3) (oi := { dst := some 37, op := Go.Op.move (Go.Operand.tmp 3), type := 37, pos := "l06_tiling.go:55", after := #[{ on := 2, ground := Go.Ground.guard }], guard := some (2, true) }) (v := ?_) rfl (by kernel_rfl) (by kernel_rfl) (by kernel_rfl) (fun _ _ _ h => h) (Or.inl ⟨by rfl, ?_⟩) (by assumption) ?_
                  rotate_left 1
                  · (intro wS hSw; (try dsimp only at hSw); go_simp; (all_goals with_reducible rfl))
                  simp only [Act.put, List.setIfInBounds_toArray, List.set_cons_zero, List.set_cons_succ]
                  refine wpAnyH_take (i := 4) (oi := { dst := some 38, op := Go.Op.move (Go.Operand.tmp 6), type := 3, pos := "l06_tiling.go:55", after := #[{ on := 2, ground := Go.Ground.guard }], guard := some (2, true) }) (v := ?_) rfl (by kernel_rfl) (by kernel_rfl) (by kernel_rfl) (fun _ _ _ h => h) (Or.inl ⟨by rfl, ?_⟩) (by assumption) ?_
                  rotate_left 1
                  · (intro wS hSw; (try dsimp only at hSw); go_simp; (all_goals with_reducible rfl))
                  simp only [Act.put, List.setIfInBounds_toArray, List.set_cons_zero, List.set_cons_succ]
                  refine wpAnyH_take (i := 5) (oi := { dst := some 39, op := Go.Op.binOp Go.BinOp.sub 3 (Go.Operand.tmp 38) (Go.Operand.const (Go.Value.int Go.IntKind.i64 1)) 3, type := 3, pos := "l06_tiling.go:55", after := #[{ on := 4, ground := Go.Ground.data }, { on := 2, ground := Go.Ground.guard }], guard := some (2, true) }) (v := ?_) rfl (by kernel_rfl) (by kernel_rfl) (by kernel_rfl) (fun _ _ _ h => h) (Or.inl ⟨by rfl, ?_⟩) (by assumption) ?_
                  rotate_left 1
                  · (intro wS hSw; (try dsimp only at hSw); go_simp; (all_goals with_reducible rfl))
                  simp only [Act.put, List.setIfInBounds_toArray, List.set_cons_zero, List.set_cons_succ]
                  refine wpAnyH_take (i := 6) (oi := { dst := some 40, op := Go.Op.indexAddr 37 (Go.Operand.tmp 37) (Go.Operand.tmp 39), type := 0, pos := "l06_tiling.go:55", after := #[{ on := 3, ground := Go.Ground.data }, { on := 5, ground := Go.Ground.data }, { on := 2, ground := Go.Ground.guard }], guard := some (2, true) }) (v := ?_) rfl (by kernel_rfl) (by kernel_rfl) (by kernel_rfl) (fun _ _ _ h => h) (Or.inl ⟨by rfl, ?_⟩) (by assumption) ?_
                  rotate_left 1
                  · (intro wS hSw; (try dsimp only at hSw); go_simp; (all_goals with_reducible rfl))
                  simp only [Act.put, List.setIfInBounds_toArray, List.set_cons_zero, List.set_cons_succ]
                  refine wpAnyH_take (i := 7) (oi := { dst := some 41, op := Go.Op.load 73 (Go.Operand.tmp 40), type := 73, pos := "l06_tiling.go:55", after := #[{ on := 6, ground := Go.Ground.data }, { on := 2, ground := Go.Ground.guard }], guard := some (2, true) }) (v := ?_) rfl (by kernel_rfl) (by kernel_rfl) (by kernel_rfl) (fun _ _ _ h => h) (Or.inl ⟨by rfl, ?_⟩) (by assumption) ?_
                  rotate_left 1
                  · (intro wS hSw; (try dsimp only at hSw); go_simp; (all_goals with_reducible rfl))
                  simp only [Act.put, List.setIfInBounds_toArray, List.set_cons_zero, List.set_cons_succ]
                  refine wpAnyH_take (i := 8) (oi := { dst := some 42, op := Go.Op.load 73 (Go.Operand.tmp 5), type := 73, pos := "l06_tiling.go:55", after := #[{ on := 2, ground := Go.Ground.guard }], guard := some (2, true) }) (v := ?_) rfl (by kernel_rfl) (by kernel_rfl) (by kernel_rfl) (fun _ _ _ h => h) (Or.inl ⟨by rfl, ?_⟩) (by assumption) ?_
                  rotate_left 1
                  · (intro wS hSw; (try dsimp only at hSw); go_simp; (all_goals with_reducible rfl))
                  simp only [Act.put, List.setIfInBounds_toArray, List.set_cons_zero, List.set_cons_succ]
                  refine wpAnyH_take (i := 9) (oi := { dst := some 43, op := Go.Op.binOp Go.BinOp.eql 73 (Go.Operand.tmp 41) (Go.Operand.tmp 42) 73, type := 4, pos := "l06_tiling.go:55", after := #[{ on := 7, ground := Go.Ground.data }, { on := 8, ground := Go.Ground.data }, { on := 2, ground := Go.Ground.guard }], guard := some (2, true) }) (v := ?_) rfl (by kernel_rfl) (by kernel_rfl) (by kernel_rfl) (fun _ _ _ h => h) (Or.inl ⟨by rfl, ?_⟩) (by assumption) ?_
                  rotate_left 1
                  · (intro wS hSw; (try dsimp only at hSw); go_simp; (all_goals with_reducible rfl))
                  simp only [Act.put, List.setIfInBounds_toArray, List.set_cons_zero, List.set_cons_succ]
                  refine wpAnyH_take (i := 10) (oi := { dst := some 44, op := Go.Op.pick (Go.Operand.tmp 36) (Go.Operand.tmp 43) (Go.Operand.const (Go.Value.bool false)), type := 4, pos := "l06_tiling.go:55", after := #[{ on := 2, ground := Go.Ground.data }, { on := 9, ground := Go.Ground.data }], guard := none }) (v := ?_) rfl (by kernel_rfl) (by kernel_rfl) (by kernel_rfl) (fun _ _ _ h => h) (Or.inl ⟨by rfl, ?_⟩) (by assumption) ?_
                  rotate_left 1
                  · (intro wS hSw; (try dsimp only at hSw); go_simp; (all_goals with_reducible rfl))
                  simp only [Act.put, List.setIfInBounds_toArray, List.set_cons_zero, List.set_cons_succ]
                  refine wpAnyH_done (by kernel_rfl) ?_ _
                  go_wp2
                  go_roundw
                  case rel => exact ⟨k + 1, out, _, c3, by omega, by go_num, rfl, HG, Hso, own3.below ((Below.refl _ _).drew), B3.drew⟩
                  case measure => simp [intOf]; omega
                · have hPi : P = i + 1 := by have := HE.out; rw [if_neg hyes] at this; omega
                  have hne : ¬ (ex, ey, ed) = (x, y, dn) := fun q => by
                    have h1 := posD_lt (x, y, dn) out i hil (by rw [← HP.out]; omega)
                    rw [← He.out, q] at h1; omega
                  have HNo := Lib.hid hyes; clear hyes
                  by_cases h1 : ex = x
                  · obtain rfl : x = ex := h1.symm
                    by_cases h2 : ey = y
                    · obtain rfl : y = ey := h2.symm
                      by_cases h3 : ed = dn
                      · exfalso; apply hne; rw [h3]
                      · have Hne := Lib.hid hne; clear hne
                        go_wp2_with fail
                        refine wp_region_held_drew (S := (fun w' => w'.cell? ⟨g, i * 3, none⟩ = some (.int .i64 x) ∧ w'.cell? ⟨g, i * 3 + 1, none⟩ = some (.int .i64 y) ∧ w'.cell? ⟨g, i * 3 + 2, none⟩ = some (.bool ed) ∧ w'.cell? ⟨gd, 0, none⟩ = some (.int .i64 x) ∧ w'.cell? ⟨gd, 1, none⟩ = some (.int .i64 y) ∧ w'.cell? ⟨gd, 2, none⟩ = some (.bool dn))) (by kernel_rfl) ?_ (fun hHeld => ?_)
                        · (try dsimp only); (try go_keep)
                        refine wpAnyH_take (i := 0) (oi := { dst := some 34, op := Go.Op.move (Go.Operand.tmp 6), type := 3, pos := "l06_tiling.go:55", after := #[], guard := none }) (v := ?_) rfl (by kernel_rfl) (by kernel_rfl) (by kernel_rfl) (fun _ _ _ h => h) (Or.inl ⟨by rfl, ?_⟩) (by assumption) ?_
                        rotate_left 1
                        · (intro wS hSw; (try dsimp only at hSw); go_simp; (all_goals with_reducible rfl))
                        simp only [Act.put, List.setIfInBounds_toArray, List.set_cons_zero, List.set_cons_succ]
                        refine wpAnyH_take (i := 1) (oi := { dst := some 35, op := Go.Op.binOp Go.BinOp.gtr 3 (Go.Operand.tmp 34) (Go.Operand.const (Go.Value.int Go.IntKind.i64 0)) 3, type := 4, pos := "l06_tiling.go:55", after := #[{ on := 0, ground := Go.Ground.data }], guard := none }) (v := ?_) rfl (by kernel_rfl) (by kernel_rfl) (by kernel_rfl) (fun _ _ _ h => h) (Or.inl ⟨by rfl, ?_⟩) (by assumption) ?_
                        rotate_left 1
                        · (intro wS hSw; (try dsimp only at hSw); go_simp; (all_goals with_reducible rfl))
                        simp only [Act.put, List.setIfInBounds_toArray, List.set_cons_zero, List.set_cons_succ]
                        refine wpAnyH_take (i := 2) (oi := { dst := some 36, op := Go.Op.move (Go.Operand.tmp 35), type := 4, pos := "l06_tiling.go:55", after := #[{ on := 1, ground := Go.Ground.data }], guard := none }) (v := ?_) rfl (by kernel_rfl) (by kernel_rfl) (by kernel_rfl) (fun _ _ _ h => h) (Or.inl ⟨by rfl, ?_⟩) (by assumption) ?_
                        rotate_left 1
                        · (intro wS hSw; (try dsimp only at hSw); go_simp; (all_goals with_reducible rfl))
                        simp only [Act.put, List.setIfInBounds_toArray, List.set_cons_zero, List.set_cons_succ]
                        refine wpAnyH_take (i := 3) (oi := { dst := some 37, op := Go.Op.move (Go.Operand.tmp 3), type := 37, pos := "l06_tiling.go:55", after := #[{ on := 2, ground := Go.Ground.guard }], guard := some (2, true) }) (v := ?_) rfl (by kernel_rfl) (by kernel_rfl) (by kernel_rfl) (fun _ _ _ h => h) (Or.inl ⟨by rfl, ?_⟩) (by assumption) ?_
                        rotate_left 1
                        · (intro wS hSw; (try dsimp only at hSw); go_simp; (all_goals with_reducible rfl))
                        simp only [Act.put, List.setIfInBounds_toArray, List.set_cons_zero, List.set_cons_succ]
                        refine wpAnyH_take (i := 4) (oi := { dst := some 38, op := Go.Op.move (Go.Operand.tmp 6), type := 3, pos := "l06_tiling.go:55", after := #[{ on := 2, ground := Go.Ground.guard }], guard := some (2, true) }) (v := ?_) rfl (by kernel_rfl) (by kernel_rfl) (by kernel_rfl) (fun _ _ _ h => h) (Or.inl ⟨by rfl, ?_⟩) (by assumption) ?_
                        rotate_left 1
                        · (intro wS hSw; (try dsimp only at hSw); go_simp; (all_goals with_reducible rfl))
                        simp only [Act.put, List.setIfInBounds_toArray, List.set_cons_zero, List.set_cons_succ]
                        refine wpAnyH_take (i := 5) (oi := { dst := some 39, op := Go.Op.binOp Go.BinOp.sub 3 (Go.Operand.tmp 38) (Go.Operand.const (Go.Value.int Go.IntKind.i64 1)) 3, type := 3, pos := "l06_tiling.go:55", after := #[{ on := 4, ground := Go.Ground.data }, { on := 2, ground := Go.Ground.guard }], guard := some (2, true) }) (v := ?_) rfl (by kernel_rfl) (by kernel_rfl) (by kernel_rfl) (fun _ _ _ h => h) (Or.inl ⟨by rfl, ?_⟩) (by assumption) ?_
                        rotate_left 1
                        · (intro wS hSw; (try dsimp only at hSw); go_simp; (all_goals with_reducible rfl))
                        simp only [Act.put, List.setIfInBounds_toArray, List.set_cons_zero, List.set_cons_succ]
                        refine wpAnyH_take (i := 6) (oi := { dst := some 40, op := Go.Op.indexAddr 37 (Go.Operand.tmp 37) (Go.Operand.tmp 39), type := 0, pos := "l06_tiling.go:55", after := #[{ on := 3, ground := Go.Ground.data }, { on := 5, ground := Go.Ground.data }, { on := 2, ground := Go.Ground.guard }], guard := some (2, true) }) (v := ?_) rfl (by kernel_rfl) (by kernel_rfl) (by kernel_rfl) (fun _ _ _ h => h) (Or.inl ⟨by rfl, ?_⟩) (by assumption) ?_
                        rotate_left 1
                        · (intro wS hSw; (try dsimp only at hSw); go_simp; (all_goals with_reducible rfl))
                        simp only [Act.put, List.setIfInBounds_toArray, List.set_cons_zero, List.set_cons_succ]
                        refine wpAnyH_take (i := 7) (oi := { dst := some 41, op := Go.Op.load 73 (Go.Operand.tmp 40), type := 73, pos := "l06_tiling.go:55", after := #[{ on := 6, ground := Go.Ground.data }, { on := 2, ground := Go.Ground.guard }], guard := some (2, true) }) (v := ?_) rfl (by kernel_rfl) (by kernel_rfl) (by kernel_rfl) (fun _ _ _ h => h) (Or.inl ⟨by rfl, ?_⟩) (by assumption) ?_
                        rotate_left 1
                        · (intro wS hSw; (try dsimp only at hSw); go_simp; (all_goals with_reducible rfl))
                        simp only [Act.put, List.setIfInBounds_toArray, List.set_cons_zero, List.set_cons_succ]
                        refine wpAnyH_take (i := 8) (oi := { dst := some 42, op := Go.Op.load 73 (Go.Operand.tmp 5), type := 73, pos := "l06_tiling.go:55", after := #[{ on := 2, ground := Go.Ground.guard }], guard := some (2, true) }) (v := ?_) rfl (by kernel_rfl) (by kernel_rfl) (by kernel_rfl) (fun _ _ _ h => h) (Or.inl ⟨by rfl, ?_⟩) (by assumption) ?_
                        rotate_left 1
                        · (intro wS hSw; (try dsimp only at hSw); go_simp; (all_goals with_reducible rfl))
                        simp only [Act.put, List.setIfInBounds_toArray, List.set_cons_zero, List.set_cons_succ]
                        refine wpAnyH_take (i := 9) (oi := { dst := some 43, op := Go.Op.binOp Go.BinOp.eql 73 (Go.Operand.tmp 41) (Go.Operand.tmp 42) 73, type := 4, pos := "l06_tiling.go:55", after := #[{ on := 7, ground := Go.Ground.data }, { on := 8, ground := Go.Ground.data }, { on := 2, ground := Go.Ground.guard }], guard := some (2, true) }) (v := ?_) rfl (by kernel_rfl) (by kernel_rfl) (by kernel_rfl) (fun _ _ _ h => h) (Or.inl ⟨by rfl, ?_⟩) (by assumption) ?_
                        rotate_left 1
                        · (intro wS hSw; (try dsimp only at hSw); go_simp; (all_goals with_reducible rfl))
                        simp only [Act.put, List.setIfInBounds_toArray, List.set_cons_zero, List.set_cons_succ]
                        refine wpAnyH_take (i := 10) (oi := { dst := some 44, op := Go.Op.pick (Go.Operand.tmp 36) (Go.Operand.tmp 43) (Go.Operand.const (Go.Value.bool false)), type := 4, pos := "l06_tiling.go:55", after := #[{ on := 2, ground := Go.Ground.data }, { on := 9, ground := Go.Ground.data }], guard := none }) (v := ?_) rfl (by kernel_rfl) (by kernel_rfl) (by kernel_rfl) (fun _ _ _ h => h) (Or.inl ⟨by rfl, ?_⟩) (by assumption) ?_
                        rotate_left 1
                        · (intro wS hSw; (try dsimp only at hSw); go_simp; (all_goals with_reducible rfl))
                        simp only [Act.put, List.setIfInBounds_toArray, List.set_cons_zero, List.set_cons_succ]
                        refine wpAnyH_done (by kernel_rfl) ?_ _
                        have own6 := own3.below ((Below.refl _ _).drew)
                        have bD6 := bD3.bl ((Below.refl _ _).drew)
                        have B6 := B3.drew
                        clear hHeld z0 z1 z2 zd_0 zd_1 zd_2 own3 bD3 B3
                        obtain ⟨W5, hW5⟩ : ∃ W5, W5 = W4.drew := ⟨_, rfl⟩
                        rw [← hW5] at own6 bD6 B6 ⊢
                        clear hW5 hwi hi0 hiI
                        first | rw [show ((i : Int) + 1) = (P : Int) by omega] | rw [show (((i + 1 : Nat)) : Int) = (P : Int) by omega]
                        have HPi := Lib.hid hPi; clear hPi
                        have Hins : Hid (sortGo (out.take P ++ (x, y, dn) :: out.drop P) (l.drop (k + 1)) = sortD l) := Lib.hid (by rw [← Hg2.out, Hst.out, if_neg HNo.out])
                        have Hsi : Hid (Sorted (out.take P ++ (x, y, dn) :: out.drop P)) := Lib.hid (by have := sorted_step Hso.out (x, y, dn); rw [Hst.out, if_neg HNo.out] at this; exact this)
                        have H8 : Hid ((out.length + 1) * 24 ≤ 140737488355328) := Lib.hid (by omega)
                        have HM : Hid (out.length + 1 ≤ maxLen) := Lib.hid (by unfold maxLen; omega)
                        have hneD := HneD.out
                        go_wp2_with (at_builtin; go_must (refine wpList_app1 (enc := eDom) rowDom lenDom oneDom B6 own6 ((0, 0, false) : Dm) H8.out HM.out rfl _ _ rfl rfl rfl ?_); intro v4 w4 own4 hb4 hg4 hd4; obtain ⟨A4, c4, rfl, hc4, hm4⟩ := own4.form)
                        have bD4 := (bD6.alloc _).grown hg4 (fun e => hneD e.symm)
                        obtain ⟨g4, hA4, hg40, hg41⟩ := own4.split (k := 0) (by simp)
                        subst hA4
                        have hneg : g4 ≠ gd := by
                          have hl5 := bD6.lt
                          rcases hd4 with q | q
                          · intro e; apply hneD; rw [← q, e]; rfl
                          · simp [Value.ownBlock] at q; omega
                        clear hd4
                        simp only [List.length_append, List.length_singleton] at hc4 own4 ⊢
                        have zd_0 := bD4.cell 0
                        have zd_1 := bD4.cell 1
                        have zd_2 := bD4.cell 2
                        simp only [List.getElem?_toArray, List.getElem?_cons_zero, List.getElem?_cons_succ] at zd_0 zd_1 zd_2
                        have hP4 : ¬ c4 = P := by omega
                        have hwP : IntKind.i64.wrap (((P : Nat) : Int) + 1) = ((P : Nat) : Int) + 1 := IntWalk.i64_in _ (by omega)
                        have hP0 : (0 : Int) ≤ ((P : Nat) : Int) + 1 := by omega
                        have hP1 : ((P : Nat) : Int) + 1 ≤ (out.length : Int) + 1 := by omega
                        have hPn : (((P : Nat) : Int) + 1).toNat = P + 1 := by omega
                        have hPc : P + 1 ≤ c4 := by omega
                        have hPi : ((P : Nat) : Int) ≤ (out.length : Int) + 1 := by omega
                        have hPl : P ≤ out.length := by omega
                        have own4d : OwnL 73 3 eDom w.heap.size w4.drew (.slice (some ⟨g4, 0, none⟩) (out.length + 1) c4) (out ++ [(0, 0, false)]) := own4.below (Below.refl _ _).drew
                        have bD4d : Blk w4.drew gd 73 #[.int .i64 x, .int .i64 y, .bool dn] := bD4
                        have B4d := hb4.drew
                        clear own4 bD4 hb4 zd_0 zd_1 zd_2
                        by_cases hcap : c4 = P + 1
                        · go_wp2_with fail
                          refine wp_region_held_drew (S := (fun _ => True)) (by kernel_rfl) ?_ (fun hHeld => ?_)
                          · (try dsimp only); (try go_keep)
                          refine wpAnyH_take (i := 0) (oi := { dst := some 49, op := Go.Op.move (Go.Operand.tmp 3), type := 37, pos := "l06_tiling.go:59", after := #[], guard := none }) (v := ?_) rfl (by kernel_rfl) (by kernel_rfl) (by kernel_rfl) (fun _ _ _ h => h) (Or.inl ⟨by rfl, ?_⟩) (by assumption) ?_
                          rotate_left 1
                          · (intro wS hSw; (try dsimp only at hSw); go_simp; (all_goals with_reducible rfl))
                          simp only [Act.put, List.setIfInBounds_toArray, List.set_cons_zero, List.set_cons_succ]
                          refine wpAnyH_take (i := 1) (oi := { dst := some 50, op := Go.Op.move (Go.Operand.tmp 6), type := 3, pos := "l06_tiling.go:59", after := #[], guard := none }) (v := ?_) rfl (by kernel_rfl) (by kernel_rfl) (by kernel_rfl) (fun _ _ _ h => h) (Or.inl ⟨by rfl, ?_⟩) (by assumption) ?_
                          rotate_left 1
                          · (intro wS hSw; (try dsimp only at hSw); go_simp; (all_goals with_reducible rfl))
                          simp only [Act.put, List.setIfInBounds_toArray, List.set_cons_zero, List.set_cons_succ]
                          refine wpAnyH_take (i := 2) (oi := { dst := some 51, op := Go.Op.binOp Go.BinOp.add 3 (Go.Operand.tmp 50) (Go.Operand.const (Go.Value.int Go.IntKind.i64 1)) 3, type := 3, pos := "l06_tiling.go:59", after := #[{ on := 1, ground := Go.Ground.data }], guard := none }) (v := ?_) rfl (by kernel_rfl) (by kernel_rfl) (by kernel_rfl) (fun _ _ _ h => h) (Or.inl ⟨by rfl, ?_⟩) (by assumption) ?_
                          rotate_left 1
                          · (intro wS hSw; (try dsimp only at hSw); go_simp; (all_goals with_reducible rfl))
                          simp only [Act.put, List.setIfInBounds_toArray, List.set_cons_zero, List.set_cons_succ]
                          refine wpAnyH_take (i := 3) (oi := { dst := some 52, op := Go.Op.slice 37 (Go.Operand.tmp 49) (some (Go.Operand.tmp 51)) none none, type := 37, pos := "l06_tiling.go:59", after := #[{ on := 0, ground := Go.Ground.data }, { on := 2, ground := Go.Ground.data }], guard := none }) (v := ?_) rfl (by kernel_rfl) (by kernel_rfl) (by kernel_rfl) (fun _ _ _ h => h) (Or.inl ⟨by rfl, ?_⟩) (by assumption) ?_
                          rotate_left 1
                          · (intro wS hSw; (try dsimp only at hSw); go_simp; (all_goals with_reducible rfl))
                          simp only [Act.put, List.setIfInBounds_toArray, List.set_cons_zero, List.set_cons_succ]
                          refine wpAnyH_take (i := 4) (oi := { dst := some 53, op := Go.Op.move (Go.Operand.tmp 3), type := 37, pos := "l06_tiling.go:59", after := #[], guard := none }) (v := ?_) rfl (by kernel_rfl) (by kernel_rfl) (by kernel_rfl) (fun _ _ _ h => h) (Or.inl ⟨by rfl, ?_⟩) (by assumption) ?_
                          rotate_left 1
                          · (intro wS hSw; (try dsimp only at hSw); go_simp; (all_goals with_reducible rfl))
                          simp only [Act.put, List.setIfInBounds_toArray, List.set_cons_zero, List.set_cons_succ]
                          refine wpAnyH_take (i := 5) (oi := { dst := some 54, op := Go.Op.move (Go.Operand.tmp 6), type := 3, pos := "l06_tiling.go:59", after := #[], guard := none }) (v := ?_) rfl (by kernel_rfl) (by kernel_rfl) (by kernel_rfl) (fun _ _ _ h => h) (Or.inl ⟨by rfl, ?_⟩) (by assumption) ?_
                          rotate_left 1
                          · (intro wS hSw; (try dsimp only at hSw); go_simp; (all_goals with_reducible rfl))
                          simp only [Act.put, List.setIfInBounds_toArray, List.set_cons_zero, List.set_cons_succ]
                          refine wpAnyH_take (i := 6) (oi := { dst := some 55, op := Go.Op.slice 37 (Go.Operand.tmp 53) (some (Go.Operand.tmp 54)) none none, type := 37, pos := "l06_tiling.go:59", after := #[{ on := 4, ground := Go.Ground.data }, { on := 5, ground := Go.Ground.data }], guard := none }) (v := ?_) rfl (by kernel_rfl) (by kernel_rfl) (by kernel_rfl) (fun _ _ _ h => h) (Or.inl ⟨by rfl, ?_⟩) (by assumption) ?_
                          rotate_left 1
                          · (intro wS hSw; (try dsimp only at hSw); go_simp; (all_goals with_reducible rfl))
                          simp only [Act.put, List.setIfInBounds_toArray, List.set_cons_zero, List.set_cons_succ]
                          refine wpAnyH_ready (rs := [7]) (by kernel_rfl) (by simp) ?_
                          refine AllReadyH.cons (o := { dst := some 56, op := Go.Op.call { callee := Go.Callee.builtin Go.Builtin.copy, args := #[Go.Operand.tmp 52, Go.Operand.tmp 55], argTypes := #[37, 37] }, type := 3, pos := "l06_tiling.go:59", after := #[{ on := 3, ground := Go.Ground.data }, { on := 6, ground := Go.Ground.data }], guard := none }) rfl (fun K hK => ?_) AllReadyH.nil
                          (refine step_shift rowDom lenDom oneDom own4d P hPl rfl _ _ rfl _ _ _ _ _ _ rfl rfl (by omega) (by omega) (fun h => by exfalso; omega) (fun h => by simp) ?_; intro w5 own5 hg5)
                          refine hK.out _ _ ?_ (fun hHeld => ?_)
                          · (try dsimp only); (try go_keep)
                          clear hK K
                          (try simp only [Act.put, List.setIfInBounds_toArray, List.set_cons_zero, List.set_cons_succ])
                          refine wpAnyH_done (by kernel_rfl) ?_ _
                          clear hHeld
                          have bD5 := bD4d.grown hg5 (by simp; omega)
                          have B5 := B4d.grown hg5 B4d.size (fun k hk => by injection hk with hk; omega)
                          have hl5 : ((out ++ [((0, 0, false) : Dm)]).take (P + 1) ++ out.drop P).length = out.length + 1 := by simp; omega
                          have hset := shift_set out ((0, 0, false) : Dm) (x, y, dn) hPl
                          obtain ⟨NW, hNW⟩ : ∃ NW, NW = out.take P ++ (x, y, dn) :: out.drop P := ⟨_, rfl⟩
                          have hNl : NW.length = out.length + 1 := by rw [hNW]; simp; omega
                          rw [← hNW] at Hins Hsi hset
                          obtain ⟨L5, hL5⟩ : ∃ L5, L5 = (out ++ [((0, 0, false) : Dm)]).take (P + 1) ++ out.drop P := ⟨_, rfl⟩
                          rw [← hL5] at own5 hset hl5
                          have hk5 : P < L5.length := by omega
                          obtain ⟨u0, u1, u2, s0, s1, s2⟩ := own5.slot3 lenDom (k := P) hk5
                          have hsf := own5.free
                          have Hset := Lib.hid hset; have HNl := Lib.hid hNl; have Hk5 := Lib.hid hk5; clear hset hNl hNW hL5 hl5 own4d bD4d B4d hg5 hk5
                          have hpn : ((P : Nat) : Int) < (out.length : Int) + 1 := by omega
                          have zd_0 := bD5.cell 0
                          have zd_1 := bD5.cell 1
                          have zd_2 := bD5.cell 2
                          simp only [List.getElem?_toArray, List.getElem?_cons_zero, List.getElem?_cons_succ] at zd_0 zd_1 zd_2
                          go_wp2
                          go_roundw
                          case rel => exact ⟨k + 1, NW, _, c4, by omega, by go_num, by rw [HNl.out], Hins, Hsi, by rw [HNl.out, ← Hset.out]; exact own5.store3 lenDom Hk5.out rfl, ((B5.st _ _ (by first | exact hg40 | simp)).st _ _ (by first | exact hg40 | simp)).st _ _ (by first | exact hg40 | simp)⟩
                          case measure => simp [intOf]; omega
                        · go_wp2_with fail
                          refine wp_region_held_drew (S := (fun _ => True)) (by kernel_rfl) ?_ (fun hHeld => ?_)
                          · (try dsimp only); (try go_keep)
                          refine wpAnyH_take (i := 0) (oi := { dst := some 49, op := Go.Op.move (Go.Operand.tmp 3), type := 37, pos := "l06_tiling.go:59", after := #[], guard := none }) (v := ?_) rfl (by kernel_rfl) (by kernel_rfl) (by kernel_rfl) (fun _ _ _ h => h) (Or.inl ⟨by rfl, ?_⟩) (by assumption) ?_
                          rotate_left 1
                          · (intro wS hSw; (try dsimp only at hSw); go_simp; (all_goals with_reducible rfl))
                          simp only [Act.put, List.setIfInBounds_toArray, List.set_cons_zero, List.set_cons_succ]
                          refine wpAnyH_take (i := 1) (oi := { dst := some 50, op := Go.Op.move (Go.Operand.tmp 6), type := 3, pos := "l06_tiling.go:59", after := #[], guard := none }) (v := ?_) rfl (by kernel_rfl) (by kernel_rfl) (by kernel_rfl) (fun _ _ _ h => h) (Or.inl ⟨by rfl, ?_⟩) (by assumption) ?_
                          rotate_left 1
                          · (intro wS hSw; (try dsimp only at hSw); go_simp; (all_goals with_reducible rfl))
                          simp only [Act.put, List.setIfInBounds_toArray, List.set_cons_zero, List.set_cons_succ]
                          refine wpAnyH_take (i := 2) (oi := { dst := some 51, op := Go.Op.binOp Go.BinOp.add 3 (Go.Operand.tmp 50) (Go.Operand.const (Go.Value.int Go.IntKind.i64 1)) 3, type := 3, pos := "l06_tiling.go:59", after := #[{ on := 1, ground := Go.Ground.data }], guard := none }) (v := ?_) rfl (by kernel_rfl) (by kernel_rfl) (by kernel_rfl) (fun _ _ _ h => h) (Or.inl ⟨by rfl, ?_⟩) (by assumption) ?_
                          rotate_left 1
                          · (intro wS hSw; (try dsimp only at hSw); go_simp; (all_goals with_reducible rfl))
                          simp only [Act.put, List.setIfInBounds_toArray, List.set_cons_zero, List.set_cons_succ]
                          refine wpAnyH_take (i := 3) (oi := { dst := some 52, op := Go.Op.slice 37 (Go.Operand.tmp 49) (some (Go.Operand.tmp 51)) none none, type := 37, pos := "l06_tiling.go:59", after := #[{ on := 0, ground := Go.Ground.data }, { on := 2, ground := Go.Ground.data }], guard := none }) (v := ?_) rfl (by kernel_rfl) (by kernel_rfl) (by kernel_rfl) (fun _ _ _ h => h) (Or.inl ⟨by rfl, ?_⟩) (by assumption) ?_
                          rotate_left 1
                          · (intro wS hSw; (try dsimp only at hSw); go_simp; (all_goals with_reducible rfl))
                          simp only [Act.put, List.setIfInBounds_toArray, List.set_cons_zero, List.set_cons_succ]
                          refine wpAnyH_take (i := 4) (oi := { dst := some 53, op := Go.Op.move (Go.Operand.tmp 3), type := 37, pos := "l06_tiling.go:59", after := #[], guard := none }) (v := ?_) rfl (by kernel_rfl) (by kernel_rfl) (by kernel_rfl) (fun _ _ _ h => h) (Or.inl ⟨by rfl, ?_⟩) (by assumption) ?_
                          rotate_left 1
                          · (intro wS hSw; (try dsimp only at hSw); go_simp; (all_goals with_reducible rfl))
                          simp only [Act.put, List.setIfInBounds_toArray, List.set_cons_zero, List.set_cons_succ]
                          refine wpAnyH_take (i := 5) (oi := { dst := some 54, op := Go.Op.move (Go.Operand.tmp 6), type := 3, pos := "l06_tiling.go:59", after := #[], guard := none }) (v := ?_) rfl (by kernel_rfl) (by kernel_rfl) (by kernel_rfl) (fun _ _ _ h => h) (Or.inl ⟨by rfl, ?_⟩) (by assumption) ?_
                          rotate_left 1
                          · (intro wS hSw; (try dsimp only at hSw); go_simp; (all_goals with_reducible rfl))
                          simp only [Act.put, List.setIfInBounds_toArray, List.set_cons_zero, List.set_cons_succ]
                          refine wpAnyH_take (i := 6) (oi := { dst := some 55, op := Go.Op.slice 37 (Go.Operand.tmp 53) (some (Go.Operand.tmp 54)) none none, type := 37, pos := "l06_tiling.go:59", after := #[{ on := 4, ground := Go.Ground.data }, { on := 5, ground := Go.Ground.data }], guard := none }) (v := ?_) rfl (by kernel_rfl) (by kernel_rfl) (by kernel_rfl) (fun _ _ _ h => h) (Or.inl ⟨by rfl, ?_⟩) (by assumption) ?_
                          rotate_left 1
                          · (intro wS hSw; (try dsimp only at hSw); go_simp; (all_goals with_reducible rfl))
                          simp only [Act.put, List.setIfInBounds_toArray, List.set_cons_zero, List.set_cons_succ]
                          refine wpAnyH_ready (rs := [7]) (by kernel_rfl) (by simp) ?_
                          refine AllReadyH.cons (o := { dst := some 56, op := Go.Op.call { callee := Go.Callee.builtin Go.Builtin.copy, args := #[Go.Operand.tmp 52, Go.Operand.tmp 55], argTypes := #[37, 37] }, type := 3, pos := "l06_tiling.go:59", after := #[{ on := 3, ground := Go.Ground.data }, { on := 6, ground := Go.Ground.data }], guard := none }) rfl (fun K hK => ?_) AllReadyH.nil
                          (refine step_shift rowDom lenDom oneDom own4d P hPl rfl _ _ rfl _ _ _ _ _ _ rfl rfl (by omega) (by omega) (fun h => by simp) (fun h => by simp) ?_; intro w5 own5 hg5)
                          refine hK.out _ _ ?_ (fun hHeld => ?_)
                          · (try dsimp only); (try go_keep)
                          clear hK K
                          (try simp only [Act.put, List.setIfInBounds_toArray, List.set_cons_zero, List.set_cons_succ])
                          refine wpAnyH_done (by kernel_rfl) ?_ _
                          clear hHeld
                          have bD5 := bD4d.grown hg5 (by simp; omega)
                          have B5 := B4d.grown hg5 B4d.size (fun k hk => by injection hk with hk; omega)
                          have hl5 : ((out ++ [((0, 0, false) : Dm)]).take (P + 1) ++ out.drop P).length = out.length + 1 := by simp; omega
                          have hset := shift_set out ((0, 0, false) : Dm) (x, y, dn) hPl
                          obtain ⟨NW, hNW⟩ : ∃ NW, NW = out.take P ++ (x, y, dn) :: out.drop P := ⟨_, rfl⟩
                          have hNl : NW.length = out.length + 1 := by rw [hNW]; simp; omega
                          rw [← hNW] at Hins Hsi hset
                          obtain ⟨L5, hL5⟩ : ∃ L5, L5 = (out ++ [((0, 0, false) : Dm)]).take (P + 1) ++ out.drop P := ⟨_, rfl⟩
                          rw [← hL5] at own5 hset hl5
                          have hk5 : P < L5.length := by omega
                          obtain ⟨u0, u1, u2, s0, s1, s2⟩ := own5.slot3 lenDom (k := P) hk5
                          have hsf := own5.free
                          have Hset := Lib.hid hset; have HNl := Lib.hid hNl; have Hk5 := Lib.hid hk5; clear hset hNl hNW hL5 hl5 own4d bD4d B4d hg5 hk5
                          have hpn : ((P : Nat) : Int) < (out.length : Int) + 1 := by omega
                          have zd_0 := bD5.cell 0
                          have zd_1 := bD5.cell 1
                          have zd_2 := bD5.cell 2
                          simp only [List.getElem?_toArray, List.getElem?_cons_zero, List.getElem?_cons_succ] at zd_0 zd_1 zd_2
                          go_wp2
                          go_roundw
                          case rel => exact ⟨k + 1, NW, _, c4, by omega, by go_num, by rw [HNl.out], Hins, Hsi, by rw [HNl.out, ← Hset.out]; exact own5.store3 lenDom Hk5.out rfl, ((B5.st _ _ (by first | exact hg40 | simp)).st _ _ (by first | exact hg40 | simp)).st _ _ (by first | exact hg40 | simp)⟩
                          case measure => simp [intOf]; omega
                    · have Hne := Lib.hid hne; clear hne
                      go_wp2_with fail
                      refine wp_region_held_drew (S := (fun w' => w'.cell? ⟨g, i * 3, none⟩ = some (.int .i64 x) ∧ w'.cell? ⟨g, i * 3 + 1, none⟩ = some (.int .i64 ey) ∧ w'.cell? ⟨g, i * 3 + 2, none⟩ = some (.bool ed) ∧ w'.cell? ⟨gd, 0, none⟩ = some (.int .i64 x) ∧ w'.cell? ⟨gd, 1, none⟩ = some (.int .i64 y) ∧ w'.cell? ⟨gd, 2, none⟩ = some (.bool dn))) (by kernel_rfl) ?_ (fun hHeld => ?_)
                      · (try dsimp only); (try go_keep)
                      refine wpAnyH_take (i := 0) (oi := { dst := some 34, op := Go.Op.move (Go.Operand.tmp 6), type := 3, pos := "l06_tiling.go:55", after := #[], guard := none }) (v := ?_) rfl (by kernel_rfl) (by kernel_rfl) (by kernel_rfl) (fun _ _ _ h => h) (Or.inl ⟨by rfl, ?_⟩) (by assumption) ?_
                      rotate_left 1
                      · (intro wS hSw; (try dsimp only at hSw); go_simp; (all_goals with_reducible rfl))
                      simp only [Act.put, List.setIfInBounds_toArray, List.set_cons_zero, List.set_cons_succ]
                      refine wpAnyH_take (i := 1) (oi := { dst := some 35, op := Go.Op.binOp Go.BinOp.gtr 3 (Go.Operand.tmp 34) (Go.Operand.const (Go.Value.int Go.IntKind.i64 0)) 3, type := 4, pos := "l06_tiling.go:55", after := #[{ on := 0, ground := Go.Ground.data }], guard := none }) (v := ?_) rfl (by kernel_rfl) (by kernel_rfl) (by kernel_rfl) (fun _ _ _ h => h) (Or.inl ⟨by rfl, ?_⟩) (by assumption) ?_
                      rotate_left 1
                      · (intro wS hSw; (try dsimp only at hSw); go_simp; (all_goals with_reducible rfl))
                      simp only [Act.put, List.setIfInBounds_toArray, List.set_cons_zero, List.set_cons_succ]
                      refine wpAnyH_take (i := 2) (oi := { dst := some 36, op := Go.Op.move (Go.Operand.tmp 35), type := 4, pos := "l06_tiling.go:55", after := #[{ on := 1, ground := Go.Ground.data }], guard := none }) (v := ?_) rfl (by kernel_rfl) (by kernel_rfl) (by kernel_rfl) (fun _ _ _ h => h) (Or.inl ⟨by rfl, ?_⟩) (by assumption) ?_
                      rotate_left 1
                      · (intro wS hSw; (try dsimp only at hSw); go_simp; (all_goals with_reducible rfl))
                      simp only [Act.put, List.setIfInBounds_toArray, List.set_cons_zero, List.set_cons_succ]
                      refine wpAnyH_take (i := 3) (oi := { dst := some 37, op := Go.Op.move (Go.Operand.tmp 3), type := 37, pos := "l06_tiling.go:55", after := #[{ on := 2, ground := Go.Ground.guard }], guard := some (2, true) }) (v := ?_) rfl (by kernel_rfl) (by kernel_rfl) (by kernel_rfl) (fun _ _ _ h => h) (Or.inl ⟨by rfl, ?_⟩) (by assumption) ?_
                      rotate_left 1
                      · (intro wS hSw; (try dsimp only at hSw); go_simp; (all_goals with_reducible rfl))
                      simp only [Act.put, List.setIfInBounds_toArray, List.set_cons_zero, List.set_cons_succ]
                      refine wpAnyH_take (i := 4) (oi := { dst := some 38, op := Go.Op.move (Go.Operand.tmp 6), type := 3, pos := "l06_tiling.go:55", after := #[{ on := 2, ground := Go.Ground.guard }], guard := some (2, true) }) (v := ?_) rfl (by kernel_rfl) (by kernel_rfl) (by kernel_rfl) (fun _ _ _ h => h) (Or.inl ⟨by rfl, ?_⟩) (by assumption) ?_
                      rotate_left 1
                      · (intro wS hSw; (try dsimp only at hSw); go_simp; (all_goals with_reducible rfl))
                      simp only [Act.put, List.setIfInBounds_toArray, List.set_cons_zero, List.set_cons_succ]
                      refine wpAnyH_take (i := 5) (oi := { dst := some 39, op := Go.Op.binOp Go.BinOp.sub 3 (Go.Operand.tmp 38) (Go.Operand.const (Go.Value.int Go.IntKind.i64 1)) 3, type := 3, pos := "l06_tiling.go:55", after := #[{ on := 4, ground := Go.Ground.data }, { on := 2, ground := Go.Ground.guard }], guard := some (2, true) }) (v := ?_) rfl (by kernel_rfl) (by kernel_rfl) (by kernel_rfl) (fun _ _ _ h => h) (Or.inl ⟨by rfl, ?_⟩) (by assumption) ?_
                      rotate_left 1
                      · (intro wS hSw; (try dsimp only at hSw); go_simp; (all_goals with_reducible rfl))
                      simp only [Act.put, List.setIfInBounds_toArray, List.set_cons_zero, List.set_cons_succ]
                      refine wpAnyH_take (i := 6) (oi := { dst := some 40, op := Go.Op.indexAddr 37 (Go.Operand.tmp 37) (Go.Operand.tmp 39), type := 0, pos := "l06_tiling.go:55", after := #[{ on := 3, ground := Go.Ground.data }, { on := 5, ground := Go.Ground.data }, { on := 2, ground := Go.Ground.guard }], guard := some (2, true) }) (v := ?_) rfl (by kernel_rfl) (by kernel_rfl) (by kernel_rfl) (fun _ _ _ h => h) (Or.inl ⟨by rfl, ?_⟩) (by assumption) ?_
                      rotate_left 1
                      · (intro wS hSw; (try dsimp only at hSw); go_simp; (all_goals with_reducible rfl))
                      simp only [Act.put, List.setIfInBounds_toArray, List.set_cons_zero, List.set_cons_succ]
                      refine wpAnyH_take (i := 7) (oi := { dst := some 41, op := Go.Op.load 73 (Go.Operand.tmp 40), type := 73, pos := "l06_tiling.go:55", after := #[{ on := 6, ground := Go.Ground.data }, { on := 2, ground := Go.Ground.guard }], guard := some (2, true) }) (v := ?_) rfl (by kernel_rfl) (by kernel_rfl) (by kernel_rfl) (fun _ _ _ h => h) (Or.inl ⟨by rfl, ?_⟩) (by assumption) ?_
                      rotate_left 1
                      · (intro wS hSw; (try dsimp only at hSw); go_simp; (all_goals with_reducible rfl))
                      simp only [Act.put, List.setIfInBounds_toArray, List.set_cons_zero, List.set_cons_succ]
                      refine wpAnyH_take (i := 8) (oi := { dst := some 42, op := Go.Op.load 73 (Go.Operand.tmp 5), type := 73, pos := "l06_tiling.go:55", after := #[{ on := 2, ground := Go.Ground.guard }], guard := some (2, true) }) (v := ?_) rfl (by kernel_rfl) (by kernel_rfl) (by kernel_rfl) (fun _ _ _ h => h) (Or.inl ⟨by rfl, ?_⟩) (by assumption) ?_
                      rotate_left 1
                      · (intro wS hSw; (try dsimp only at hSw); go_simp; (all_goals with_reducible rfl))
                      simp only [Act.put, List.setIfInBounds_toArray, List.set_cons_zero, List.set_cons_succ]
                      refine wpAnyH_take (i := 9) (oi := { dst := some 43, op := Go.Op.binOp Go.BinOp.eql 73 (Go.Operand.tmp 41) (Go.Operand.tmp 42) 73, type := 4, pos := "l06_tiling.go:55", after := #[{ on := 7, ground := Go.Ground.data }, { on := 8, ground := Go.Ground.data }, { on := 2, ground := Go.Ground.guard }], guard := some (2, true) }) (v := ?_) rfl (by kernel_rfl) (by kernel_rfl) (by kernel_rfl) (fun _ _ _ h => h) (Or.inl ⟨by rfl, ?_⟩) (by assumption) ?_
                      rotate_left 1
                      · (intro wS hSw; (try dsimp only at hSw); go_simp; (all_goals with_reducible rfl))
                      simp only [Act.put, List.setIfInBounds_toArray, List.set_cons_zero, List.set_cons_succ]
                      refine wpAnyH_take (i := 10) (oi := { dst := some 44, op := Go.Op.pick (Go.Operand.tmp 36) (Go.Operand.tmp 43) (Go.Operand.const (Go.Value.bool false)), type := 4, pos := "l06_tiling.go:55", after := #[{ on := 2, ground := Go.Ground.data }, { on := 9, ground := Go.Ground.data }], guard := none }) (v := ?_) rfl (by kernel_rfl) (by kernel_rfl) (by kernel_rfl) (fun _ _ _ h => h) (Or.inl ⟨by rfl, ?_⟩) (by assumption) ?_
                      rotate_left 1
                      · (intro wS hSw; (try dsimp only at hSw); go_simp; (all_goals with_reducible rfl))
                      simp only [Act.put, List.setIfInBounds_toArray, List.set_cons_zero, List.set_cons_succ]
                      refine wpAnyH_done (by kernel_rfl) ?_ _
                      have own6 := own3.below ((Below.refl _ _).drew)
                      have bD6 := bD3.bl ((Below.refl _ _).drew)
                      have B6 := B3.drew
                      clear hHeld z0 z1 z2 zd_0 zd_1 zd_2 own3 bD3 B3
                      obtain ⟨W5, hW5⟩ : ∃ W5, W5 = W4.drew := ⟨_, rfl⟩
                      rw [← hW5] at own6 bD6 B6 ⊢
                      clear hW5 hwi hi0 hiI
                      first | rw [show ((i : Int) + 1) = (P : Int) by omega] | rw [show (((i + 1 : Nat)) : Int) = (P : Int) by omega]
                      have HPi := Lib.hid hPi; clear hPi
                      have Hins : Hid (sortGo (out.take P ++ (x, y, dn) :: out.drop P) (l.drop (k + 1)) = sortD l) := Lib.hid (by rw [← Hg2.out, Hst.out, if_neg HNo.out])
                      have Hsi : Hid (Sorted (out.take P ++ (x, y, dn) :: out.drop P)) := Lib.hid (by have := sorted_step Hso.out (x, y, dn); rw [Hst.out, if_neg HNo.out] at this; exact this)
                      have H8 : Hid ((out.length + 1) * 24 ≤ 140737488355328) := Lib.hid (by omega)
                      have HM : Hid (out.length + 1 ≤ maxLen) := Lib.hid (by unfold maxLen; omega)
                      have hneD := HneD.out
                      go_wp2_with (at_builtin; go_must (refine wpList_app1 (enc := eDom) rowDom lenDom oneDom B6 own6 ((0, 0, false) : Dm) H8.out HM.out rfl _ _ rfl rfl rfl ?_); intro v4 w4 own4 hb4 hg4 hd4; obtain ⟨A4, c4, rfl, hc4, hm4⟩ := own4.form)
                      have bD4 := (bD6.alloc _).grown hg4 (fun e => hneD e.symm)
                      obtain ⟨g4, hA4, hg40, hg41⟩ := own4.split (k := 0) (by simp)
                      subst hA4
                      have hneg : g4 ≠ gd := by
                        have hl5 := bD6.lt
                        rcases hd4 with q | q
                        · intro e; apply hneD; rw [← q, e]; rfl
                        · simp [Value.ownBlock] at q; omega
                      clear hd4
                      simp only [List.length_append, List.length_singleton] at hc4 own4 ⊢
                      have zd_0 := bD4.cell 0
                      have zd_1 := bD4.cell 1
                      have zd_2 := bD4.cell 2
                      simp only [List.getElem?_toArray, List.getElem?_cons_zero, List.getElem?_cons_succ] at zd_0 zd_1 zd_2
                      have hP4 : ¬ c4 = P := by omega
                      have hwP : IntKind.i64.wrap (((P : Nat) : Int) + 1) = ((P : Nat) : Int) + 1 := IntWalk.i64_in _ (by omega)
                      have hP0 : (0 : Int) ≤ ((P : Nat) : Int) + 1 := by omega
                      have hP1 : ((P : Nat) : Int) + 1 ≤ (out.length : Int) + 1 := by omega
                      have hPn : (((P : Nat) : Int) + 1).toNat = P + 1 := by omega
                      have hPc : P + 1 ≤ c4 := by omega
                      have hPi : ((P : Nat) : Int) ≤ (out.length : Int) + 1 := by omega
                      have hPl : P ≤ out.length := by omega
                      have own4d : OwnL 73 3 eDom w.heap.size w4.drew (.slice (some ⟨g4, 0, none⟩) (out.length + 1) c4) (out ++ [(0, 0, false)]) := own4.below (Below.refl _ _).drew
                      have bD4d : Blk w4.drew gd 73 #[.int .i64 x, .int .i64 y, .bool dn] := bD4
                      have B4d := hb4.drew
                      clear own4 bD4 hb4 zd_0 zd_1 zd_2
                      by_cases hcap : c4 = P + 1
                      · go_wp2_with fail
                        refine wp_region_held_drew (S := (fun _ => True)) (by kernel_rfl) ?_ (fun hHeld => ?_)
                        · (try dsimp only); (try go_keep)
                        refine wpAnyH_take (i := 0) (oi := { dst := some 49, op := Go.Op.move (Go.Operand.tmp 3), type := 37, pos := "l06_tiling.go:59", after := #[], guard := none }) (v := ?_) rfl (by kernel_rfl) (by kernel_rfl) (by kernel_rfl) (fun _ _ _ h => h) (Or.inl ⟨by rfl, ?_⟩) (by assumption) ?_
                        rotate_left 1
                        · (intro wS hSw; (try dsimp only at hSw); go_simp; (all_goals with_reducible rfl))
                        simp only [Act.put, List.setIfInBounds_toArray, List.set_cons_zero, List.set_cons_succ]
                        refine wpAnyH_take (i := 1) (oi := { dst := some 50, op := Go.Op.move (Go.Operand.tmp 6), type := 3, pos := "l06_tiling.go:59", after := #[], guard := none }) (v := ?_) rfl (by kernel_rfl) (by kernel_rfl) (by kernel_rfl) (fun _ _ _ h => h) (Or.inl ⟨by rfl, ?_⟩) (by assumption) ?_
                        rotate_left 1
                        · (intro wS hSw; (try dsimp only at hSw); go_simp; (all_goals with_reducible rfl))
                        simp only [Act.put, List.setIfInBounds_toArray, List.set_cons_zero, List.set_cons_succ]
                        refine wpAnyH_take (i := 2) (oi := { dst := some 51, op := Go.Op.binOp Go.BinOp.add 3 (Go.Operand.tmp 50) (Go.Operand.const (Go.Value.int Go.IntKind.i64 1)) 3, type := 3, pos := "l06_tiling.go:59", after := #[{ on := 1, ground := Go.Ground.data }], guard := none }) (v := ?_) rfl (by kernel_rfl) (by kernel_rfl) (by kernel_rfl) (fun _ _ _ h => h) (Or.inl ⟨by rfl, ?_⟩) (by assumption) ?_
                        rotate_left 1
                        · (intro wS hSw; (try dsimp only at hSw); go_simp; (all_goals with_reducible rfl))
                        simp only [Act.put, List.setIfInBounds_toArray, List.set_cons_zero, List.set_cons_succ]
                        refine wpAnyH_take (i := 3) (oi := { dst := some 52, op := Go.Op.slice 37 (Go.Operand.tmp 49) (some (Go.Operand.tmp 51)) none none, type := 37, pos := "l06_tiling.go:59", after := #[{ on := 0, ground := Go.Ground.data }, { on := 2, ground := Go.Ground.data }], guard := none }) (v := ?_) rfl (by kernel_rfl) (by kernel_rfl) (by kernel_rfl) (fun _ _ _ h => h) (Or.inl ⟨by rfl, ?_⟩) (by assumption) ?_
                        rotate_left 1
                        · (intro wS hSw; (try dsimp only at hSw); go_simp; (all_goals with_reducible rfl))
                        simp only [Act.put, List.setIfInBounds_toArray, List.set_cons_zero, List.set_cons_succ]
                        refine wpAnyH_take (i := 4) (oi := { dst := some 53, op := Go.Op.move (Go.Operand.tmp 3), type := 37, pos := "l06_tiling.go:59", after := #[], guard := none }) (v := ?_) rfl (by kernel_rfl) (by kernel_rfl) (by kernel_rfl) (fun _ _ _ h => h) (Or.inl ⟨by rfl, ?_⟩) (by assumption) ?_
                        rotate_left 1
                        · (intro wS hSw; (try dsimp only at hSw); go_simp; (all_goals with_reducible rfl))
                        simp only [Act.put, List.setIfInBounds_toArray, List.set_cons_zero, List.set_cons_succ]
                        refine wpAnyH_take (i := 5) (oi := { dst := some 54, op := Go.Op.move (Go.Operand.tmp 6), type := 3, pos := "l06_tiling.go:59", after := #[], guard := none }) (v := ?_) rfl (by kernel_rfl) (by kernel_rfl) (by kernel_rfl) (fun _ _ _ h => h) (Or.inl ⟨by rfl, ?_⟩) (by assumption) ?_
                        rotate_left 1
                        · (intro wS hSw; (try dsimp only at hSw); go_simp; (all_goals with_reducible rfl))
                        simp only [Act.put, List.setIfInBounds_toArray, List.set_cons_zero, List.set_cons_succ]
                        refine wpAnyH_take (i := 6) (oi := { dst := some 55, op := Go.Op.slice 37 (Go.Operand.tmp 53) (some (Go.Operand.tmp 54)) none none, type := 37, pos := "l06_tiling.go:59", after := #[{ on := 4, ground := Go.Ground.data }, { on := 5, ground := Go.Ground.data }], guard := none }) (v := ?_) rfl (by kernel_rfl) (by kernel_rfl) (by kernel_rfl) (fun _ _ _ h => h) (Or.inl ⟨by rfl, ?_⟩) (by assumption) ?_
                        rotate_left 1
                        · (intro wS hSw; (try dsimp only at hSw); go_simp; (all_goals with_reducible rfl))
                        simp only [Act.put, List.setIfInBounds_toArray, List.set_cons_zero, List.set_cons_succ]
                        refine wpAnyH_ready (rs := [7]) (by kernel_rfl) (by simp) ?_
                        refine AllReadyH.cons (o := { dst := some 56, op := Go.Op.call { callee := Go.Callee.builtin Go.Builtin.copy, args := #[Go.Operand.tmp 52, Go.Operand.tmp 55], argTypes := #[37, 37] }, type := 3, pos := "l06_tiling.go:59", after := #[{ on := 3, ground := Go.Ground.data }, { on := 6, ground := Go.Ground.data }], guard := none }) rfl (fun K hK => ?_) AllReadyH.nil
                        (refine step_shift rowDom lenDom oneDom own4d P hPl rfl _ _ rfl _ _ _ _ _ _ rfl rfl (by omega) (by omega) (fun h => by exfalso; omega) (fun h => by simp) ?_; intro w5 own5 hg5)
                        refine hK.out _ _ ?_ (fun hHeld => ?_)
                        · (try dsimp only); (try go_keep)
                        clear hK K
                        (try simp only [Act.put, List.setIfInBounds_toArray, List.set_cons_zero, List.set_cons_succ])
                        refine wpAnyH_done (by kernel_rfl) ?_ _
                        clear hHeld
                        have bD5 := bD4d.grown hg5 (by simp; omega)
                        have B5 := B4d.grown hg5 B4d.size (fun k hk => by injection hk with hk; omega)
                        have hl5 : ((out ++ [((0, 0, false) : Dm)]).take (P + 1) ++ out.drop P).length = out.length + 1 := by simp; omega
                        have hset := shift_set out ((0, 0, false) : Dm) (x, y, dn) hPl
                        obtain ⟨NW, hNW⟩ : ∃ NW, NW = out.take P ++ (x, y, dn) :: out.drop P := ⟨_, rfl⟩
                        have hNl : NW.length = out.length + 1 := by rw [hNW]; simp; omega
                        rw [← hNW] at Hins Hsi hset
                        obtain ⟨L5, hL5⟩ : ∃ L5, L5 = (out ++ [((0, 0, false) : Dm)]).take (P + 1) ++ out.drop P := ⟨_, rfl⟩
                        rw [← hL5] at own5 hset hl5
                        have hk5 : P < L5.length := by omega
                        obtain ⟨u0, u1, u2, s0, s1, s2⟩ := own5.slot3 lenDom (k := P) hk5
                        have hsf := own5.free
                        have Hset := Lib.hid hset; have HNl := Lib.hid hNl; have Hk5 := Lib.hid hk5; clear hset hNl hNW hL5 hl5 own4d bD4d B4d hg5 hk5
                        have hpn : ((P : Nat) : Int) < (out.length : Int) + 1 := by omega
                        have zd_0 := bD5.cell 0
                        have zd_1 := bD5.cell 1
                        have zd_2 := bD5.cell 2
                        simp only [List.getElem?_toArray, List.getElem?_cons_zero, List.getElem?_cons_succ] at zd_0 zd_1 zd_2
                        go_wp2
                        go_roundw
                        case rel => exact ⟨k + 1, NW, _, c4, by omega, by go_num, by rw [HNl.out], Hins, Hsi, by rw [HNl.out, ← Hset.out]; exact own5.store3 lenDom Hk5.out rfl, ((B5.st _ _ (by first | exact hg40 | simp)).st _ _ (by first | exact hg40 | simp)).st _ _ (by first | exact hg40 | simp)⟩
                        case measure => simp [intOf]; omega
                      · go_wp2_with fail
                        refine wp_region_held_drew (S := (fun _ => True)) (by kernel_rfl) ?_ (fun hHeld => ?_)
                        · (try dsimp only); (try go_keep)
                        refine wpAnyH_take (i := 0) (oi := { dst := some 49, op := Go.Op.move (Go.Operand.tmp 3), type := 37, pos := "l06_tiling.go:59", after := #[], guard := none }) (v := ?_) rfl (by kernel_rfl) (by kernel_rfl) (by kernel_rfl) (fun _ _ _ h => h) (Or.inl ⟨by rfl, ?_⟩) (by assumption) ?_
                        rotate_left 1
                        · (intro wS hSw; (try dsimp only at hSw); go_simp; (all_goals with_reducible rfl))
                        simp only [Act.put, List.setIfInBounds_toArray, List.set_cons_zero, List.set_cons_succ]
                        refine wpAnyH_take (i := 1) (oi := { dst := some 50, op := Go.Op.move (Go.Operand.tmp 6), type := 3, pos := "l06_tiling.go:59", after := #[], guard := none }) (v := ?_) rfl (by kernel_rfl) (by kernel_rfl) (by kernel_rfl) (fun _ _ _ h => h) (Or.inl ⟨by rfl, ?_⟩) (by assumption) ?_
                        rotate_left 1
                        · (intro wS hSw; (try dsimp only at hSw); go_simp; (all_goals with_reducible rfl))
                        simp only [Act.put, List.setIfInBounds_toArray, List.set_cons_zero, List.set_cons_succ]
                        refine wpAnyH_take (i := 2) (oi := { dst := some 51, op := Go.Op.binOp Go.BinOp.add 3 (Go.Operand.tmp 50) (Go.Operand.const (Go.Value.int Go.IntKind.i64 1)) 3, type := 3, pos := "l06_tiling.go:59", after := #[{ on := 1, ground := Go.Ground.data }], guard := none }) (v := ?_) rfl (by kernel_rfl) (by kernel_rfl) (by kernel_rfl) (fun _ _ _ h => h) (Or.inl ⟨by rfl, ?_⟩) (by assumption) ?_
                        rotate_left 1
                        · (intro wS hSw; (try dsimp only at hSw); go_simp; (all_goals with_reducible rfl))
                        simp only [Act.put, List.setIfInBounds_toArray, List.set_cons_zero, List.set_cons_succ]
                        refine wpAnyH_take (i := 3) (oi := { dst := some 52, op := Go.Op.slice 37 (Go.Operand.tmp 49) (some (Go.Operand.tmp 51)) none none, type := 37, pos := "l06_tiling.go:59", after := #[{ on := 0, ground := Go.Ground.data }, { on := 2, ground := Go.Ground.data }], guard := none }) (v := ?_) rfl (by kernel_rfl) (by kernel_rfl) (by kernel_rfl) (fun _ _ _ h => h) (Or.inl ⟨by rfl, ?_⟩) (by assumption) ?_
                        rotate_left 1
                        · (intro wS hSw; (try dsimp only at hSw); go_simp; (all_goals with_reducible rfl))
                        simp only [Act.put, List.setIfInBounds_toArray, List.set_cons_zero, List.set_cons_succ]
                        refine wpAnyH_take (i := 4) (oi := { dst := some 53, op := Go.Op.move (Go.Operand.tmp 3), type := 37, pos := "l06_tiling.go:59", after := #[], guard := none }) (v := ?_) rfl (by kernel_rfl) (by kernel_rfl) (by kernel_rfl) (fun _ _ _ h => h) (Or.inl ⟨by rfl, ?_⟩) (by assumption) ?_
                        rotate_left 1
                        · (intro wS hSw; (try dsimp only at hSw); go_simp; (all_goals with_reducible rfl))
                        simp only [Act.put, List.setIfInBounds_toArray, List.set_cons_zero, List.set_cons_succ]
                        refine wpAnyH_take (i := 5) (oi := { dst := some 54, op := Go.Op.move (Go.Operand.tmp 6), type := 3, pos := "l06_tiling.go:59", after := #[], guard := none }) (v := ?_) rfl (by kernel_rfl) (by kernel_rfl) (by kernel_rfl) (fun _ _ _ h => h) (Or.inl ⟨by rfl, ?_⟩) (by assumption) ?_
                        rotate_left 1
                        · (intro wS hSw; (try dsimp only at hSw); go_simp; (all_goals with_reducible rfl))
                        simp only [Act.put, List.setIfInBounds_toArray, List.set_cons_zero, List.set_cons_succ]
                        refine wpAnyH_take (i := 6) (oi := { dst := some 55, op := Go.Op.slice 37 (Go.Operand.tmp 53) (some (Go.Operand.tmp 54)) none none, type := 37, pos := "l06_tiling.go:59", after := #[{ on := 4, ground := Go.Ground.data }, { on := 5, ground := Go.Ground.data }], guard := none }) (v := ?_) rfl (by kernel_rfl) (by kernel_rfl) (by kernel_rfl) (fun _ _ _ h => h) (Or.inl ⟨by rfl, ?_⟩) (by assumption) ?_
                        rotate_left 1
                        · (intro wS hSw; (try dsimp only at hSw); go_simp; (all_goals with_reducible rfl))
                        simp only [Act.put, List.setIfInBounds_toArray, List.set_cons_zero, List.set_cons_succ]
                        refine wpAnyH_ready (rs := [7]) (by kernel_rfl) (by simp) ?_
                        refine AllReadyH.cons (o := { dst := some 56, op := Go.Op.call { callee := Go.Callee.builtin Go.Builtin.copy, args := #[Go.Operand.tmp 52, Go.Operand.tmp 55], argTypes := #[37, 37] }, type := 3, pos := "l06_tiling.go:59", after := #[{ on := 3, ground := Go.Ground.data }, { on := 6, ground := Go.Ground.data }], guard := none }) rfl (fun K hK => ?_) AllReadyH.nil
                        (refine step_shift rowDom lenDom oneDom own4d P hPl rfl _ _ rfl _ _ _ _ _ _ rfl rfl (by omega) (by omega) (fun h => by simp) (fun h => by simp) ?_; intro w5 own5 hg5)
                        refine hK.out _ _ ?_ (fun hHeld => ?_)
                        · (try dsimp only); (try go_keep)
                        clear hK K
                        (try simp only [Act.put, List.setIfInBounds_toArray, List.set_cons_zero, List.set_cons_succ])
                        refine wpAnyH_done (by kernel_rfl) ?_ _
                        clear hHeld
                        have bD5 := bD4d.grown hg5 (by simp; omega)
                        have B5 := B4d.grown hg5 B4d.size (fun k hk => by injection hk with hk; omega)
                        have hl5 : ((out ++ [((0, 0, false) : Dm)]).take (P + 1) ++ out.drop P).length = out.length + 1 := by simp; omega
                        have hset := shift_set out ((0, 0, false) : Dm) (x, y, dn) hPl
                        obtain ⟨NW, hNW⟩ : ∃ NW, NW = out.take P ++ (x, y, dn) :: out.drop P := ⟨_, rfl⟩
                        have hNl : NW.length = out.length + 1 := by rw [hNW]; simp; omega
                        rw [← hNW] at Hins Hsi hset
                        obtain ⟨L5, hL5⟩ : ∃ L5, L5 = (out ++ [((0, 0, false) : Dm)]).take (P + 1) ++ out.drop P := ⟨_, rfl⟩
                        rw [← hL5] at own5 hset hl5
                        have hk5 : P < L5.length := by omega
                        obtain ⟨u0, u1, u2, s0, s1, s2⟩ := own5.slot3 lenDom (k := P) hk5
                        have hsf := own5.free
                        have Hset := Lib.hid hset; have HNl := Lib.hid hNl; have Hk5 := Lib.hid hk5; clear hset hNl hNW hL5 hl5 own4d bD4d B4d hg5 hk5
                        have hpn : ((P : Nat) : Int) < (out.length : Int) + 1 := by omega
                        have zd_0 := bD5.cell 0
                        have zd_1 := bD5.cell 1
                        have zd_2 := bD5.cell 2
                        simp only [List.getElem?_toArray, List.getElem?_cons_zero, List.getElem?_cons_succ] at zd_0 zd_1 zd_2
                        go_wp2
                        go_roundw
                        case rel => exact ⟨k + 1, NW, _, c4, by omega, by go_num, by rw [HNl.out], Hins, Hsi, by rw [HNl.out, ← Hset.out]; exact own5.store3 lenDom Hk5.out rfl, ((B5.st _ _ (by first | exact hg40 | simp)).st _ _ (by first | exact hg40 | simp)).st _ _ (by first | exact hg40 | simp)⟩
                        case measure => simp [intOf]; omega
                  · have Hne := Lib.hid hne; clear hne
                    go_wp2_with fail
                    refine wp_region_held_drew (S := (fun w' => w'.cell? ⟨g, i * 3, none⟩ = some (.int .i64 ex) ∧ w'.cell? ⟨g, i * 3 + 1, none⟩ = some (.int .i64 ey) ∧ w'.cell? ⟨g, i * 3 + 2, none⟩ = some (.bool ed) ∧ w'.cell? ⟨gd, 0, none⟩ = some (.int .i64 x) ∧ w'.cell? ⟨gd, 1, none⟩ = some (.int .i64 y) ∧ w'.cell? ⟨gd, 2, none⟩ = some (.bool dn))) (by kernel_rfl) ?_ (fun hHeld => ?_)
                    · (try dsimp only); (try go_keep)
                    refine wpAnyH_take (i := 0) (oi := { dst := some 34, op := Go.Op.move (Go.Operand.tmp 6), type := 3, pos := "l06_tiling.go:55", after := #[], guard := none }) (v := ?_) rfl (by kernel_rfl) (by kernel_rfl) (by kernel_rfl) (fun _ _ _ h => h) (Or.inl ⟨by rfl, ?_⟩) (by assumption) ?_
                    rotate_left 1
                    · (intro wS hSw; (try dsimp only at hSw); go_simp; (all_goals with_reducible rfl))
                    simp only [Act.put, List.setIfInBounds_toArray, List.set_cons_zero, List.set_cons_succ]
                    refine wpAnyH_take (i := 1) (oi := { dst := some 35, op := Go.Op.binOp Go.BinOp.gtr 3 (Go.Operand.tmp 34) (Go.Operand.const (Go.Value.int Go.IntKind.i64 0)) 3, type := 4, pos := "l06_tiling.go:55", after := #[{ on := 0, ground := Go.Ground.data }], guard := none }) (v := ?_) rfl (by kernel_rfl) (by kernel_rfl) (by kernel_rfl) (fun _ _ _ h => h) (Or.inl ⟨by rfl, ?_⟩) (by assumption) ?_
                    rotate_left 1
                    · (intro wS hSw; (try dsimp only at hSw); go_simp; (all_goals with_reducible rfl))
                    simp only [Act.put, List.setIfInBounds_toArray, List.set_cons_zero, List.set_cons_succ]
                    refine wpAnyH_take (i := 2) (oi := { dst := some 36, op := Go.Op.move (Go.Operand.tmp 35), type := 4, pos := "l06_tiling.go:55", after := #[{ on := 1, ground := Go.Ground.data }], guard := none }) (v := ?_) rfl (by kernel_rfl) (by kernel_rfl) (by kernel_rfl) (fun _ _ _ h => h) (Or.inl ⟨by rfl, ?_⟩) (by assumption) ?_
                    rotate_left 1
                    · (intro wS hSw; (try dsimp only at hSw); go_simp; (all_goals with_reducible rfl))
                    simp only [Act.put, List.setIfInBounds_toArray, List.set_cons_zero, List.set_cons_succ]
                    refine wpAnyH_take (i := 3) (oi := { dst := some 37, op := Go.Op.move (Go.Operand.tmp 3), type := 37, pos := "l06_tiling.go:55", after := #[{ on := 2, ground := Go.Ground.guard }], guard := some (2, true) }) (v := ?_) rfl (by kernel_rfl) (by kernel_rfl) (by kernel_rfl) (fun _ _ _ h => h) (Or.inl ⟨by rfl, ?_⟩) (by assumption) ?_
                    rotate_left 1
                    · (intro wS hSw; (try dsimp only at hSw); go_simp; (all_goals with_reducible rfl))
                    simp only [Act.put, List.setIfInBounds_toArray, List.set_cons_zero, List.set_cons_succ]
                    refine wpAnyH_take (i := 4) (oi := { dst := some 38, op := Go.Op.move (Go.Operand.tmp 6), type := 3, pos := "l06_tiling.go:55", after := #[{ on := 2, ground := Go.Ground.guard }], guard := some (2, true) }) (v := ?_) rfl (by kernel_rfl) (by kernel_rfl) (by kernel_rfl) (fun _ _ _ h => h) (Or.inl ⟨by rfl, ?_⟩) (by assumption) ?_
                    rotate_left 1
                    · (intro wS hSw; (try dsimp only at hSw); go_simp; (all_goals with_reducible rfl))
                    simp only [Act.put, List.setIfInBounds_toArray, List.set_cons_zero, List.set_cons_succ]
                    refine wpAnyH_take (i := 5) (oi := { dst := some 39, op := Go.Op.binOp Go.BinOp.sub 3 (Go.Operand.tmp 38) (Go.Operand.const (Go.Value.int Go.IntKind.i64 1)) 3, type := 3, pos := "l06_tiling.go:55", after := #[{ on := 4, ground := Go.Ground.data }, { on := 2, ground := Go.Ground.guard }], guard := some (2, true) }) (v := ?_) rfl (by kernel_rfl) (by kernel_rfl) (by kernel_rfl) (fun _ _ _ h => h) (Or.inl ⟨by rfl, ?_⟩) (by assumption) ?_
                    rotate_left 1
                    · (intro wS hSw; (try dsimp only at hSw); go_simp; (all_goals with_reducible rfl))
                    simp only [Act.put, List.setIfInBounds_toArray, List.set_cons_zero, List.set_cons_succ]
                    refine wpAnyH_take (i := 6) (oi := { dst := some 40, op := Go.Op.indexAddr 37 (Go.Operand.tmp 37) (Go.Operand.tmp 39), type := 0, pos := "l06_tiling.go:55", after := #[{ on := 3, ground := Go.Ground.data }, { on := 5, ground := Go.Ground.data }, { on := 2, ground := Go.Ground.guard }], guard := some (2, true) }) (v := ?_) rfl (by kernel_rfl) (by kernel_rfl) (by kernel_rfl) (fun _ _ _ h => h) (Or.inl ⟨by rfl, ?_⟩) (by assumption) ?_
                    rotate_left 1
                    · (intro wS hSw; (try dsimp only at hSw); go_simp; (all_goals with_reducible rfl))
                    simp only [Act.put, List.setIfInBounds_toArray, List.set_cons_zero, List.set_cons_succ]
                    refine wpAnyH_take (i := 7) (oi := { dst := some 41, op := Go.Op.load 73 (Go.Operand.tmp 40), type := 73, pos := "l06_tiling.go:55", after := #[{ on := 6, ground := Go.Ground.data }, { on := 2, ground := Go.Ground.guard }], guard := some (2, true) }) (v := ?_) rfl (by kernel_rfl) (by kernel_rfl) (by kernel_rfl) (fun _ _ _ h => h) (Or.inl ⟨by rfl, ?_⟩) (by assumption) ?_
                    rotate_left 1
                    · (intro wS hSw; (try dsimp only at hSw); go_simp; (all_goals with_reducible rfl))
                    simp only [Act.put, List.setIfInBounds_toArray, List.set_cons_zero, List.set_cons_succ]
                    refine wpAnyH_take (i := 8) (oi := { dst := some 42, op := Go.Op.load 73 (Go.Operand.tmp 5), type := 73, pos := "l06_tiling.go:55", after := #[{ on := 2, ground := Go.Ground.guard }], guard := some (2, true) }) (v := ?_) rfl (by kernel_rfl) (by kernel_rfl) (by kernel_rfl) (fun _ _ _ h => h) (Or.inl ⟨by rfl, ?_⟩) (by assumption) ?_
                    rotate_left 1
                    · (intro wS hSw; (try dsimp only at hSw); go_simp; (all_goals with_reducible rfl))
                    simp only [Act.put, List.setIfInBounds_toArray, List.set_cons_zero, List.set_cons_succ]
                    refine wpAnyH_take (i := 9) (oi := { dst := some 43, op := Go.Op.binOp Go.BinOp.eql 73 (Go.Operand.tmp 41) (Go.Operand.tmp 42) 73, type := 4, pos := "l06_tiling.go:55", after := #[{ on := 7, ground := Go.Ground.data }, { on := 8, ground := Go.Ground.data }, { on := 2, ground := Go.Ground.guard }], guard := some (2, true) }) (v := ?_) rfl (by kernel_rfl) (by kernel_rfl) (by kernel_rfl) (fun _ _ _ h => h) (Or.inl ⟨by rfl, ?_⟩) (by assumption) ?_
                    rotate_left 1
                    · (intro wS hSw; (try dsimp only at hSw); go_simp; (all_goals with_reducible rfl))
                    simp only [Act.put, List.setIfInBounds_toArray, List.set_cons_zero, List.set_cons_succ]
                    refine wpAnyH_take (i := 10) (oi := { dst := some 44, op := Go.Op.pick (Go.Operand.tmp 36) (Go.Operand.tmp 43) (Go.Operand.const (Go.Value.bool false)), type := 4, pos := "l06_tiling.go:55", after := #[{ on := 2, ground := Go.Ground.data }, { on := 9, ground := Go.Ground.data }], guard := none }) (v := ?_) rfl (by kernel_rfl) (by kernel_rfl) (by kernel_rfl) (fun _ _ _ h => h) (Or.inl ⟨by rfl, ?_⟩) (by assumption) ?_
                    rotate_left 1
                    · (intro wS hSw; (try dsimp only at hSw); go_simp; (all_goals with_reducible rfl))
                    simp only [Act.put, List.setIfInBounds_toArray, List.set_cons_zero, List.set_cons_succ]
                    refine wpAnyH_done (by kernel_rfl) ?_ _
                    have own6 := own3.below ((Below.refl _ _).drew)
                    have bD6 := bD3.bl ((Below.refl _ _).drew)
                    have B6 := B3.drew
                    clear hHeld z0 z1 z2 zd_0 zd_1 zd_2 own3 bD3 B3
                    obtain ⟨W5, hW5⟩ : ∃ W5, W5 = W4.drew := ⟨_, rfl⟩
                    rw [← hW5] at own6 bD6 B6 ⊢
                    clear hW5 hwi hi0 hiI
                    first | rw [show ((i : Int) + 1) = (P : Int) by omega] | rw [show (((i + 1 : Nat)) : Int) = (P : Int) by omega]
                    have HPi := Lib.hid hPi; clear hPi
                    have Hins : Hid (sortGo (out.take P ++ (x, y, dn) :: out.drop P) (l.drop (k + 1)) = sortD l) := Lib.hid (by rw [← Hg2.out, Hst.out, if_neg HNo.out])
                    have Hsi : Hid (Sorted (out.take P ++ (x, y, dn) :: out.drop P)) := Lib.hid (by have := sorted_step Hso.out (x, y, dn); rw [Hst.out, if_neg HNo.out] at this; exact this)
                    have H8 : Hid ((out.length + 1) * 24 ≤ 140737488355328) := Lib.hid (by omega)
                    have HM : Hid (out.length + 1 ≤ maxLen) := Lib.hid (by unfold maxLen; omega)
                    have hneD := HneD.out
                    go_wp2_with (at_builtin; go_must (refine wpList_app1 (enc := eDom) rowDom lenDom oneDom B6 own6 ((0, 0, false) : Dm) H8.out HM.out rfl _ _ rfl rfl rfl ?_); intro v4 w4 own4 hb4 hg4 hd4; obtain ⟨A4, c4, rfl, hc4, hm4⟩ := own4.form)
                    have bD4 := (bD6.alloc _).grown hg4 (fun e => hneD e.symm)
                    obtain ⟨g4, hA4, hg40, hg41⟩ := own4.split (k := 0) (by simp)
                    subst hA4
                    have hneg : g4 ≠ gd := by
                      have hl5 := bD6.lt
                      rcases hd4 with q | q
                      · intro e; apply hneD; rw [← q, e]; rfl
                      · simp [Value.ownBlock] at q; omega
                    clear hd4
                    simp only [List.length_append, List.length_singleton] at hc4 own4 ⊢
                    have zd_0 := bD4.cell 0
                    have zd_1 := bD4.cell 1
                    have zd_2 := bD4.cell 2
                    simp only [List.getElem?_toArray, List.getElem?_cons_zero, List.getElem?_cons_succ] at zd_0 zd_1 zd_2
                    have hP4 : ¬ c4 = P := by omega
                    have hwP : IntKind.i64.wrap (((P : Nat) : Int) + 1) = ((P : Nat) : Int) + 1 := IntWalk.i64_in _ (by omega)
                    have hP0 : (0 : Int) ≤ ((P : Nat) : Int) + 1 := by omega
                    have hP1 : ((P : Nat) : Int) + 1 ≤ (out.length : Int) + 1 := by omega
                    have hPn : (((P : Nat) : Int) + 1).toNat = P + 1 := by omega
                    have hPc : P + 1 ≤ c4 := by omega
                    have hPi : ((P : Nat) : Int) ≤ (out.length : Int) + 1 := by omega
                    have hPl : P ≤ out.length := by omega
                    have own4d : OwnL 73 3 eDom w.heap.size w4.drew (.slice (some ⟨g4, 0, none⟩) (out.length + 1) c4) (out ++ [(0, 0, false)]) := own4.below (Below.refl _ _).drew
                    have bD4d : Blk w4.drew gd 73 #[.int .i64 x, .int .i64 y, .bool dn] := bD4
                    have B4d := hb4.drew
                    clear own4 bD4 hb4 zd_0 zd_1 zd_2
                    by_cases hcap : c4 = P + 1
                    · go_wp2_with fail
                      refine wp_region_held_drew (S := (fun _ => True)) (by kernel_rfl) ?_ (fun hHeld => ?_)
                      · (try dsimp only); (try go_keep)
                      refine wpAnyH_take (i := 0) (oi := { dst := some 49, op := Go.Op.move (Go.Operand.tmp 3), type := 37, pos := "l06_tiling.go:59", after := #[], guard := none }) (v := ?_) rfl (by kernel_rfl) (by kernel_rfl) (by kernel_rfl) (fun _ _ _ h => h) (Or.inl ⟨by rfl, ?_⟩) (by assumption) ?_
                      rotate_left 1
                      · (intro wS hSw; (try dsimp only at hSw); go_simp; (all_goals with_reducible rfl))
                      simp only [Act.put, List.setIfInBounds_toArray, List.set_cons_zero, List.set_cons_succ]
                      refine wpAnyH_take (i := 1) (oi := { dst := some 50, op := Go.Op.move (Go.Operand.tmp 6), type := 3, pos := "l06_tiling.go:59", after := #[], guard := none }) (v := ?_) rfl (by kernel_rfl) (by kernel_rfl) (by kernel_rfl) (fun _ _ _ h => h) (Or.inl ⟨by rfl, ?_⟩) (by assumption) ?_
                      rotate_left 1
                      · (intro wS hSw; (try dsimp only at hSw); go_simp; (all_goals with_reducible rfl))
                      simp only [Act.put, List.setIfInBounds_toArray, List.set_cons_zero, List.set_cons_succ]
                      refine wpAnyH_take (i := 2) (oi := { dst := some 51, op := Go.Op.binOp Go.BinOp.add 3 (Go.Operand.tmp 50) (Go.Operand.const (Go.Value.int Go.IntKind.i64 1)) 3, type := 3, pos := "l06_tiling.go:59", after := #[{ on := 1, ground := Go.Ground.data }], guard := none }) (v := ?_) rfl (by kernel_rfl) (by kernel_rfl) (by kernel_rfl) (fun _ _ _ h => h) (Or.inl ⟨by rfl, ?_⟩) (by assumption) ?_
                      rotate_left 1
                      · (intro wS hSw; (try dsimp only at hSw); go_simp; (all_goals with_reducible rfl))
                      simp only [Act.put, List.setIfInBounds_toArray, List.set_cons_zero, List.set_cons_succ]
                      refine wpAnyH_take (i := 3) (oi := { dst := some 52, op := Go.Op.slice 37 (Go.Operand.tmp 49) (some (Go.Operand.tmp 51)) none none, type := 37, pos := "l06_tiling.go:59", after := #[{ on := 0, ground := Go.Ground.data }, { on := 2, ground := Go.Ground.data }], guard := none }) (v := ?_) rfl (by kernel_rfl) (by kernel_rfl) (by kernel_rfl) (fun _ _ _ h => h) (Or.inl ⟨by rfl, ?_⟩) (by assumption) ?_
                      rotate_left 1
                      · (intro wS hSw; (try dsimp only at hSw); go_simp; (all_goals with_reducible rfl))
                      simp only [Act.put, List.setIfInBounds_toArray, List.set_cons_zero, List.set_cons_succ]
                      refine wpAnyH_take (i := 4) (oi := { dst := some 53, op := Go.Op.move (Go.Operand.tmp 3), type := 37, pos := "l06_tiling.go:59", after := #[], guard := none }) (v := ?_) rfl (by kernel_rfl) (by kernel_rfl) (by kernel_rfl) (fun _ _ _ h => h) (Or.inl ⟨by rfl, ?_⟩) (by assumption) ?_
                      rotate_left 1
                      · (intro wS hSw; (try dsimp only at hSw); go_simp; (all_goals with_reducible rfl))
                      simp only [Act.put, List.setIfInBounds_toArray, List.set_cons_zero, List.set_cons_succ]
                      refine wpAnyH_take (i := 5) (oi := { dst := some 54, op := Go.Op.move (Go.Operand.tmp 6), type := 3, pos := "l06_tiling.go:59", after := #[], guard := none }) (v := ?_) rfl (by kernel_rfl) (by kernel_rfl) (by kernel_rfl) (fun _ _ _ h => h) (Or.inl ⟨by rfl, ?_⟩) (by assumption) ?_
                      rotate_left 1
                      · (intro wS hSw; (try dsimp only at hSw); go_simp; (all_goals with_reducible rfl))
                      simp only [Act.put, List.setIfInBounds_toArray, List.set_cons_zero, List.set_cons_succ]
                      refine wpAnyH_take (i := 6) (oi := { dst := some 55, op := Go.Op.slice 37 (Go.Operand.tmp 53) (some (Go.Operand.tmp 54)) none none, type := 37, pos := "l06_tiling.go:59", after := #[{ on := 4, ground := Go.Ground.data }, { on := 5, ground := Go.Ground.data }], guard := none }) (v := ?_) rfl (by kernel_rfl) (by kernel_rfl) (by kernel_rfl) (fun _ _ _ h => h) (Or.inl ⟨by rfl, ?_⟩) (by assumption) ?_
                      rotate_left 1
                      · (intro wS hSw; (try dsimp only at hSw); go_simp; (all_goals with_reducible rfl))
                      simp only [Act.put, List.setIfInBounds_toArray, List.set_cons_zero, List.set_cons_succ]
                      refine wpAnyH_ready (rs := [7]) (by kernel_rfl) (by simp) ?_
                      refine AllReadyH.cons (o := { dst := some 56, op := Go.Op.call { callee := Go.Callee.builtin Go.Builtin.copy, args := #[Go.Operand.tmp 52, Go.Operand.tmp 55], argTypes := #[37, 37] }, type := 3, pos := "l06_tiling.go:59", after := #[{ on := 3, ground := Go.Ground.data }, { on := 6, ground := Go.Ground.data }], guard := none }) rfl (fun K hK => ?_) AllReadyH.nil
                      (refine step_shift rowDom lenDom oneDom own4d P hPl rfl _ _ rfl _ _ _ _ _ _ rfl rfl (by omega) (by omega) (fun h => by exfalso; omega) (fun h => by simp) ?_; intro w5 own5 hg5)
                      refine hK.out _ _ ?_ (fun hHeld => ?_)
                      · (try dsimp only); (try go_keep)
                      clear hK K
                      (try simp only [Act.put, List.setIfInBounds_toArray, List.set_cons_zero, List.set_cons_succ])
                      refine wpAnyH_done (by kernel_rfl) ?_ _
                      clear hHeld
                      have bD5 := bD4d.grown hg5 (by simp; omega)
                      have B5 := B4d.grown hg5 B4d.size (fun k hk => by injection hk with hk; omega)
                      have hl5 : ((out ++ [((0, 0, false) : Dm)]).take (P + 1) ++ out.drop P).length = out.length + 1 := by simp; omega
                      have hset := shift_set out ((0, 0, false) : Dm) (x, y, dn) hPl
                      obtain ⟨NW, hNW⟩ : ∃ NW, NW = out.take P ++ (x, y, dn) :: out.drop P := ⟨_, rfl⟩
                      have hNl : NW.length = out.length + 1 := by rw [hNW]; simp; omega
                      rw [← hNW] at Hins Hsi hset
                      obtain ⟨L5, hL5⟩ : ∃ L5, L5 = (out ++ [((0, 0, false) : Dm)]).take (P + 1) ++ out.drop P := ⟨_, rfl⟩
                      rw [← hL5] at own5 hset hl5
                      have hk5 : P < L5.length := by omega
                      obtain ⟨u0, u1, u2, s0, s1, s2⟩ := own5.slot3 lenDom (k := P) hk5
                      have hsf := own5.free
                      have Hset := Lib.hid hset; have HNl := Lib.hid hNl; have Hk5 := Lib.hid hk5; clear hset hNl hNW hL5 hl5 own4d bD4d B4d hg5 hk5
                      have hpn : ((P : Nat) : Int) < (out.length : Int) + 1 := by omega
                      have zd_0 := bD5.cell 0
                      have zd_1 := bD5.cell 1
                      have zd_2 := bD5.cell 2
                      simp only [List.getElem?_toArray, List.getElem?_cons_zero, List.getElem?_cons_succ] at zd_0 zd_1 zd_2
                      go_wp2
                      go_roundw
                      case rel => exact ⟨k + 1, NW, _, c4, by omega, by go_num, by rw [HNl.out], Hins, Hsi, by rw [HNl.out, ← Hset.out]; exact own5.store3 lenDom Hk5.out rfl, ((B5.st _ _ (by first | exact hg40 | simp)).st _ _ (by first | exact hg40 | simp)).st _ _ (by first | exact hg40 | simp)⟩
                      case measure => simp [intOf]; omega
                    · go_wp2_with fail
                      refine wp_region_held_drew (S := (fun _ => True)) (by kernel_rfl) ?_ (fun hHeld => ?_)
                      · (try dsimp only); (try go_keep)
                      refine wpAnyH_take (i := 0) (oi := { dst := some 49, op := Go.Op.move (Go.Operand.tmp 3), type := 37, pos := "l06_tiling.go:59", after := #[], guard := none }) (v := ?_) rfl (by kernel_rfl) (by kernel_rfl) (by kernel_rfl) (fun _ _ _ h => h) (Or.inl ⟨by rfl, ?_⟩) (by assumption) ?_
                      rotate_left 1
                      · (intro wS hSw; (try dsimp only at hSw); go_simp; (all_goals with_reducible rfl))
                      simp only [Act.put, List.setIfInBounds_toArray, List.set_cons_zero, List.set_cons_succ]
                      refine wpAnyH_take (i := 1) (oi := { dst := some 50, op := Go.Op.move (Go.Operand.tmp 6), type := 3, pos := "l06_tiling.go:59", after := #[], guard := none }) (v := ?_) rfl (by kernel_rfl) (by kernel_rfl) (by kernel_rfl) (fun _ _ _ h => h) (Or.inl ⟨by rfl, ?_⟩) (by assumption) ?_
                      rotate_left 1
                      · (intro wS hSw; (try dsimp only at hSw); go_simp; (all_goals with_reducible rfl))
                      simp only [Act.put, List.setIfInBounds_toArray, List.set_cons_zero, List.set_cons_succ]
                      refine wpAnyH_take (i := 2) (oi := { dst := some 51, op := Go.Op.binOp Go.BinOp.add 3 (Go.Operand.tmp 50) (Go.Operand.const (Go.Value.int Go.IntKind.i64 1)) 3, type := 3, pos := "l06_tiling.go:59", after := #[{ on := 1, ground := Go.Ground.data }], guard := none }) (v := ?_) rfl (by kernel_rfl) (by kernel_rfl) (by kernel_rfl) (fun _ _ _ h => h) (Or.inl ⟨by rfl, ?_⟩) (by assumption) ?_
                      rotate_left 1
                      · (intro wS hSw; (try dsimp only at hSw); go_simp; (all_goals with_reducible rfl))
                      simp only [Act.put, List.setIfInBounds_toArray, List.set_cons_zero, List.set_cons_succ]
                      refine wpAnyH_take (i := 3) (oi := { dst := some 52, op := Go.Op.slice 37 (Go.Operand.tmp 49) (some (Go.Operand.tmp 51)) none none, type := 37, pos := "l06_tiling.go:59", after := #[{ on := 0, ground := Go.Ground.data }, { on := 2, ground := Go.Ground.data }], guard := none }) (v := ?_) rfl (by kernel_rfl) (by kernel_rfl) (by kernel_rfl) (fun _ _ _ h => h) (Or.inl ⟨by rfl, ?_⟩) (by assumption) ?_
                      rotate_left 1
                      · (intro wS hSw; (try dsimp only at hSw); go_simp; (all_goals with_reducible rfl))
                      simp only [Act.put, List.setIfInBounds_toArray, List.set_cons_zero, List.set_cons_succ]
                      refine wpAnyH_take (i := 4) (oi := { dst := some 53, op := Go.Op.move (Go.Operand.tmp 3), type := 37, pos := "l06_tiling.go:59", after := #[], guard := none }) (v := ?_) rfl (by kernel_rfl) (by kernel_rfl) (by kernel_rfl) (fun _ _ _ h => h) (Or.inl ⟨by rfl, ?_⟩) (by assumption) ?_
                      rotate_left 1
                      · (intro wS hSw; (try dsimp only at hSw); go_simp; (all_goals with_reducible rfl))
                      simp only [Act.put, List.setIfInBounds_toArray, List.set_cons_zero, List.set_cons_succ]
                      refine wpAnyH_take (i := 5) (oi := { dst := some 54, op := Go.Op.move (Go.Operand.tmp 6), type := 3, pos := "l06_tiling.go:59", after := #[], guard := none }) (v := ?_) rfl (by kernel_rfl) (by kernel_rfl) (by kernel_rfl) (fun _ _ _ h => h) (Or.inl ⟨by rfl, ?_⟩) (by assumption) ?_
                      rotate_left 1
                      · (intro wS hSw; (try dsimp only at hSw); go_simp; (all_goals with_reducible rfl))
                      simp only [Act.put, List.setIfInBounds_toArray, List.set_cons_zero, List.set_cons_succ]
                      refine wpAnyH_take (i := 6) (oi := { dst := some 55, op := Go.Op.slice 37 (Go.Operand.tmp 53) (some (Go.Operand.tmp 54)) none none, type := 37, pos := "l06_tiling.go:59", after := #[{ on := 4, ground := Go.Ground.data }, { on := 5, ground := Go.Ground.data }], guard := none }) (v := ?_) rfl (by kernel_rfl) (by kernel_rfl) (by kernel_rfl) (fun _ _ _ h => h) (Or.inl ⟨by rfl, ?_⟩) (by assumption) ?_
                      rotate_left 1
                      · (intro wS hSw; (try dsimp only at hSw); go_simp; (all_goals with_reducible rfl))
                      simp only [Act.put, List.setIfInBounds_toArray, List.set_cons_zero, List.set_cons_succ]
                      refine wpAnyH_ready (rs := [7]) (by kernel_rfl) (by simp) ?_
                      refine AllReadyH.cons (o := { dst := some 56, op := Go.Op.call { callee := Go.Callee.builtin Go.Builtin.copy, args := #[Go.Operand.tmp 52, Go.Operand.tmp 55], argTypes := #[37, 37] }, type := 3, pos := "l06_tiling.go:59", after := #[{ on := 3, ground := Go.Ground.data }, { on := 6, ground := Go.Ground.data }], guard := none }) rfl (fun K hK => ?_) AllReadyH.nil
                      (refine step_shift rowDom lenDom oneDom own4d P hPl rfl _ _ rfl _ _ _ _ _ _ rfl rfl (by omega) (by omega) (fun h => by simp) (fun h => by simp) ?_; intro w5 own5 hg5)
                      refine hK.out _ _ ?_ (fun hHeld => ?_)
                      · (try dsimp only); (try go_keep)
                      clear hK K
                      (try simp only [Act.put, List.setIfInBounds_toArray, List.set_cons_zero, List.set_cons_succ])
                      refine wpAnyH_done (by kernel_rfl) ?_ _
                      clear hHeld
                      have bD5 := bD4d.grown hg5 (by simp; omega)
                      have B5 := B4d.grown hg5 B4d.size (fun k hk => by injection hk with hk; omega)
                      have hl5 : ((out ++ [((0, 0, false) : Dm)]).take (P + 1) ++ out.drop P).length = out.length + 1 := by simp; omega
                      have hset := shift_set out ((0, 0, false) : Dm) (x, y, dn) hPl
                      obtain ⟨NW, hNW⟩ : ∃ NW, NW = out.take P ++ (x, y, dn) :: out.drop P := ⟨_, rfl⟩
                      have hNl : NW.length = out.length + 1 := by rw [hNW]; simp; omega
                      rw [← hNW] at Hins Hsi hset
                      obtain ⟨L5, hL5⟩ : ∃ L5, L5 = (out ++ [((0, 0, false) : Dm)]).take (P + 1) ++ out.drop P := ⟨_, rfl⟩
                      rw [← hL5] at own5 hset hl5
                      have hk5 : P < L5.length := by omega
                      obtain ⟨u0, u1, u2, s0, s1, s2⟩ := own5.slot3 lenDom (k := P) hk5
                      have hsf := own5.free
                      have Hset := Lib.hid hset; have HNl := Lib.hid hNl; have Hk5 := Lib.hid hk5; clear hset hNl hNW hL5 hl5 own4d bD4d B4d hg5 hk5
                      have hpn : ((P : Nat) : Int) < (out.length : Int) + 1 := by omega
                      have zd_0 := bD5.cell 0
                      have zd_1 := bD5.cell 1
                      have zd_2 := bD5.cell 2
                      simp only [List.getElem?_toArray, List.getElem?_cons_zero, List.getElem?_cons_succ] at zd_0 zd_1 zd_2
                      go_wp2
                      go_roundw
                      case rel => exact ⟨k + 1, NW, _, c4, by omega, by go_num, by rw [HNl.out], Hins, Hsi, by rw [HNl.out, ← Hset.out]; exact own5.store3 lenDom Hk5.out rfl, ((B5.st _ _ (by first | exact hg40 | simp)).st _ _ (by first | exact hg40 | simp)).st _ _ (by first | exact hg40 | simp)⟩
                      case measure => simp [intOf]; omega
    · obtain rfl : k = l.length := by omega
      have hg := Hg.out
      rw [List.drop_of_length_le (Nat.le_refl _)] at hg
      have hg2 : out = sortD l := hg
      clear hg
      subst hg2
      go_wp2
      go_ret
      exact ⟨_, _, rfl, hown, hbel⟩
end Go.Proofs.Ytkbndchgmokabaa
