/- IsPartial of the program: the walk. No conditions but sizes. -/
import Derived.Test.YtkbndchgmokabaaPartI
namespace Go.Proofs.Ytkbndchgmokabaa
open Go.ChangeShapes Go.WideShapes Go.ChangeAt Go.RowKit
set_option linter.unusedVariables false
set_option linter.unusedSimpArgs false

def prevOf (l : List Dm) (k : Nat) : Option Dm := if k = 0 then none else l[k - 1]?
theorem prevOf_zero (l : List Dm) : prevOf l 0 = none := rfl
theorem prevOf_succ (l : List Dm) (k : Nat) (h : k < l.length) : prevOf l (k + 1) = some l[k] := by
  unfold prevOf; rw [if_neg (by omega)]; simp [h]
def goodPrev (p : Option Dm) (d : Dm) : Bool := match p with | none => true | some e => decide (domOrd e < domOrd d)
theorem partGo_cons (left : Nat) (p : Option Dm) (d : Dm) (r : List Dm) : partGo left p (d :: r) = (domOk d && decide (left &&& domSet d = domSet d) && goodPrev p d && partGo (sDiff left (domSet d)) (some d) r) := rfl
theorem u64_bits {a b : Nat} (ha : a < U64) (hb : b < U64) : bits .and .u64 (a : Int) (b : Int) = ((a &&& b : Nat) : Int) ∧ bits .andNot .u64 (a : Int) (b : Int) = ((sDiff a b : Nat) : Int) := by
  unfold U64 at ha hb
  exact ⟨u64_and_nat a b ha hb, u64_andNot_nat a b ha hb⟩
theorem retU' {a b : Nat} (h : a = b) : Value.int .u64 a = Value.int .u64 b := by rw [h]

set_option maxHeartbeats 4000000 in
set_option maxRecDepth 100000 in
theorem partI_any (v u : Value) (rows : List Int) (l : List Dm) (w : World) (h : Rd 1 RInt w v rows) (h2 : Rd 3 RDom w u l) : Calls Try.prog 101 #[.agg #[v], u] w (Ret (.bool (isPartial rows l)) w) := by
  obtain ⟨A, c, rfl, hc, hm⟩ := h.form
  obtain ⟨A2, c2, rfl, hc2, hm2⟩ := h2.form
  have hA := ((Below.refl w.heap.size w).al (.cells #[.slice A rows.length c] 31))
  have h' := h.below RE.stays hA
  rcases hr : regionOk rows with _ | _
  · have e : isPartial rows l = false := by unfold isPartial; rw [hr]; rfl
    rw [e]
    go_enter Try.func101, Try.ntmps101
    go_wp2_with fail
    refine (regionOkI_any _ rows _ h').mono ?_
    rintro e w1 ⟨rfl, hb1⟩
    obtain ⟨hc1, hf1, hz1⟩ := bk hb1
    (try simp at hz1)
    have hy1_0 : w.heap.size < w1.heap.size := by omega
    rw [hr]
    go_wp2
    go_ret
    exact ⟨rfl, hA.tr hb1⟩
  · have e : isPartial rows l = partGo (setOf rows) none l := by unfold isPartial; rw [hr]; rfl
    rw [e]
    have hok := regionOk_iff.1 hr
    have hs := setOf_lt hok
    have Hok := Lib.hid hok; clear hok e
    go_enter Try.func101, Try.ntmps101
    go_wp2_with fail
    refine (regionOkI_any _ rows _ h').mono ?_
    rintro e w1 ⟨rfl, hb1⟩
    obtain ⟨hc1, hf1, hz1⟩ := bk hb1
    (try simp at hz1)
    have hy1_0 : w.heap.size < w1.heap.size := by omega
    rw [hr]
    go_wp2_with fail
    refine (setI_any _ rows _ (h'.below RE.stays hb1) Hok).mono ?_
    rintro e w2 ⟨rfl, hb2⟩
    obtain ⟨s, hse⟩ : ∃ s, s = setOf rows := ⟨_, rfl⟩
    rw [← hse] at hs ⊢
    have Hse := Lib.hid hse; clear hse hr
    have B2 := (hA.tr hb1).tr hb2
    clear hc1 hf1 hz1 hy1_0 hb1 hb2 h'
    go_wp2
    go_loopw [5, 15] (fun s5 s15 wr => ∃ k left : Nat, k ≤ l.length ∧ s15 = .int .i64 k ∧ s5 = .int .u64 left ∧ left < U64 ∧ Hid (partGo left (prevOf l k) (l.drop k) = partGo s none l) ∧ Hid (∀ e, prevOf l k = some e → domOk e = true) ∧ Below w.heap.size w wr) (fun _ i _ => l.length - (intOf i).toNat)
    case atStart => exact ⟨0, s, Nat.zero_le _, rfl, rfl, hs, Lib.hid rfl, Lib.hid (fun e he => by cases he), B2⟩
    case round =>
      obtain ⟨k, left, hk, rfl, rfl, hleft, Hg, Hp, hbel⟩ := hrel
      clear B2
      by_cases hlt : k < l.length
      · obtain ⟨b, off, rfl, hb, q1, q2, q3⟩ := (h2.below RE.stays hbel).atDom hlt
        have hg := Hg.out
        rw [List.drop_eq_getElem_cons hlt, partGo_cons] at hg
        obtain ⟨d, hd⟩ : ∃ d, d = l[k] := ⟨_, rfl⟩
        rw [← hd] at q1 q2 q3 hg
        obtain ⟨x, y, dn⟩ := d
        simp only at q1 q2 q3
        have hbz := hbel.al (.cells #[.int .i64 x, .int .i64 y, .bool dn] 73)
        have Bacc := hbz.drew
        have hz : wr.heap.size + 1 ≤ (wr.alloc (.cells #[.int .i64 x, .int .i64 y, .bool dn] 73)).drew.heap.size := by simp
        have hp0 : wr.heap.size < wr.heap.size + 1 := by omega
        rcases hok : domOk (x, y, dn) with _ | _
        · rw [hok] at hg
          simp only [Bool.false_and] at hg
          have HG := Lib.hid hg; have Hdd := Lib.hid hd; have Hok2 := Lib.hid hok; clear hg hd hok
          go_wp2_with fail
          refine wp_region_held_drew (S := (fun w' => w'.cell? ⟨wr.heap.size, 0, none⟩ = some (.int .i64 x) ∧ w'.cell? ⟨wr.heap.size, 1, none⟩ = some (.int .i64 y) ∧ w'.cell? ⟨wr.heap.size, 2, none⟩ = some (.bool dn))) (by kernel_rfl) ?_ (fun hHeld => ?_)
          · (try dsimp only); go_keep
          refine wpAnyH_take (i := 0) (oi := { dst := some 20, op := Go.Op.load 73 (Go.Operand.tmp 7), type := 73, pos := "l06_tiling.go:23", after := #[], guard := none }) (v := ?_) rfl (by kernel_rfl) (by kernel_rfl) (by kernel_rfl) (fun _ _ _ h => h) (Or.inl ⟨by rfl, ?_⟩) (by assumption) ?_
          rotate_left 1
          · (intro wS hSw; (try dsimp only at hSw); go_simp; (all_goals with_reducible rfl))
          simp only [Act.put, List.setIfInBounds_toArray, List.set_cons_zero, List.set_cons_succ]
          refine wpAnyH_ready (rs := [1]) (by kernel_rfl) (by simp) ?_
          refine AllReadyH.cons (o := { dst := some 21, op := Go.Op.call { callee := Go.Callee.value (Go.Operand.func 139), args := #[Go.Operand.tmp 20], argTypes := #[73] }, type := 4, pos := "l06_tiling.go:23", after := #[{ on := 0, ground := Go.Ground.data }], guard := none }) rfl (fun K hK => ?_) AllReadyH.nil
          go_simp
          (first | (go_at_call 139; go_must (refine (domOkI_any x y dn _).mono ?_; rintro e wX ⟨rfl, hbX⟩; rw [Hok2.out]; obtain ⟨hcX, hfX, hzX⟩ := bkn hbX (wr.heap.size + 1) hz; have hz := hzX; have Bacc := Bacc.tr hbX); (try go_wp2_with fail)))
          refine hK.out _ _ ?_ (fun hHeld => ?_)
          · (try dsimp only); go_keep
          clear hK K
          (try simp only [Act.put, List.setIfInBounds_toArray, List.set_cons_zero, List.set_cons_succ])
          refine wpAnyH_take (i := 2) (oi := { dst := some 22, op := Go.Op.unOp Go.UnOp.not 4 (Go.Operand.tmp 21), type := 4, pos := "l06_tiling.go:23", after := #[{ on := 1, ground := Go.Ground.data }], guard := none }) (v := ?_) rfl (by kernel_rfl) (by kernel_rfl) (by kernel_rfl) (fun _ _ _ h => h) (Or.inl ⟨by rfl, ?_⟩) (by assumption) ?_
          rotate_left 1
          · (intro wS hSw; (try dsimp only at hSw); go_simp; (all_goals with_reducible rfl))
          simp only [Act.put, List.setIfInBounds_toArray, List.set_cons_zero, List.set_cons_succ]
          refine wpAnyH_take (i := 3) (oi := { dst := some 23, op := Go.Op.move (Go.Operand.tmp 22), type := 4, pos := "l06_tiling.go:23", after := #[{ on := 2, ground := Go.Ground.data }, { on := 1, ground := Go.Ground.chain }], guard := none }) (v := ?_) rfl (by kernel_rfl) (by kernel_rfl) (by kernel_rfl) (fun _ _ _ h => h) (Or.inl ⟨by rfl, ?_⟩) (by assumption) ?_
          rotate_left 1
          · (intro wS hSw; (try dsimp only at hSw); go_simp; (all_goals with_reducible rfl))
          simp only [Act.put, List.setIfInBounds_toArray, List.set_cons_zero, List.set_cons_succ]
          refine wpAnyH_take (i := 4) (oi := { dst := some 24, op := Go.Op.move (Go.Operand.tmp 5), type := 120, pos := "l06_tiling.go:23", after := #[{ on := 3, ground := Go.Ground.guard }], guard := some (3, false) }) (v := undef) rfl (by kernel_rfl) (by kernel_rfl) (by kernel_rfl) (fun _ _ _ h => h) (Or.inr ⟨by rfl, rfl⟩) (by assumption) ?_
          simp only [Act.put, List.setIfInBounds_toArray, List.set_cons_zero, List.set_cons_succ]
          refine wpAnyH_take (i := 5) (oi := { dst := some 25, op := Go.Op.load 73 (Go.Operand.tmp 7), type := 73, pos := "l06_tiling.go:23", after := #[{ on := 3, ground := Go.Ground.guard }], guard := some (3, false) }) (v := undef) rfl (by kernel_rfl) (by kernel_rfl) (by kernel_rfl) (fun _ _ _ h => h) (Or.inr ⟨by rfl, rfl⟩) (by assumption) ?_
          simp only [Act.put, List.setIfInBounds_toArray, List.set_cons_zero, List.set_cons_succ]
          refine wpAnyH_take (i := 6) (oi := { dst := some 26, op := Go.Op.call { callee := Go.Callee.value (Go.Operand.func 131), args := #[Go.Operand.tmp 25], argTypes := #[73] }, type := 120, pos := "l06_tiling.go:23", after := #[{ on := 5, ground := Go.Ground.data }, { on := 3, ground := Go.Ground.chain }, { on := 3, ground := Go.Ground.guard }], guard := some (3, false) }) (v := undef) rfl (by kernel_rfl) (by kernel_rfl) (by kernel_rfl) (fun _ _ _ h => h) (Or.inr ⟨by rfl, rfl⟩) (by assumption) ?_
          simp only [Act.put, List.setIfInBounds_toArray, List.set_cons_zero, List.set_cons_succ]
          refine wpAnyH_take (i := 7) (oi := { dst := some 27, op := Go.Op.binOp Go.BinOp.and 120 (Go.Operand.tmp 24) (Go.Operand.tmp 26) 120, type := 120, pos := "l06_tiling.go:23", after := #[{ on := 4, ground := Go.Ground.data }, { on := 6, ground := Go.Ground.data }, { on := 3, ground := Go.Ground.guard }], guard := some (3, false) }) (v := undef) rfl (by kernel_rfl) (by kernel_rfl) (by kernel_rfl) (fun _ _ _ h => h) (Or.inr ⟨by rfl, rfl⟩) (by assumption) ?_
          simp only [Act.put, List.setIfInBounds_toArray, List.set_cons_zero, List.set_cons_succ]
          refine wpAnyH_take (i := 8) (oi := { dst := some 28, op := Go.Op.load 73 (Go.Operand.tmp 7), type := 73, pos := "l06_tiling.go:23", after := #[{ on := 3, ground := Go.Ground.guard }], guard := some (3, false) }) (v := undef) rfl (by kernel_rfl) (by kernel_rfl) (by kernel_rfl) (fun _ _ _ h => h) (Or.inr ⟨by rfl, rfl⟩) (by assumption) ?_
          simp only [Act.put, List.setIfInBounds_toArray, List.set_cons_zero, List.set_cons_succ]
          refine wpAnyH_take (i := 9) (oi := { dst := some 29, op := Go.Op.call { callee := Go.Callee.value (Go.Operand.func 131), args := #[Go.Operand.tmp 28], argTypes := #[73] }, type := 120, pos := "l06_tiling.go:23", after := #[{ on := 8, ground := Go.Ground.data }, { on := 6, ground := Go.Ground.chain }, { on := 3, ground := Go.Ground.guard }], guard := some (3, false) }) (v := undef) rfl (by kernel_rfl) (by kernel_rfl) (by kernel_rfl) (fun _ _ _ h => h) (Or.inr ⟨by rfl, rfl⟩) (by assumption) ?_
          simp only [Act.put, List.setIfInBounds_toArray, List.set_cons_zero, List.set_cons_succ]
          refine wpAnyH_take (i := 10) (oi := { dst := some 30, op := Go.Op.binOp Go.BinOp.neq 120 (Go.Operand.tmp 27) (Go.Operand.tmp 29) 120, type := 4, pos := "l06_tiling.go:23", after := #[{ on := 7, ground := Go.Ground.data }, { on := 9, ground := Go.Ground.data }, { on := 3, ground := Go.Ground.guard }], guard := some (3, false) }) (v := undef) rfl (by kernel_rfl) (by kernel_rfl) (by kernel_rfl) (fun _ _ _ h => h) (Or.inr ⟨by rfl, rfl⟩) (by assumption) ?_
          simp only [Act.put, List.setIfInBounds_toArray, List.set_cons_zero, List.set_cons_succ]
          refine wpAnyH_take (i := 11) (oi := { dst := some 31, op := Go.Op.pick (Go.Operand.tmp 23) (Go.Operand.const (Go.Value.bool true)) (Go.Operand.tmp 30), type := 4, pos := "l06_tiling.go:23", after := #[{ on := 3, ground := Go.Ground.data }, { on := 10, ground := Go.Ground.data }], guard := none }) (v := ?_) rfl (by kernel_rfl) (by kernel_rfl) (by kernel_rfl) (fun _ _ _ h => h) (Or.inl ⟨by rfl, ?_⟩) (by assumption) ?_
          rotate_left 1
          · (intro wS hSw; (try dsimp only at hSw); go_simp; (all_goals with_reducible rfl))
          simp only [Act.put, List.setIfInBounds_toArray, List.set_cons_zero, List.set_cons_succ]
          refine wpAnyH_take (i := 12) (oi := { dst := some 32, op := Go.Op.move (Go.Operand.tmp 31), type := 4, pos := "l06_tiling.go:23", after := #[{ on := 11, ground := Go.Ground.data }, { on := 9, ground := Go.Ground.chain }], guard := none }) (v := ?_) rfl (by kernel_rfl) (by kernel_rfl) (by kernel_rfl) (fun _ _ _ h => h) (Or.inl ⟨by rfl, ?_⟩) (by assumption) ?_
          rotate_left 1
          · (intro wS hSw; (try dsimp only at hSw); go_simp; (all_goals with_reducible rfl))
          simp only [Act.put, List.setIfInBounds_toArray, List.set_cons_zero, List.set_cons_succ]
          refine wpAnyH_take (i := 13) (oi := { dst := some 33, op := Go.Op.move (Go.Operand.tmp 6), type := 3, pos := "l06_tiling.go:23", after := #[{ on := 12, ground := Go.Ground.guard }], guard := some (12, false) }) (v := undef) rfl (by kernel_rfl) (by kernel_rfl) (by kernel_rfl) (fun _ _ _ h => h) (Or.inr ⟨by rfl, rfl⟩) (by assumption) ?_
          simp only [Act.put, List.setIfInBounds_toArray, List.set_cons_zero, List.set_cons_succ]
          refine wpAnyH_take (i := 14) (oi := { dst := some 34, op := Go.Op.binOp Go.BinOp.gtr 3 (Go.Operand.tmp 33) (Go.Operand.const (Go.Value.int Go.IntKind.i64 0)) 3, type := 4, pos := "l06_tiling.go:23", after := #[{ on := 13, ground := Go.Ground.data }, { on := 12, ground := Go.Ground.guard }], guard := some (12, false) }) (v := undef) rfl (by kernel_rfl) (by kernel_rfl) (by kernel_rfl) (fun _ _ _ h => h) (Or.inr ⟨by rfl, rfl⟩) (by assumption) ?_
          simp only [Act.put, List.setIfInBounds_toArray, List.set_cons_zero, List.set_cons_succ]
          refine wpAnyH_take (i := 15) (oi := { dst := some 35, op := Go.Op.move (Go.Operand.tmp 34), type := 4, pos := "l06_tiling.go:23", after := #[{ on := 14, ground := Go.Ground.data }, { on := 12, ground := Go.Ground.chain }, { on := 12, ground := Go.Ground.guard }], guard := some (12, false) }) (v := undef) rfl (by kernel_rfl) (by kernel_rfl) (by kernel_rfl) (fun _ _ _ h => h) (Or.inr ⟨by rfl, rfl⟩) (by assumption) ?_
          simp only [Act.put, List.setIfInBounds_toArray, List.set_cons_zero, List.set_cons_succ]
          refine wpAnyH_take (i := 16) (oi := { dst := some 36, op := Go.Op.move (Go.Operand.tmp 1), type := 37, pos := "l06_tiling.go:23", after := #[{ on := 15, ground := Go.Ground.guard }], guard := some (15, true) }) (v := undef) rfl (by kernel_rfl) (by kernel_rfl) (by kernel_rfl) (fun _ _ _ h => h) (Or.inr ⟨by rfl, rfl⟩) (by assumption) ?_
          simp only [Act.put, List.setIfInBounds_toArray, List.set_cons_zero, List.set_cons_succ]
          refine wpAnyH_take (i := 17) (oi := { dst := some 37, op := Go.Op.move (Go.Operand.tmp 6), type := 3, pos := "l06_tiling.go:23", after := #[{ on := 15, ground := Go.Ground.guard }], guard := some (15, true) }) (v := undef) rfl (by kernel_rfl) (by kernel_rfl) (by kernel_rfl) (fun _ _ _ h => h) (Or.inr ⟨by rfl, rfl⟩) (by assumption) ?_
          simp only [Act.put, List.setIfInBounds_toArray, List.set_cons_zero, List.set_cons_succ]
          refine wpAnyH_take (i := 18) (oi := { dst := some 38, op := Go.Op.binOp Go.BinOp.sub 3 (Go.Operand.tmp 37) (Go.Operand.const (Go.Value.int Go.IntKind.i64 1)) 3, type := 3, pos := "l06_tiling.go:23", after := #[{ on := 17, ground := Go.Ground.data }, { on := 15, ground := Go.Ground.guard }], guard := some (15, true) }) (v := undef) rfl (by kernel_rfl) (by kernel_rfl) (by kernel_rfl) (fun _ _ _ h => h) (Or.inr ⟨by rfl, rfl⟩) (by assumption) ?_
          simp only [Act.put, List.setIfInBounds_toArray, List.set_cons_zero, List.set_cons_succ]
          refine wpAnyH_take (i := 19) (oi := { dst := some 39, op := Go.Op.indexAddr 37 (Go.Operand.tmp 36) (Go.Operand.tmp 38), type := 0, pos := "l06_tiling.go:23", after := #[{ on := 16, ground := Go.Ground.data }, { on := 18, ground := Go.Ground.data }, { on := 15, ground := Go.Ground.guard }], guard := some (15, true) }) (v := undef) rfl (by kernel_rfl) (by kernel_rfl) (by kernel_rfl) (fun _ _ _ h => h) (Or.inr ⟨by rfl, rfl⟩) (by assumption) ?_
          simp only [Act.put, List.setIfInBounds_toArray, List.set_cons_zero, List.set_cons_succ]
          refine wpAnyH_take (i := 20) (oi := { dst := some 40, op := Go.Op.load 73 (Go.Operand.tmp 39), type := 73, pos := "l06_tiling.go:23", after := #[{ on := 19, ground := Go.Ground.data }, { on := 15, ground := Go.Ground.guard }], guard := some (15, true) }) (v := undef) rfl (by kernel_rfl) (by kernel_rfl) (by kernel_rfl) (fun _ _ _ h => h) (Or.inr ⟨by rfl, rfl⟩) (by assumption) ?_
          simp only [Act.put, List.setIfInBounds_toArray, List.set_cons_zero, List.set_cons_succ]
          refine wpAnyH_take (i := 21) (oi := { dst := some 41, op := Go.Op.load 73 (Go.Operand.tmp 7), type := 73, pos := "l06_tiling.go:23", after := #[{ on := 15, ground := Go.Ground.guard }], guard := some (15, true) }) (v := undef) rfl (by kernel_rfl) (by kernel_rfl) (by kernel_rfl) (fun _ _ _ h => h) (Or.inr ⟨by rfl, rfl⟩) (by assumption) ?_
          simp only [Act.put, List.setIfInBounds_toArray, List.set_cons_zero, List.set_cons_succ]
          refine wpAnyH_take (i := 22) (oi := { dst := some 42, op := Go.Op.call { callee := Go.Callee.value (Go.Operand.func 160), args := #[Go.Operand.tmp 40, Go.Operand.tmp 41], argTypes := #[73, 73] }, type := 4, pos := "l06_tiling.go:23", after := #[{ on := 20, ground := Go.Ground.data }, { on := 21, ground := Go.Ground.data }, { on := 15, ground := Go.Ground.chain }, { on := 15, ground := Go.Ground.guard }], guard := some (15, true) }) (v := undef) rfl (by kernel_rfl) (by kernel_rfl) (by kernel_rfl) (fun _ _ _ h => h) (Or.inr ⟨by rfl, rfl⟩) (by assumption) ?_
          simp only [Act.put, List.setIfInBounds_toArray, List.set_cons_zero, List.set_cons_succ]
          refine wpAnyH_take (i := 23) (oi := { dst := some 43, op := Go.Op.unOp Go.UnOp.not 4 (Go.Operand.tmp 42), type := 4, pos := "l06_tiling.go:23", after := #[{ on := 22, ground := Go.Ground.data }, { on := 15, ground := Go.Ground.guard }], guard := some (15, true) }) (v := undef) rfl (by kernel_rfl) (by kernel_rfl) (by kernel_rfl) (fun _ _ _ h => h) (Or.inr ⟨by rfl, rfl⟩) (by assumption) ?_
          simp only [Act.put, List.setIfInBounds_toArray, List.set_cons_zero, List.set_cons_succ]
          refine wpAnyH_take (i := 24) (oi := { dst := some 44, op := Go.Op.pick (Go.Operand.tmp 35) (Go.Operand.tmp 43) (Go.Operand.const (Go.Value.bool false)), type := 4, pos := "l06_tiling.go:23", after := #[{ on := 15, ground := Go.Ground.data }, { on := 23, ground := Go.Ground.data }, { on := 12, ground := Go.Ground.guard }], guard := some (12, false) }) (v := undef) rfl (by kernel_rfl) (by kernel_rfl) (by kernel_rfl) (fun _ _ _ h => h) (Or.inr ⟨by rfl, rfl⟩) (by assumption) ?_
          simp only [Act.put, List.setIfInBounds_toArray, List.set_cons_zero, List.set_cons_succ]
          refine wpAnyH_take (i := 25) (oi := { dst := some 45, op := Go.Op.pick (Go.Operand.tmp 32) (Go.Operand.const (Go.Value.bool true)) (Go.Operand.tmp 44), type := 4, pos := "l06_tiling.go:23", after := #[{ on := 12, ground := Go.Ground.data }, { on := 24, ground := Go.Ground.data }], guard := none }) (v := ?_) rfl (by kernel_rfl) (by kernel_rfl) (by kernel_rfl) (fun _ _ _ h => h) (Or.inl ⟨by rfl, ?_⟩) (by assumption) ?_
          rotate_left 1
          · (intro wS hSw; (try dsimp only at hSw); go_simp; (all_goals with_reducible rfl))
          simp only [Act.put, List.setIfInBounds_toArray, List.set_cons_zero, List.set_cons_succ]
          refine wpAnyH_done (by kernel_rfl) ?_ _
          all_goals
            go_wp2
            go_ret
            exact ⟨retB (by have := HG.out; rw [Hse.out] at this; exact this), Bacc⟩
        · rw [hok] at hg
          simp only [Bool.true_and] at hg
          have hDlt := domSet_lt hok
          obtain ⟨D, hD⟩ : ∃ D, D = domSet (x, y, dn) := ⟨_, rfl⟩
          rw [← hD] at hg hDlt
          obtain ⟨hand, hnot⟩ := u64_bits hleft hDlt
          have HD := Lib.hid hD; have Hok2 := Lib.hid hok; have Hdd := Lib.hid hd; clear hD hok hd
          rcases hsub : decide (left &&& D = D) with _ | _
          · rw [hsub] at hg
            simp only [Bool.false_and] at hg
            have hne : (((left &&& D : Nat) : Int) != (D : Int)) = true := by
              rw [decide_eq_false_iff_not] at hsub; rw [bne_iff_ne]; omega
            have HG := Lib.hid hg; clear hg hsub
            go_wp2_with fail
            refine wp_region_held_drew (S := (fun w' => w'.cell? ⟨wr.heap.size, 0, none⟩ = some (.int .i64 x) ∧ w'.cell? ⟨wr.heap.size, 1, none⟩ = some (.int .i64 y) ∧ w'.cell? ⟨wr.heap.size, 2, none⟩ = some (.bool dn))) (by kernel_rfl) ?_ (fun hHeld => ?_)
            · (try dsimp only); go_keep
            refine wpAnyH_take (i := 0) (oi := { dst := some 20, op := Go.Op.load 73 (Go.Operand.tmp 7), type := 73, pos := "l06_tiling.go:23", after := #[], guard := none }) (v := ?_) rfl (by kernel_rfl) (by kernel_rfl) (by kernel_rfl) (fun _ _ _ h => h) (Or.inl ⟨by rfl, ?_⟩) (by assumption) ?_
            rotate_left 1
            · (intro wS hSw; (try dsimp only at hSw); go_simp; (all_goals with_reducible rfl))
            simp only [Act.put, List.setIfInBounds_toArray, List.set_cons_zero, List.set_cons_succ]
            refine wpAnyH_ready (rs := [1]) (by kernel_rfl) (by simp) ?_
            refine AllReadyH.cons (o := { dst := some 21, op := Go.Op.call { callee := Go.Callee.value (Go.Operand.func 139), args := #[Go.Operand.tmp 20], argTypes := #[73] }, type := 4, pos := "l06_tiling.go:23", after := #[{ on := 0, ground := Go.Ground.data }], guard := none }) rfl (fun K hK => ?_) AllReadyH.nil
            go_simp
            (first | (go_at_call 139; go_must (refine (domOkI_any x y dn _).mono ?_; rintro e wX ⟨rfl, hbX⟩; rw [Hok2.out]; obtain ⟨hcX, hfX, hzX⟩ := bkn hbX (wr.heap.size + 1) hz; have hz := hzX; have Bacc := Bacc.tr hbX); (try go_wp2_with fail)) | (go_at_call 131; go_must (refine (domSetI_yes x y dn _ Hok2.out).mono ?_; rintro e wX ⟨rfl, hbX⟩; rw [← HD.out]; obtain ⟨hcX, hfX, hzX⟩ := bkn hbX (wr.heap.size + 1) hz; have hz := hzX; have Bacc := Bacc.tr hbX); (try go_wp2_with fail)))
            refine hK.out _ _ ?_ (fun hHeld => ?_)
            · (try dsimp only); go_keep
            clear hK K
            (try simp only [Act.put, List.setIfInBounds_toArray, List.set_cons_zero, List.set_cons_succ])
            refine wpAnyH_take (i := 2) (oi := { dst := some 22, op := Go.Op.unOp Go.UnOp.not 4 (Go.Operand.tmp 21), type := 4, pos := "l06_tiling.go:23", after := #[{ on := 1, ground := Go.Ground.data }], guard := none }) (v := ?_) rfl (by kernel_rfl) (by kernel_rfl) (by kernel_rfl) (fun _ _ _ h => h) (Or.inl ⟨by rfl, ?_⟩) (by assumption) ?_
            rotate_left 1
            · (intro wS hSw; (try dsimp only at hSw); go_simp; (all_goals with_reducible rfl))
            simp only [Act.put, List.setIfInBounds_toArray, List.set_cons_zero, List.set_cons_succ]
            refine wpAnyH_take (i := 3) (oi := { dst := some 23, op := Go.Op.move (Go.Operand.tmp 22), type := 4, pos := "l06_tiling.go:23", after := #[{ on := 2, ground := Go.Ground.data }, { on := 1, ground := Go.Ground.chain }], guard := none }) (v := ?_) rfl (by kernel_rfl) (by kernel_rfl) (by kernel_rfl) (fun _ _ _ h => h) (Or.inl ⟨by rfl, ?_⟩) (by assumption) ?_
            rotate_left 1
            · (intro wS hSw; (try dsimp only at hSw); go_simp; (all_goals with_reducible rfl))
            simp only [Act.put, List.setIfInBounds_toArray, List.set_cons_zero, List.set_cons_succ]
            refine wpAnyH_take (i := 4) (oi := { dst := some 24, op := Go.Op.move (Go.Operand.tmp 5), type := 120, pos := "l06_tiling.go:23", after := #[{ on := 3, ground := Go.Ground.guard }], guard := some (3, false) }) (v := ?_) rfl (by kernel_rfl) (by kernel_rfl) (by kernel_rfl) (fun _ _ _ h => h) (Or.inl ⟨by rfl, ?_⟩) (by assumption) ?_
            rotate_left 1
            · (intro wS hSw; (try dsimp only at hSw); go_simp; (all_goals with_reducible rfl))
            simp only [Act.put, List.setIfInBounds_toArray, List.set_cons_zero, List.set_cons_succ]
            refine wpAnyH_take (i := 5) (oi := { dst := some 25, op := Go.Op.load 73 (Go.Operand.tmp 7), type := 73, pos := "l06_tiling.go:23", after := #[{ on := 3, ground := Go.Ground.guard }], guard := some (3, false) }) (v := ?_) rfl (by kernel_rfl) (by kernel_rfl) (by kernel_rfl) (fun _ _ _ h => h) (Or.inl ⟨by rfl, ?_⟩) (by assumption) ?_
            rotate_left 1
            · (intro wS hSw; (try dsimp only at hSw); go_simp; (all_goals with_reducible rfl))
            simp only [Act.put, List.setIfInBounds_toArray, List.set_cons_zero, List.set_cons_succ]
            refine wpAnyH_take (i := 8) (oi := { dst := some 28, op := Go.Op.load 73 (Go.Operand.tmp 7), type := 73, pos := "l06_tiling.go:23", after := #[{ on := 3, ground := Go.Ground.guard }], guard := some (3, false) }) (v := ?_) rfl (by kernel_rfl) (by kernel_rfl) (by kernel_rfl) (fun _ _ _ h => h) (Or.inl ⟨by rfl, ?_⟩) (by assumption) ?_
            rotate_left 1
            · (intro wS hSw; (try dsimp only at hSw); go_simp; (all_goals with_reducible rfl))
            simp only [Act.put, List.setIfInBounds_toArray, List.set_cons_zero, List.set_cons_succ]
            refine wpAnyH_ready (rs := [6]) (by kernel_rfl) (by simp) ?_
            refine AllReadyH.cons (o := { dst := some 26, op := Go.Op.call { callee := Go.Callee.value (Go.Operand.func 131), args := #[Go.Operand.tmp 25], argTypes := #[73] }, type := 120, pos := "l06_tiling.go:23", after := #[{ on := 5, ground := Go.Ground.data }, { on := 3, ground := Go.Ground.chain }, { on := 3, ground := Go.Ground.guard }], guard := some (3, false) }) rfl (fun K hK => ?_) AllReadyH.nil
            go_simp
            (first | (go_at_call 139; go_must (refine (domOkI_any x y dn _).mono ?_; rintro e wX ⟨rfl, hbX⟩; rw [Hok2.out]; obtain ⟨hcX, hfX, hzX⟩ := bkn hbX (wr.heap.size + 1) hz; have hz := hzX; have Bacc := Bacc.tr hbX); (try go_wp2_with fail)) | (go_at_call 131; go_must (refine (domSetI_yes x y dn _ Hok2.out).mono ?_; rintro e wX ⟨rfl, hbX⟩; rw [← HD.out]; obtain ⟨hcX, hfX, hzX⟩ := bkn hbX (wr.heap.size + 1) hz; have hz := hzX; have Bacc := Bacc.tr hbX); (try go_wp2_with fail)))
            refine hK.out _ _ ?_ (fun hHeld => ?_)
            · (try dsimp only); go_keep
            clear hK K
            (try simp only [Act.put, List.setIfInBounds_toArray, List.set_cons_zero, List.set_cons_succ])
            refine wpAnyH_take (i := 7) (oi := { dst := some 27, op := Go.Op.binOp Go.BinOp.and 120 (Go.Operand.tmp 24) (Go.Operand.tmp 26) 120, type := 120, pos := "l06_tiling.go:23", after := #[{ on := 4, ground := Go.Ground.data }, { on := 6, ground := Go.Ground.data }, { on := 3, ground := Go.Ground.guard }], guard := some (3, false) }) (v := ?_) rfl (by kernel_rfl) (by kernel_rfl) (by kernel_rfl) (fun _ _ _ h => h) (Or.inl ⟨by rfl, ?_⟩) (by assumption) ?_
            rotate_left 1
            · (intro wS hSw; (try dsimp only at hSw); go_simp; (all_goals with_reducible rfl))
            simp only [Act.put, List.setIfInBounds_toArray, List.set_cons_zero, List.set_cons_succ]
            refine wpAnyH_ready (rs := [9]) (by kernel_rfl) (by simp) ?_
            refine AllReadyH.cons (o := { dst := some 29, op := Go.Op.call { callee := Go.Callee.value (Go.Operand.func 131), args := #[Go.Operand.tmp 28], argTypes := #[73] }, type := 120, pos := "l06_tiling.go:23", after := #[{ on := 8, ground := Go.Ground.data }, { on := 6, ground := Go.Ground.chain }, { on := 3, ground := Go.Ground.guard }], guard := some (3, false) }) rfl (fun K hK => ?_) AllReadyH.nil
            go_simp
            (first | (go_at_call 139; go_must (refine (domOkI_any x y dn _).mono ?_; rintro e wX ⟨rfl, hbX⟩; rw [Hok2.out]; obtain ⟨hcX, hfX, hzX⟩ := bkn hbX (wr.heap.size + 1) hz; have hz := hzX; have Bacc := Bacc.tr hbX); (try go_wp2_with fail)) | (go_at_call 131; go_must (refine (domSetI_yes x y dn _ Hok2.out).mono ?_; rintro e wX ⟨rfl, hbX⟩; rw [← HD.out]; obtain ⟨hcX, hfX, hzX⟩ := bkn hbX (wr.heap.size + 1) hz; have hz := hzX; have Bacc := Bacc.tr hbX); (try go_wp2_with fail)))
            refine hK.out _ _ ?_ (fun hHeld => ?_)
            · (try dsimp only); go_keep
            clear hK K
            (try simp only [Act.put, List.setIfInBounds_toArray, List.set_cons_zero, List.set_cons_succ])
            refine wpAnyH_take (i := 10) (oi := { dst := some 30, op := Go.Op.binOp Go.BinOp.neq 120 (Go.Operand.tmp 27) (Go.Operand.tmp 29) 120, type := 4, pos := "l06_tiling.go:23", after := #[{ on := 7, ground := Go.Ground.data }, { on := 9, ground := Go.Ground.data }, { on := 3, ground := Go.Ground.guard }], guard := some (3, false) }) (v := ?_) rfl (by kernel_rfl) (by kernel_rfl) (by kernel_rfl) (fun _ _ _ h => h) (Or.inl ⟨by rfl, ?_⟩) (by assumption) ?_
            rotate_left 1
            · (intro wS hSw; (try dsimp only at hSw); go_simp; (all_goals with_reducible rfl))
            simp only [Act.put, List.setIfInBounds_toArray, List.set_cons_zero, List.set_cons_succ]
            refine wpAnyH_take (i := 11) (oi := { dst := some 31, op := Go.Op.pick (Go.Operand.tmp 23) (Go.Operand.const (Go.Value.bool true)) (Go.Operand.tmp 30), type := 4, pos := "l06_tiling.go:23", after := #[{ on := 3, ground := Go.Ground.data }, { on := 10, ground := Go.Ground.data }], guard := none }) (v := ?_) rfl (by kernel_rfl) (by kernel_rfl) (by kernel_rfl) (fun _ _ _ h => h) (Or.inl ⟨by rfl, ?_⟩) (by assumption) ?_
            rotate_left 1
            · (intro wS hSw; (try dsimp only at hSw); go_simp; (all_goals with_reducible rfl))
            simp only [Act.put, List.setIfInBounds_toArray, List.set_cons_zero, List.set_cons_succ]
            refine wpAnyH_take (i := 12) (oi := { dst := some 32, op := Go.Op.move (Go.Operand.tmp 31), type := 4, pos := "l06_tiling.go:23", after := #[{ on := 11, ground := Go.Ground.data }, { on := 9, ground := Go.Ground.chain }], guard := none }) (v := ?_) rfl (by kernel_rfl) (by kernel_rfl) (by kernel_rfl) (fun _ _ _ h => h) (Or.inl ⟨by rfl, ?_⟩) (by assumption) ?_
            rotate_left 1
            · (intro wS hSw; (try dsimp only at hSw); go_simp; (all_goals with_reducible rfl))
            simp only [Act.put, List.setIfInBounds_toArray, List.set_cons_zero, List.set_cons_succ]
            refine wpAnyH_take (i := 13) (oi := { dst := some 33, op := Go.Op.move (Go.Operand.tmp 6), type := 3, pos := "l06_tiling.go:23", after := #[{ on := 12, ground := Go.Ground.guard }], guard := some (12, false) }) (v := undef) rfl (by kernel_rfl) (by kernel_rfl) (by kernel_rfl) (fun _ _ _ h => h) (Or.inr ⟨by rfl, rfl⟩) (by assumption) ?_
            simp only [Act.put, List.setIfInBounds_toArray, List.set_cons_zero, List.set_cons_succ]
            refine wpAnyH_take (i := 14) (oi := { dst := some 34, op := Go.Op.binOp Go.BinOp.gtr 3 (Go.Operand.tmp 33) (Go.Operand.const (Go.Value.int Go.IntKind.i64 0)) 3, type := 4, pos := "l06_tiling.go:23", after := #[{ on := 13, ground := Go.Ground.data }, { on := 12, ground := Go.Ground.guard }], guard := some (12, false) }) (v := undef) rfl (by kernel_rfl) (by kernel_rfl) (by kernel_rfl) (fun _ _ _ h => h) (Or.inr ⟨by rfl, rfl⟩) (by assumption) ?_
            simp only [Act.put, List.setIfInBounds_toArray, List.set_cons_zero, List.set_cons_succ]
            refine wpAnyH_take (i := 15) (oi := { dst := some 35, op := Go.Op.move (Go.Operand.tmp 34), type := 4, pos := "l06_tiling.go:23", after := #[{ on := 14, ground := Go.Ground.data }, { on := 12, ground := Go.Ground.chain }, { on := 12, ground := Go.Ground.guard }], guard := some (12, false) }) (v := undef) rfl (by kernel_rfl) (by kernel_rfl) (by kernel_rfl) (fun _ _ _ h => h) (Or.inr ⟨by rfl, rfl⟩) (by assumption) ?_
            simp only [Act.put, List.setIfInBounds_toArray, List.set_cons_zero, List.set_cons_succ]
            refine wpAnyH_take (i := 16) (oi := { dst := some 36, op := Go.Op.move (Go.Operand.tmp 1), type := 37, pos := "l06_tiling.go:23", after := #[{ on := 15, ground := Go.Ground.guard }], guard := some (15, true) }) (v := undef) rfl (by kernel_rfl) (by kernel_rfl) (by kernel_rfl) (fun _ _ _ h => h) (Or.inr ⟨by rfl, rfl⟩) (by assumption) ?_
            simp only [Act.put, List.setIfInBounds_toArray, List.set_cons_zero, List.set_cons_succ]
            refine wpAnyH_take (i := 17) (oi := { dst := some 37, op := Go.Op.move (Go.Operand.tmp 6), type := 3, pos := "l06_tiling.go:23", after := #[{ on := 15, ground := Go.Ground.guard }], guard := some (15, true) }) (v := undef) rfl (by kernel_rfl) (by kernel_rfl) (by kernel_rfl) (fun _ _ _ h => h) (Or.inr ⟨by rfl, rfl⟩) (by assumption) ?_
            simp only [Act.put, List.setIfInBounds_toArray, List.set_cons_zero, List.set_cons_succ]
            refine wpAnyH_take (i := 18) (oi := { dst := some 38, op := Go.Op.binOp Go.BinOp.sub 3 (Go.Operand.tmp 37) (Go.Operand.const (Go.Value.int Go.IntKind.i64 1)) 3, type := 3, pos := "l06_tiling.go:23", after := #[{ on := 17, ground := Go.Ground.data }, { on := 15, ground := Go.Ground.guard }], guard := some (15, true) }) (v := undef) rfl (by kernel_rfl) (by kernel_rfl) (by kernel_rfl) (fun _ _ _ h => h) (Or.inr ⟨by rfl, rfl⟩) (by assumption) ?_
            simp only [Act.put, List.setIfInBounds_toArray, List.set_cons_zero, List.set_cons_succ]
            refine wpAnyH_take (i := 19) (oi := { dst := some 39, op := Go.Op.indexAddr 37 (Go.Operand.tmp 36) (Go.Operand.tmp 38), type := 0, pos := "l06_tiling.go:23", after := #[{ on := 16, ground := Go.Ground.data }, { on := 18, ground := Go.Ground.data }, { on := 15, ground := Go.Ground.guard }], guard := some (15, true) }) (v := undef) rfl (by kernel_rfl) (by kernel_rfl) (by kernel_rfl) (fun _ _ _ h => h) (Or.inr ⟨by rfl, rfl⟩) (by assumption) ?_
            simp only [Act.put, List.setIfInBounds_toArray, List.set_cons_zero, List.set_cons_succ]
            refine wpAnyH_take (i := 20) (oi := { dst := some 40, op := Go.Op.load 73 (Go.Operand.tmp 39), type := 73, pos := "l06_tiling.go:23", after := #[{ on := 19, ground := Go.Ground.data }, { on := 15, ground := Go.Ground.guard }], guard := some (15, true) }) (v := undef) rfl (by kernel_rfl) (by kernel_rfl) (by kernel_rfl) (fun _ _ _ h => h) (Or.inr ⟨by rfl, rfl⟩) (by assumption) ?_
            simp only [Act.put, List.setIfInBounds_toArray, List.set_cons_zero, List.set_cons_succ]
            refine wpAnyH_take (i := 21) (oi := { dst := some 41, op := Go.Op.load 73 (Go.Operand.tmp 7), type := 73, pos := "l06_tiling.go:23", after := #[{ on := 15, ground := Go.Ground.guard }], guard := some (15, true) }) (v := undef) rfl (by kernel_rfl) (by kernel_rfl) (by kernel_rfl) (fun _ _ _ h => h) (Or.inr ⟨by rfl, rfl⟩) (by assumption) ?_
            simp only [Act.put, List.setIfInBounds_toArray, List.set_cons_zero, List.set_cons_succ]
            refine wpAnyH_take (i := 22) (oi := { dst := some 42, op := Go.Op.call { callee := Go.Callee.value (Go.Operand.func 160), args := #[Go.Operand.tmp 40, Go.Operand.tmp 41], argTypes := #[73, 73] }, type := 4, pos := "l06_tiling.go:23", after := #[{ on := 20, ground := Go.Ground.data }, { on := 21, ground := Go.Ground.data }, { on := 15, ground := Go.Ground.chain }, { on := 15, ground := Go.Ground.guard }], guard := some (15, true) }) (v := undef) rfl (by kernel_rfl) (by kernel_rfl) (by kernel_rfl) (fun _ _ _ h => h) (Or.inr ⟨by rfl, rfl⟩) (by assumption) ?_
            simp only [Act.put, List.setIfInBounds_toArray, List.set_cons_zero, List.set_cons_succ]
            refine wpAnyH_take (i := 23) (oi := { dst := some 43, op := Go.Op.unOp Go.UnOp.not 4 (Go.Operand.tmp 42), type := 4, pos := "l06_tiling.go:23", after := #[{ on := 22, ground := Go.Ground.data }, { on := 15, ground := Go.Ground.guard }], guard := some (15, true) }) (v := undef) rfl (by kernel_rfl) (by kernel_rfl) (by kernel_rfl) (fun _ _ _ h => h) (Or.inr ⟨by rfl, rfl⟩) (by assumption) ?_
            simp only [Act.put, List.setIfInBounds_toArray, List.set_cons_zero, List.set_cons_succ]
            refine wpAnyH_take (i := 24) (oi := { dst := some 44, op := Go.Op.pick (Go.Operand.tmp 35) (Go.Operand.tmp 43) (Go.Operand.const (Go.Value.bool false)), type := 4, pos := "l06_tiling.go:23", after := #[{ on := 15, ground := Go.Ground.data }, { on := 23, ground := Go.Ground.data }, { on := 12, ground := Go.Ground.guard }], guard := some (12, false) }) (v := undef) rfl (by kernel_rfl) (by kernel_rfl) (by kernel_rfl) (fun _ _ _ h => h) (Or.inr ⟨by rfl, rfl⟩) (by assumption) ?_
            simp only [Act.put, List.setIfInBounds_toArray, List.set_cons_zero, List.set_cons_succ]
            refine wpAnyH_take (i := 25) (oi := { dst := some 45, op := Go.Op.pick (Go.Operand.tmp 32) (Go.Operand.const (Go.Value.bool true)) (Go.Operand.tmp 44), type := 4, pos := "l06_tiling.go:23", after := #[{ on := 12, ground := Go.Ground.data }, { on := 24, ground := Go.Ground.data }], guard := none }) (v := ?_) rfl (by kernel_rfl) (by kernel_rfl) (by kernel_rfl) (fun _ _ _ h => h) (Or.inl ⟨by rfl, ?_⟩) (by assumption) ?_
            rotate_left 1
            · (intro wS hSw; (try dsimp only at hSw); go_simp; (all_goals with_reducible rfl))
            simp only [Act.put, List.setIfInBounds_toArray, List.set_cons_zero, List.set_cons_succ]
            refine wpAnyH_done (by kernel_rfl) ?_ _
            all_goals
              go_wp2
              go_ret
              exact ⟨retB (by have := HG.out; rw [Hse.out] at this; exact this), Bacc⟩
          · rw [hsub] at hg
            simp only [Bool.true_and] at hg
            have hne : (((left &&& D : Nat) : Int) != (D : Int)) = false := by
              rw [decide_eq_true_iff] at hsub; rw [bne_eq_false_iff_eq]; omega
            clear hsub
            rcases Nat.eq_zero_or_pos k with rfl | hkp
            · rw [prevOf_zero] at hg
              simp only [goodPrev, Bool.true_and] at hg
              have HG := Lib.hid hg; clear hg
              simp only [Nat.zero_mul, Nat.add_zero] at q1 q2 q3
              go_wp2_with fail
              refine wp_region_held_drew (S := (fun w' => w'.cell? ⟨wr.heap.size, 0, none⟩ = some (.int .i64 x) ∧ w'.cell? ⟨wr.heap.size, 1, none⟩ = some (.int .i64 y) ∧ w'.cell? ⟨wr.heap.size, 2, none⟩ = some (.bool dn))) (by kernel_rfl) ?_ (fun hHeld => ?_)
              · (try dsimp only); go_keep
              refine wpAnyH_take (i := 0) (oi := { dst := some 20, op := Go.Op.load 73 (Go.Operand.tmp 7), type := 73, pos := "l06_tiling.go:23", after := #[], guard := none }) (v := ?_) rfl (by kernel_rfl) (by kernel_rfl) (by kernel_rfl) (fun _ _ _ h => h) (Or.inl ⟨by rfl, ?_⟩) (by assumption) ?_
              rotate_left 1
              · (intro wS hSw; (try dsimp only at hSw); go_simp; (all_goals with_reducible rfl))
              simp only [Act.put, List.setIfInBounds_toArray, List.set_cons_zero, List.set_cons_succ]
              refine wpAnyH_ready (rs := [1]) (by kernel_rfl) (by simp) ?_
              refine AllReadyH.cons (o := { dst := some 21, op := Go.Op.call { callee := Go.Callee.value (Go.Operand.func 139), args := #[Go.Operand.tmp 20], argTypes := #[73] }, type := 4, pos := "l06_tiling.go:23", after := #[{ on := 0, ground := Go.Ground.data }], guard := none }) rfl (fun K hK => ?_) AllReadyH.nil
              go_simp
              (first | (go_at_call 139; go_must (refine (domOkI_any x y dn _).mono ?_; rintro e wX ⟨rfl, hbX⟩; rw [Hok2.out]; obtain ⟨hcX, hfX, hzX⟩ := bkn hbX (wr.heap.size + 1) hz; have hz := hzX; have Bacc := Bacc.tr hbX); (try go_wp2_with fail)) | (go_at_call 131; go_must (refine (domSetI_yes x y dn _ Hok2.out).mono ?_; rintro e wX ⟨rfl, hbX⟩; rw [← HD.out]; obtain ⟨hcX, hfX, hzX⟩ := bkn hbX (wr.heap.size + 1) hz; have hz := hzX; have Bacc := Bacc.tr hbX); (try go_wp2_with fail)))
              refine hK.out _ _ ?_ (fun hHeld => ?_)
              · (try dsimp only); go_keep
              clear hK K
              (try simp only [Act.put, List.setIfInBounds_toArray, List.set_cons_zero, List.set_cons_succ])
              refine wpAnyH_take (i := 2) (oi := { dst := some 22, op := Go.Op.unOp Go.UnOp.not 4 (Go.Operand.tmp 21), type := 4, pos := "l06_tiling.go:23", after := #[{ on := 1, ground := Go.Ground.data }], guard := none }) (v := ?_) rfl (by kernel_rfl) (by kernel_rfl) (by kernel_rfl) (fun _ _ _ h => h) (Or.inl ⟨by rfl, ?_⟩) (by assumption) ?_
              rotate_left 1
              · (intro wS hSw; (try dsimp only at hSw); go_simp; (all_goals with_reducible rfl))
              simp only [Act.put, List.setIfInBounds_toArray, List.set_cons_zero, List.set_cons_succ]
              refine wpAnyH_take (i := 3) (oi := { dst := some 23, op := Go.Op.move (Go.Operand.tmp 22), type := 4, pos := "l06_tiling.go:23", after := #[{ on := 2, ground := Go.Ground.data }, { on := 1, ground := Go.Ground.chain }], guard := none }) (v := ?_) rfl (by kernel_rfl) (by kernel_rfl) (by kernel_rfl) (fun _ _ _ h => h) (Or.inl ⟨by rfl, ?_⟩) (by assumption) ?_
              rotate_left 1
              · (intro wS hSw; (try dsimp only at hSw); go_simp; (all_goals with_reducible rfl))
              simp only [Act.put, List.setIfInBounds_toArray, List.set_cons_zero, List.set_cons_succ]
              refine wpAnyH_take (i := 4) (oi := { dst := some 24, op := Go.Op.move (Go.Operand.tmp 5), type := 120, pos := "l06_tiling.go:23", after := #[{ on := 3, ground := Go.Ground.guard }], guard := some (3, false) }) (v := ?_) rfl (by kernel_rfl) (by kernel_rfl) (by kernel_rfl) (fun _ _ _ h => h) (Or.inl ⟨by rfl, ?_⟩) (by assumption) ?_
              rotate_left 1
              · (intro wS hSw; (try dsimp only at hSw); go_simp; (all_goals with_reducible rfl))
              simp only [Act.put, List.setIfInBounds_toArray, List.set_cons_zero, List.set_cons_succ]
              refine wpAnyH_take (i := 5) (oi := { dst := some 25, op := Go.Op.load 73 (Go.Operand.tmp 7), type := 73, pos := "l06_tiling.go:23", after := #[{ on := 3, ground := Go.Ground.guard }], guard := some (3, false) }) (v := ?_) rfl (by kernel_rfl) (by kernel_rfl) (by kernel_rfl) (fun _ _ _ h => h) (Or.inl ⟨by rfl, ?_⟩) (by assumption) ?_
              rotate_left 1
              · (intro wS hSw; (try dsimp only at hSw); go_simp; (all_goals with_reducible rfl))
              simp only [Act.put, List.setIfInBounds_toArray, List.set_cons_zero, List.set_cons_succ]
              refine wpAnyH_take (i := 8) (oi := { dst := some 28, op := Go.Op.load 73 (Go.Operand.tmp 7), type := 73, pos := "l06_tiling.go:23", after := #[{ on := 3, ground := Go.Ground.guard }], guard := some (3, false) }) (v := ?_) rfl (by kernel_rfl) (by kernel_rfl) (by kernel_rfl) (fun _ _ _ h => h) (Or.inl ⟨by rfl, ?_⟩) (by assumption) ?_
              rotate_left 1
              · (intro wS hSw; (try dsimp only at hSw); go_simp; (all_goals with_reducible rfl))
              simp only [Act.put, List.setIfInBounds_toArray, List.set_cons_zero, List.set_cons_succ]
              refine wpAnyH_ready (rs := [6]) (by kernel_rfl) (by simp) ?_
              refine AllReadyH.cons (o := { dst := some 26, op := Go.Op.call { callee := Go.Callee.value (Go.Operand.func 131), args := #[Go.Operand.tmp 25], argTypes := #[73] }, type := 120, pos := "l06_tiling.go:23", after := #[{ on := 5, ground := Go.Ground.data }, { on := 3, ground := Go.Ground.chain }, { on := 3, ground := Go.Ground.guard }], guard := some (3, false) }) rfl (fun K hK => ?_) AllReadyH.nil
              go_simp
              (first | (go_at_call 139; go_must (refine (domOkI_any x y dn _).mono ?_; rintro e wX ⟨rfl, hbX⟩; rw [Hok2.out]; obtain ⟨hcX, hfX, hzX⟩ := bkn hbX (wr.heap.size + 1) hz; have hz := hzX; have Bacc := Bacc.tr hbX); (try go_wp2_with fail)) | (go_at_call 131; go_must (refine (domSetI_yes x y dn _ Hok2.out).mono ?_; rintro e wX ⟨rfl, hbX⟩; rw [← HD.out]; obtain ⟨hcX, hfX, hzX⟩ := bkn hbX (wr.heap.size + 1) hz; have hz := hzX; have Bacc := Bacc.tr hbX); (try go_wp2_with fail)))
              refine hK.out _ _ ?_ (fun hHeld => ?_)
              · (try dsimp only); go_keep
              clear hK K
              (try simp only [Act.put, List.setIfInBounds_toArray, List.set_cons_zero, List.set_cons_succ])
              refine wpAnyH_take (i := 7) (oi := { dst := some 27, op := Go.Op.binOp Go.BinOp.and 120 (Go.Operand.tmp 24) (Go.Operand.tmp 26) 120, type := 120, pos := "l06_tiling.go:23", after := #[{ on := 4, ground := Go.Ground.data }, { on := 6, ground := Go.Ground.data }, { on := 3, ground := Go.Ground.guard }], guard := some (3, false) }) (v := ?_) rfl (by kernel_rfl) (by kernel_rfl) (by kernel_rfl) (fun _ _ _ h => h) (Or.inl ⟨by rfl, ?_⟩) (by assumption) ?_
              rotate_left 1
              · (intro wS hSw; (try dsimp only at hSw); go_simp; (all_goals with_reducible rfl))
              simp only [Act.put, List.setIfInBounds_toArray, List.set_cons_zero, List.set_cons_succ]
              refine wpAnyH_ready (rs := [9]) (by kernel_rfl) (by simp) ?_
              refine AllReadyH.cons (o := { dst := some 29, op := Go.Op.call { callee := Go.Callee.value (Go.Operand.func 131), args := #[Go.Operand.tmp 28], argTypes := #[73] }, type := 120, pos := "l06_tiling.go:23", after := #[{ on := 8, ground := Go.Ground.data }, { on := 6, ground := Go.Ground.chain }, { on := 3, ground := Go.Ground.guard }], guard := some (3, false) }) rfl (fun K hK => ?_) AllReadyH.nil
              go_simp
              (first | (go_at_call 139; go_must (refine (domOkI_any x y dn _).mono ?_; rintro e wX ⟨rfl, hbX⟩; rw [Hok2.out]; obtain ⟨hcX, hfX, hzX⟩ := bkn hbX (wr.heap.size + 1) hz; have hz := hzX; have Bacc := Bacc.tr hbX); (try go_wp2_with fail)) | (go_at_call 131; go_must (refine (domSetI_yes x y dn _ Hok2.out).mono ?_; rintro e wX ⟨rfl, hbX⟩; rw [← HD.out]; obtain ⟨hcX, hfX, hzX⟩ := bkn hbX (wr.heap.size + 1) hz; have hz := hzX; have Bacc := Bacc.tr hbX); (try go_wp2_with fail)))
              refine hK.out _ _ ?_ (fun hHeld => ?_)
              · (try dsimp only); go_keep
              clear hK K
              (try simp only [Act.put, List.setIfInBounds_toArray, List.set_cons_zero, List.set_cons_succ])
              refine wpAnyH_take (i := 10) (oi := { dst := some 30, op := Go.Op.binOp Go.BinOp.neq 120 (Go.Operand.tmp 27) (Go.Operand.tmp 29) 120, type := 4, pos := "l06_tiling.go:23", after := #[{ on := 7, ground := Go.Ground.data }, { on := 9, ground := Go.Ground.data }, { on := 3, ground := Go.Ground.guard }], guard := some (3, false) }) (v := ?_) rfl (by kernel_rfl) (by kernel_rfl) (by kernel_rfl) (fun _ _ _ h => h) (Or.inl ⟨by rfl, ?_⟩) (by assumption) ?_
              rotate_left 1
              · (intro wS hSw; (try dsimp only at hSw); go_simp; (all_goals with_reducible rfl))
              simp only [Act.put, List.setIfInBounds_toArray, List.set_cons_zero, List.set_cons_succ]
              refine wpAnyH_take (i := 11) (oi := { dst := some 31, op := Go.Op.pick (Go.Operand.tmp 23) (Go.Operand.const (Go.Value.bool true)) (Go.Operand.tmp 30), type := 4, pos := "l06_tiling.go:23", after := #[{ on := 3, ground := Go.Ground.data }, { on := 10, ground := Go.Ground.data }], guard := none }) (v := ?_) rfl (by kernel_rfl) (by kernel_rfl) (by kernel_rfl) (fun _ _ _ h => h) (Or.inl ⟨by rfl, ?_⟩) (by assumption) ?_
              rotate_left 1
              · (intro wS hSw; (try dsimp only at hSw); go_simp; (all_goals with_reducible rfl))
              simp only [Act.put, List.setIfInBounds_toArray, List.set_cons_zero, List.set_cons_succ]
              refine wpAnyH_take (i := 12) (oi := { dst := some 32, op := Go.Op.move (Go.Operand.tmp 31), type := 4, pos := "l06_tiling.go:23", after := #[{ on := 11, ground := Go.Ground.data }, { on := 9, ground := Go.Ground.chain }], guard := none }) (v := ?_) rfl (by kernel_rfl) (by kernel_rfl) (by kernel_rfl) (fun _ _ _ h => h) (Or.inl ⟨by rfl, ?_⟩) (by assumption) ?_
              rotate_left 1
              · (intro wS hSw; (try dsimp only at hSw); go_simp; (all_goals with_reducible rfl))
              simp only [Act.put, List.setIfInBounds_toArray, List.set_cons_zero, List.set_cons_succ]
              refine wpAnyH_take (i := 13) (oi := { dst := some 33, op := Go.Op.move (Go.Operand.tmp 6), type := 3, pos := "l06_tiling.go:23", after := #[{ on := 12, ground := Go.Ground.guard }], guard := some (12, false) }) (v := ?_) rfl (by kernel_rfl) (by kernel_rfl) (by kernel_rfl) (fun _ _ _ h => h) (Or.inl ⟨by rfl, ?_⟩) (by assumption) ?_
              rotate_left 1
              · (intro wS hSw; (try dsimp only at hSw); go_simp; (all_goals with_reducible rfl))
              simp only [Act.put, List.setIfInBounds_toArray, List.set_cons_zero, List.set_cons_succ]
              refine wpAnyH_take (i := 14) (oi := { dst := some 34, op := Go.Op.binOp Go.BinOp.gtr 3 (Go.Operand.tmp 33) (Go.Operand.const (Go.Value.int Go.IntKind.i64 0)) 3, type := 4, pos := "l06_tiling.go:23", after := #[{ on := 13, ground := Go.Ground.data }, { on := 12, ground := Go.Ground.guard }], guard := some (12, false) }) (v := ?_) rfl (by kernel_rfl) (by kernel_rfl) (by kernel_rfl) (fun _ _ _ h => h) (Or.inl ⟨by rfl, ?_⟩) (by assumption) ?_
              rotate_left 1
              · (intro wS hSw; (try dsimp only at hSw); go_simp; (all_goals with_reducible rfl))
              simp only [Act.put, List.setIfInBounds_toArray, List.set_cons_zero, List.set_cons_succ]
              refine wpAnyH_take (i := 15) (oi := { dst := some 35, op := Go.Op.move (Go.Operand.tmp 34), type := 4, pos := "l06_tiling.go:23", after := #[{ on := 14, ground := Go.Ground.data }, { on := 12, ground := Go.Ground.chain }, { on := 12, ground := Go.Ground.guard }], guard := some (12, false) }) (v := ?_) rfl (by kernel_rfl) (by kernel_rfl) (by kernel_rfl) (fun _ _ _ h => h) (Or.inl ⟨by rfl, ?_⟩) (by assumption) ?_
              rotate_left 1
              · (intro wS hSw; (try dsimp only at hSw); go_simp; (all_goals with_reducible rfl))
              simp only [Act.put, List.setIfInBounds_toArray, List.set_cons_zero, List.set_cons_succ]
              refine wpAnyH_take (i := 16) (oi := { dst := some 36, op := Go.Op.move (Go.Operand.tmp 1), type := 37, pos := "l06_tiling.go:23", after := #[{ on := 15, ground := Go.Ground.guard }], guard := some (15, true) }) (v := undef) rfl (by kernel_rfl) (by kernel_rfl) (by kernel_rfl) (fun _ _ _ h => h) (Or.inr ⟨by rfl, rfl⟩) (by assumption) ?_
              simp only [Act.put, List.setIfInBounds_toArray, List.set_cons_zero, List.set_cons_succ]
              refine wpAnyH_take (i := 17) (oi := { dst := some 37, op := Go.Op.move (Go.Operand.tmp 6), type := 3, pos := "l06_tiling.go:23", after := #[{ on := 15, ground := Go.Ground.guard }], guard := some (15, true) }) (v := undef) rfl (by kernel_rfl) (by kernel_rfl) (by kernel_rfl) (fun _ _ _ h => h) (Or.inr ⟨by rfl, rfl⟩) (by assumption) ?_
              simp only [Act.put, List.setIfInBounds_toArray, List.set_cons_zero, List.set_cons_succ]
              refine wpAnyH_take (i := 18) (oi := { dst := some 38, op := Go.Op.binOp Go.BinOp.sub 3 (Go.Operand.tmp 37) (Go.Operand.const (Go.Value.int Go.IntKind.i64 1)) 3, type := 3, pos := "l06_tiling.go:23", after := #[{ on := 17, ground := Go.Ground.data }, { on := 15, ground := Go.Ground.guard }], guard := some (15, true) }) (v := undef) rfl (by kernel_rfl) (by kernel_rfl) (by kernel_rfl) (fun _ _ _ h => h) (Or.inr ⟨by rfl, rfl⟩) (by assumption) ?_
              simp only [Act.put, List.setIfInBounds_toArray, List.set_cons_zero, List.set_cons_succ]
              refine wpAnyH_take (i := 19) (oi := { dst := some 39, op := Go.Op.indexAddr 37 (Go.Operand.tmp 36) (Go.Operand.tmp 38), type := 0, pos := "l06_tiling.go:23", after := #[{ on := 16, ground := Go.Ground.data }, { on := 18, ground := Go.Ground.data }, { on := 15, ground := Go.Ground.guard }], guard := some (15, true) }) (v := undef) rfl (by kernel_rfl) (by kernel_rfl) (by kernel_rfl) (fun _ _ _ h => h) (Or.inr ⟨by rfl, rfl⟩) (by assumption) ?_
              simp only [Act.put, List.setIfInBounds_toArray, List.set_cons_zero, List.set_cons_succ]
              refine wpAnyH_take (i := 20) (oi := { dst := some 40, op := Go.Op.load 73 (Go.Operand.tmp 39), type := 73, pos := "l06_tiling.go:23", after := #[{ on := 19, ground := Go.Ground.data }, { on := 15, ground := Go.Ground.guard }], guard := some (15, true) }) (v := undef) rfl (by kernel_rfl) (by kernel_rfl) (by kernel_rfl) (fun _ _ _ h => h) (Or.inr ⟨by rfl, rfl⟩) (by assumption) ?_
              simp only [Act.put, List.setIfInBounds_toArray, List.set_cons_zero, List.set_cons_succ]
              refine wpAnyH_take (i := 21) (oi := { dst := some 41, op := Go.Op.load 73 (Go.Operand.tmp 7), type := 73, pos := "l06_tiling.go:23", after := #[{ on := 15, ground := Go.Ground.guard }], guard := some (15, true) }) (v := undef) rfl (by kernel_rfl) (by kernel_rfl) (by kernel_rfl) (fun _ _ _ h => h) (Or.inr ⟨by rfl, rfl⟩) (by assumption) ?_
              simp only [Act.put, List.setIfInBounds_toArray, List.set_cons_zero, List.set_cons_succ]
              refine wpAnyH_take (i := 22) (oi := { dst := some 42, op := Go.Op.call { callee := Go.Callee.value (Go.Operand.func 160), args := #[Go.Operand.tmp 40, Go.Operand.tmp 41], argTypes := #[73, 73] }, type := 4, pos := "l06_tiling.go:23", after := #[{ on := 20, ground := Go.Ground.data }, { on := 21, ground := Go.Ground.data }, { on := 15, ground := Go.Ground.chain }, { on := 15, ground := Go.Ground.guard }], guard := some (15, true) }) (v := undef) rfl (by kernel_rfl) (by kernel_rfl) (by kernel_rfl) (fun _ _ _ h => h) (Or.inr ⟨by rfl, rfl⟩) (by assumption) ?_
              simp only [Act.put, List.setIfInBounds_toArray, List.set_cons_zero, List.set_cons_succ]
              refine wpAnyH_take (i := 23) (oi := { dst := some 43, op := Go.Op.unOp Go.UnOp.not 4 (Go.Operand.tmp 42), type := 4, pos := "l06_tiling.go:23", after := #[{ on := 22, ground := Go.Ground.data }, { on := 15, ground := Go.Ground.guard }], guard := some (15, true) }) (v := undef) rfl (by kernel_rfl) (by kernel_rfl) (by kernel_rfl) (fun _ _ _ h => h) (Or.inr ⟨by rfl, rfl⟩) (by assumption) ?_
              simp only [Act.put, List.setIfInBounds_toArray, List.set_cons_zero, List.set_cons_succ]
              refine wpAnyH_take (i := 24) (oi := { dst := some 44, op := Go.Op.pick (Go.Operand.tmp 35) (Go.Operand.tmp 43) (Go.Operand.const (Go.Value.bool false)), type := 4, pos := "l06_tiling.go:23", after := #[{ on := 15, ground := Go.Ground.data }, { on := 23, ground := Go.Ground.data }, { on := 12, ground := Go.Ground.guard }], guard := some (12, false) }) (v := ?_) rfl (by kernel_rfl) (by kernel_rfl) (by kernel_rfl) (fun _ _ _ h => h) (Or.inl ⟨by rfl, ?_⟩) (by assumption) ?_
              rotate_left 1
              · (intro wS hSw; (try dsimp only at hSw); go_simp; (all_goals with_reducible rfl))
              simp only [Act.put, List.setIfInBounds_toArray, List.set_cons_zero, List.set_cons_succ]
              refine wpAnyH_take (i := 25) (oi := { dst := some 45, op := Go.Op.pick (Go.Operand.tmp 32) (Go.Operand.const (Go.Value.bool true)) (Go.Operand.tmp 44), type := 4, pos := "l06_tiling.go:23", after := #[{ on := 12, ground := Go.Ground.data }, { on := 24, ground := Go.Ground.data }], guard := none }) (v := ?_) rfl (by kernel_rfl) (by kernel_rfl) (by kernel_rfl) (fun _ _ _ h => h) (Or.inl ⟨by rfl, ?_⟩) (by assumption) ?_
              rotate_left 1
              · (intro wS hSw; (try dsimp only at hSw); go_simp; (all_goals with_reducible rfl))
              simp only [Act.put, List.setIfInBounds_toArray, List.set_cons_zero, List.set_cons_succ]
              refine wpAnyH_done (by kernel_rfl) ?_ _
              go_wp2_with fail
              refine (domSetI_yes x y dn _ Hok2.out).mono ?_
              rintro e w9 ⟨rfl, hb9⟩
              rw [← HD.out]
              go_wp2
              go_roundw
              case rel => exact ⟨_, sDiff left D, hlt, by go_num, rfl, sDiff_lt hleft, by rw [prevOf_succ l _ hlt, ← Hdd.out]; exact HG, Lib.hid (fun e he => by rw [prevOf_succ l _ hlt, ← Hdd.out] at he; injection he with he; rw [← he]; exact Hok2.out), Bacc.tr hb9⟩
              case measure => simp [intOf]; omega
            · obtain ⟨j, rfl⟩ : ∃ j, k = j + 1 := ⟨k - 1, by omega⟩
              have hj : j < l.length := by omega
              rw [prevOf_succ l j hj] at hg
              have hpok := Hp.out l[j] (prevOf_succ l j hj)
              obtain ⟨b', off', e', hb', p1, p2, p3⟩ := (h2.below RE.stays hbel).atDom hj
              injection e' with e'; injection e' with e1 e2 e3; subst e1; subst e2
              simp only [goodPrev] at hg
              obtain ⟨dp, hdp⟩ : ∃ dp, dp = l[j] := ⟨_, rfl⟩
              rw [← hdp] at p1 p2 p3 hg hpok
              obtain ⟨px, py, pd⟩ := dp
              simp only at p1 p2 p3
              have Hpok := Lib.hid hpok; have Hdp := Lib.hid hdp; clear hpok hdp e3
              have hp1 : b < wr.heap.size + 1 := by omega
              have hwj : IntKind.i64.wrap (j : Int) = (j : Int) := IntWalk.i64_in _ (by omega)
              have hj0 : (0 : Int) ≤ (j : Int) := by omega
              have hjI : (j : Int) < (l.length : Int) := by omega
              rcases hbf : decide (domOrd (px, py, pd) < domOrd (x, y, dn)) with _ | _
              · rw [hbf] at hg
                simp only [Bool.false_and] at hg
                have HG := Lib.hid hg; have Hbf := Lib.hid hbf; clear hg hbf
                go_wp2_with fail
                refine wp_region_held_drew (S := (fun w' => w'.cell? ⟨wr.heap.size, 0, none⟩ = some (.int .i64 x) ∧ w'.cell? ⟨wr.heap.size, 1, none⟩ = some (.int .i64 y) ∧ w'.cell? ⟨wr.heap.size, 2, none⟩ = some (.bool dn) ∧ w'.cell? ⟨b, off + j * 3, none⟩ = some (.int .i64 px) ∧ w'.cell? ⟨b, off + j * 3 + 1, none⟩ = some (.int .i64 py) ∧ w'.cell? ⟨b, off + j * 3 + 2, none⟩ = some (.bool pd))) (by kernel_rfl) ?_ (fun hHeld => ?_)
                · (try dsimp only); go_keep
                refine wpAnyH_take (i := 0) (oi := { dst := some 20, op := Go.Op.load 73 (Go.Operand.tmp 7), type := 73, pos := "l06_tiling.go:23", after := #[], guard := none }) (v := ?_) rfl (by kernel_rfl) (by kernel_rfl) (by kernel_rfl) (fun _ _ _ h => h) (Or.inl ⟨by rfl, ?_⟩) (by assumption) ?_
                rotate_left 1
                · (intro wS hSw; (try dsimp only at hSw); go_simp; (all_goals with_reducible rfl))
                simp only [Act.put, List.setIfInBounds_toArray, List.set_cons_zero, List.set_cons_succ]
                refine wpAnyH_ready (rs := [1]) (by kernel_rfl) (by simp) ?_
                refine AllReadyH.cons (o := { dst := some 21, op := Go.Op.call { callee := Go.Callee.value (Go.Operand.func 139), args := #[Go.Operand.tmp 20], argTypes := #[73] }, type := 4, pos := "l06_tiling.go:23", after := #[{ on := 0, ground := Go.Ground.data }], guard := none }) rfl (fun K hK => ?_) AllReadyH.nil
                go_simp
                (first | (go_at_call 139; go_must (refine (domOkI_any x y dn _).mono ?_; rintro e wX ⟨rfl, hbX⟩; rw [Hok2.out]; obtain ⟨hcX, hfX, hzX⟩ := bkn hbX (wr.heap.size + 1) hz; have hz := hzX; have Bacc := Bacc.tr hbX); (try go_wp2_with fail)) | (go_at_call 131; go_must (refine (domSetI_yes x y dn _ Hok2.out).mono ?_; rintro e wX ⟨rfl, hbX⟩; rw [← HD.out]; obtain ⟨hcX, hfX, hzX⟩ := bkn hbX (wr.heap.size + 1) hz; have hz := hzX; have Bacc := Bacc.tr hbX); (try go_wp2_with fail)) | (go_at_call 160; go_must (refine (beforeI_yes px py pd x y dn _ Hpok.out Hok2.out).mono ?_; rintro e wX ⟨rfl, hbX⟩; rw [Hbf.out]; obtain ⟨hcX, hfX, hzX⟩ := bkn hbX (wr.heap.size + 1) hz; have hz := hzX; have Bacc := Bacc.tr hbX); (try go_wp2_with fail)))
                refine hK.out _ _ ?_ (fun hHeld => ?_)
                · (try dsimp only); go_keep
                clear hK K
                (try simp only [Act.put, List.setIfInBounds_toArray, List.set_cons_zero, List.set_cons_succ])
                refine wpAnyH_take (i := 2) (oi := { dst := some 22, op := Go.Op.unOp Go.UnOp.not 4 (Go.Operand.tmp 21), type := 4, pos := "l06_tiling.go:23", after := #[{ on := 1, ground := Go.Ground.data }], guard := none }) (v := ?_) rfl (by kernel_rfl) (by kernel_rfl) (by kernel_rfl) (fun _ _ _ h => h) (Or.inl ⟨by rfl, ?_⟩) (by assumption) ?_
                rotate_left 1
                · (intro wS hSw; (try dsimp only at hSw); go_simp; (all_goals with_reducible rfl))
                simp only [Act.put, List.setIfInBounds_toArray, List.set_cons_zero, List.set_cons_succ]
                refine wpAnyH_take (i := 3) (oi := { dst := some 23, op := Go.Op.move (Go.Operand.tmp 22), type := 4, pos := "l06_tiling.go:23", after := #[{ on := 2, ground := Go.Ground.data }, { on := 1, ground := Go.Ground.chain }], guard := none }) (v := ?_) rfl (by kernel_rfl) (by kernel_rfl) (by kernel_rfl) (fun _ _ _ h => h) (Or.inl ⟨by rfl, ?_⟩) (by assumption) ?_
                rotate_left 1
                · (intro wS hSw; (try dsimp only at hSw); go_simp; (all_goals with_reducible rfl))
                simp only [Act.put, List.setIfInBounds_toArray, List.set_cons_zero, List.set_cons_succ]
                refine wpAnyH_take (i := 4) (oi := { dst := some 24, op := Go.Op.move (Go.Operand.tmp 5), type := 120, pos := "l06_tiling.go:23", after := #[{ on := 3, ground := Go.Ground.guard }], guard := some (3, false) }) (v := ?_) rfl (by kernel_rfl) (by kernel_rfl) (by kernel_rfl) (fun _ _ _ h => h) (Or.inl ⟨by rfl, ?_⟩) (by assumption) ?_
                rotate_left 1
                · (intro wS hSw; (try dsimp only at hSw); go_simp; (all_goals with_reducible rfl))
                simp only [Act.put, List.setIfInBounds_toArray, List.set_cons_zero, List.set_cons_succ]
                refine wpAnyH_take (i := 5) (oi := { dst := some 25, op := Go.Op.load 73 (Go.Operand.tmp 7), type := 73, pos := "l06_tiling.go:23", after := #[{ on := 3, ground := Go.Ground.guard }], guard := some (3, false) }) (v := ?_) rfl (by kernel_rfl) (by kernel_rfl) (by kernel_rfl) (fun _ _ _ h => h) (Or.inl ⟨by rfl, ?_⟩) (by assumption) ?_
                rotate_left 1
                · (intro wS hSw; (try dsimp only at hSw); go_simp; (all_goals with_reducible rfl))
                simp only [Act.put, List.setIfInBounds_toArray, List.set_cons_zero, List.set_cons_succ]
                refine wpAnyH_take (i := 8) (oi := { dst := some 28, op := Go.Op.load 73 (Go.Operand.tmp 7), type := 73, pos := "l06_tiling.go:23", after := #[{ on := 3, ground := Go.Ground.guard }], guard := some (3, false) }) (v := ?_) rfl (by kernel_rfl) (by kernel_rfl) (by kernel_rfl) (fun _ _ _ h => h) (Or.inl ⟨by rfl, ?_⟩) (by assumption) ?_
                rotate_left 1
                · (intro wS hSw; (try dsimp only at hSw); go_simp; (all_goals with_reducible rfl))
                simp only [Act.put, List.setIfInBounds_toArray, List.set_cons_zero, List.set_cons_succ]
                refine wpAnyH_ready (rs := [6]) (by kernel_rfl) (by simp) ?_
                refine AllReadyH.cons (o := { dst := some 26, op := Go.Op.call { callee := Go.Callee.value (Go.Operand.func 131), args := #[Go.Operand.tmp 25], argTypes := #[73] }, type := 120, pos := "l06_tiling.go:23", after := #[{ on := 5, ground := Go.Ground.data }, { on := 3, ground := Go.Ground.chain }, { on := 3, ground := Go.Ground.guard }], guard := some (3, false) }) rfl (fun K hK => ?_) AllReadyH.nil
                go_simp
                (first | (go_at_call 139; go_must (refine (domOkI_any x y dn _).mono ?_; rintro e wX ⟨rfl, hbX⟩; rw [Hok2.out]; obtain ⟨hcX, hfX, hzX⟩ := bkn hbX (wr.heap.size + 1) hz; have hz := hzX; have Bacc := Bacc.tr hbX); (try go_wp2_with fail)) | (go_at_call 131; go_must (refine (domSetI_yes x y dn _ Hok2.out).mono ?_; rintro e wX ⟨rfl, hbX⟩; rw [← HD.out]; obtain ⟨hcX, hfX, hzX⟩ := bkn hbX (wr.heap.size + 1) hz; have hz := hzX; have Bacc := Bacc.tr hbX); (try go_wp2_with fail)) | (go_at_call 160; go_must (refine (beforeI_yes px py pd x y dn _ Hpok.out Hok2.out).mono ?_; rintro e wX ⟨rfl, hbX⟩; rw [Hbf.out]; obtain ⟨hcX, hfX, hzX⟩ := bkn hbX (wr.heap.size + 1) hz; have hz := hzX; have Bacc := Bacc.tr hbX); (try go_wp2_with fail)))
                refine hK.out _ _ ?_ (fun hHeld => ?_)
                · (try dsimp only); go_keep
                clear hK K
                (try simp only [Act.put, List.setIfInBounds_toArray, List.set_cons_zero, List.set_cons_succ])
                refine wpAnyH_take (i := 7) (oi := { dst := some 27, op := Go.Op.binOp Go.BinOp.and 120 (Go.Operand.tmp 24) (Go.Operand.tmp 26) 120, type := 120, pos := "l06_tiling.go:23", after := #[{ on := 4, ground := Go.Ground.data }, { on := 6, ground := Go.Ground.data }, { on := 3, ground := Go.Ground.guard }], guard := some (3, false) }) (v := ?_) rfl (by kernel_rfl) (by kernel_rfl) (by kernel_rfl) (fun _ _ _ h => h) (Or.inl ⟨by rfl, ?_⟩) (by assumption) ?_
                rotate_left 1
                · (intro wS hSw; (try dsimp only at hSw); go_simp; (all_goals with_reducible rfl))
                simp only [Act.put, List.setIfInBounds_toArray, List.set_cons_zero, List.set_cons_succ]
                refine wpAnyH_ready (rs := [9]) (by kernel_rfl) (by simp) ?_
                refine AllReadyH.cons (o := { dst := some 29, op := Go.Op.call { callee := Go.Callee.value (Go.Operand.func 131), args := #[Go.Operand.tmp 28], argTypes := #[73] }, type := 120, pos := "l06_tiling.go:23", after := #[{ on := 8, ground := Go.Ground.data }, { on := 6, ground := Go.Ground.chain }, { on := 3, ground := Go.Ground.guard }], guard := some (3, false) }) rfl (fun K hK => ?_) AllReadyH.nil
                go_simp
                (first | (go_at_call 139; go_must (refine (domOkI_any x y dn _).mono ?_; rintro e wX ⟨rfl, hbX⟩; rw [Hok2.out]; obtain ⟨hcX, hfX, hzX⟩ := bkn hbX (wr.heap.size + 1) hz; have hz := hzX; have Bacc := Bacc.tr hbX); (try go_wp2_with fail)) | (go_at_call 131; go_must (refine (domSetI_yes x y dn _ Hok2.out).mono ?_; rintro e wX ⟨rfl, hbX⟩; rw [← HD.out]; obtain ⟨hcX, hfX, hzX⟩ := bkn hbX (wr.heap.size + 1) hz; have hz := hzX; have Bacc := Bacc.tr hbX); (try go_wp2_with fail)) | (go_at_call 160; go_must (refine (beforeI_yes px py pd x y dn _ Hpok.out Hok2.out).mono ?_; rintro e wX ⟨rfl, hbX⟩; rw [Hbf.out]; obtain ⟨hcX, hfX, hzX⟩ := bkn hbX (wr.heap.size + 1) hz; have hz := hzX; have Bacc := Bacc.tr hbX); (try go_wp2_with fail)))
                refine hK.out _ _ ?_ (fun hHeld => ?_)
                · (try dsimp only); go_keep
                clear hK K
                (try simp only [Act.put, List.setIfInBounds_toArray, List.set_cons_zero, List.set_cons_succ])
                refine wpAnyH_take (i := 10) (oi := { dst := some 30, op := Go.Op.binOp Go.BinOp.neq 120 (Go.Operand.tmp 27) (Go.Operand.tmp 29) 120, type := 4, pos := "l06_tiling.go:23", after := #[{ on := 7, ground := Go.Ground.data }, { on := 9, ground := Go.Ground.data }, { on := 3, ground := Go.Ground.guard }], guard := some (3, false) }) (v := ?_) rfl (by kernel_rfl) (by kernel_rfl) (by kernel_rfl) (fun _ _ _ h => h) (Or.inl ⟨by rfl, ?_⟩) (by assumption) ?_
                rotate_left 1
                · (intro wS hSw; (try dsimp only at hSw); go_simp; (all_goals with_reducible rfl))
                simp only [Act.put, List.setIfInBounds_toArray, List.set_cons_zero, List.set_cons_succ]
                refine wpAnyH_take (i := 11) (oi := { dst := some 31, op := Go.Op.pick (Go.Operand.tmp 23) (Go.Operand.const (Go.Value.bool true)) (Go.Operand.tmp 30), type := 4, pos := "l06_tiling.go:23", after := #[{ on := 3, ground := Go.Ground.data }, { on := 10, ground := Go.Ground.data }], guard := none }) (v := ?_) rfl (by kernel_rfl) (by kernel_rfl) (by kernel_rfl) (fun _ _ _ h => h) (Or.inl ⟨by rfl, ?_⟩) (by assumption) ?_
                rotate_left 1
                · (intro wS hSw; (try dsimp only at hSw); go_simp; (all_goals with_reducible rfl))
                simp only [Act.put, List.setIfInBounds_toArray, List.set_cons_zero, List.set_cons_succ]
                refine wpAnyH_take (i := 12) (oi := { dst := some 32, op := Go.Op.move (Go.Operand.tmp 31), type := 4, pos := "l06_tiling.go:23", after := #[{ on := 11, ground := Go.Ground.data }, { on := 9, ground := Go.Ground.chain }], guard := none }) (v := ?_) rfl (by kernel_rfl) (by kernel_rfl) (by kernel_rfl) (fun _ _ _ h => h) (Or.inl ⟨by rfl, ?_⟩) (by assumption) ?_
                rotate_left 1
                · (intro wS hSw; (try dsimp only at hSw); go_simp; (all_goals with_reducible rfl))
                simp only [Act.put, List.setIfInBounds_toArray, List.set_cons_zero, List.set_cons_succ]
                refine wpAnyH_take (i := 13) (oi := { dst := some 33, op := Go.Op.move (Go.Operand.tmp 6), type := 3, pos := "l06_tiling.go:23", after := #[{ on := 12, ground := Go.Ground.guard }], guard := some (12, false) }) (v := ?_) rfl (by kernel_rfl) (by kernel_rfl) (by kernel_rfl) (fun _ _ _ h => h) (Or.inl ⟨by rfl, ?_⟩) (by assumption) ?_
                rotate_left 1
                · (intro wS hSw; (try dsimp only at hSw); go_simp; (all_goals with_reducible rfl))
                simp only [Act.put, List.setIfInBounds_toArray, List.set_cons_zero, List.set_cons_succ]
                refine wpAnyH_take (i := 14) (oi := { dst := some 34, op := Go.Op.binOp Go.BinOp.gtr 3 (Go.Operand.tmp 33) (Go.Operand.const (Go.Value.int Go.IntKind.i64 0)) 3, type := 4, pos := "l06_tiling.go:23", after := #[{ on := 13, ground := Go.Ground.data }, { on := 12, ground := Go.Ground.guard }], guard := some (12, false) }) (v := ?_) rfl (by kernel_rfl) (by kernel_rfl) (by kernel_rfl) (fun _ _ _ h => h) (Or.inl ⟨by rfl, ?_⟩) (by assumption) ?_
                rotate_left 1
                · (intro wS hSw; (try dsimp only at hSw); go_simp; (all_goals with_reducible rfl))
                simp only [Act.put, List.setIfInBounds_toArray, List.set_cons_zero, List.set_cons_succ]
                refine wpAnyH_take (i := 15) (oi := { dst := some 35, op := Go.Op.move (Go.Operand.tmp 34), type := 4, pos := "l06_tiling.go:23", after := #[{ on := 14, ground := Go.Ground.data }, { on := 12, ground := Go.Ground.chain }, { on := 12, ground := Go.Ground.guard }], guard := some (12, false) }) (v := ?_) rfl (by kernel_rfl) (by kernel_rfl) (by kernel_rfl) (fun _ _ _ h => h) (Or.inl ⟨by rfl, ?_⟩) (by assumption) ?_
                rotate_left 1
                · (intro wS hSw; (try dsimp only at hSw); go_simp; (all_goals with_reducible rfl))
                simp only [Act.put, List.setIfInBounds_toArray, List.set_cons_zero, List.set_cons_succ]
                refine wpAnyH_take (i := 16) (oi := { dst := some 36, op := Go.Op.move (Go.Operand.tmp 1), type := 37, pos := "l06_tiling.go:23", after := #[{ on := 15, ground := Go.Ground.guard }], guard := some (15, true) }) (v := ?_) rfl (by kernel_rfl) (by kernel_rfl) (by kernel_rfl) (fun _ _ _ h => h) (Or.inl ⟨by rfl, ?_⟩) (by assumption) ?_
                rotate_left 1
                · (intro wS hSw; (try dsimp only at hSw); go_simp; (all_goals with_reducible rfl))
                simp only [Act.put, List.setIfInBounds_toArray, List.set_cons_zero, List.set_cons_succ]
                refine wpAnyH_take (i := 17) (oi := { dst := some 37, op := Go.Op.move (Go.Operand.tmp 6), type := 3, pos := "l06_tiling.go:23", after := #[{ on := 15, ground := Go.Ground.guard }], guard := some (15, true) }) (v := ?_) rfl (by kernel_rfl) (by kernel_rfl) (by kernel_rfl) (fun _ _ _ h => h) (Or.inl ⟨by rfl, ?_⟩) (by assumption) ?_
                rotate_left 1
                · (intro wS hSw; (try dsimp only at hSw); go_simp; (all_goals with_reducible rfl))
                simp only [Act.put, List.setIfInBounds_toArray, List.set_cons_zero, List.set_cons_succ]
                refine wpAnyH_take (i := 18) (oi := { dst := some 38, op := Go.Op.binOp Go.BinOp.sub 3 (Go.Operand.tmp 37) (Go.Operand.const (Go.Value.int Go.IntKind.i64 1)) 3, type := 3, pos := "l06_tiling.go:23", after := #[{ on := 17, ground := Go.Ground.data }, { on := 15, ground := Go.Ground.guard }], guard := some (15, true) }) (v := ?_) rfl (by kernel_rfl) (by kernel_rfl) (by kernel_rfl) (fun _ _ _ h => h) (Or.inl ⟨by rfl, ?_⟩) (by assumption) ?_
                rotate_left 1
                · (intro wS hSw; (try dsimp only at hSw); go_simp; (all_goals with_reducible rfl))
                simp only [Act.put, List.setIfInBounds_toArray, List.set_cons_zero, List.set_cons_succ]
                refine wpAnyH_take (i := 19) (oi := { dst := some 39, op := Go.Op.indexAddr 37 (Go.Operand.tmp 36) (Go.Operand.tmp 38), type := 0, pos := "l06_tiling.go:23", after := #[{ on := 16, ground := Go.Ground.data }, { on := 18, ground := Go.Ground.data }, { on := 15, ground := Go.Ground.guard }], guard := some (15, true) }) (v := ?_) rfl (by kernel_rfl) (by kernel_rfl) (by kernel_rfl) (fun _ _ _ h => h) (Or.inl ⟨by rfl, ?_⟩) (by assumption) ?_
                rotate_left 1
                · (intro wS hSw; (try dsimp only at hSw); go_simp; (all_goals with_reducible rfl))
                simp only [Act.put, List.setIfInBounds_toArray, List.set_cons_zero, List.set_cons_succ]
                refine wpAnyH_take (i := 20) (oi := { dst := some 40, op := Go.Op.load 73 (Go.Operand.tmp 39), type := 73, pos := "l06_tiling.go:23", after := #[{ on := 19, ground := Go.Ground.data }, { on := 15, ground := Go.Ground.guard }], guard := some (15, true) }) (v := ?_) rfl (by kernel_rfl) (by kernel_rfl) (by kernel_rfl) (fun _ _ _ h => h) (Or.inl ⟨by rfl, ?_⟩) (by assumption) ?_
                rotate_left 1
                · (intro wS hSw; (try dsimp only at hSw); go_simp; (all_goals with_reducible rfl))
                simp only [Act.put, List.setIfInBounds_toArray, List.set_cons_zero, List.set_cons_succ]
                refine wpAnyH_take (i := 21) (oi := { dst := some 41, op := Go.Op.load 73 (Go.Operand.tmp 7), type := 73, pos := "l06_tiling.go:23", after := #[{ on := 15, ground := Go.Ground.guard }], guard := some (15, true) }) (v := ?_) rfl (by kernel_rfl) (by kernel_rfl) (by kernel_rfl) (fun _ _ _ h => h) (Or.inl ⟨by rfl, ?_⟩) (by assumption) ?_
                rotate_left 1
                · (intro wS hSw; (try dsimp only at hSw); go_simp; (all_goals with_reducible rfl))
                simp only [Act.put, List.setIfInBounds_toArray, List.set_cons_zero, List.set_cons_succ]
                refine wpAnyH_ready (rs := [22]) (by kernel_rfl) (by simp) ?_
                refine AllReadyH.cons (o := { dst := some 42, op := Go.Op.call { callee := Go.Callee.value (Go.Operand.func 160), args := #[Go.Operand.tmp 40, Go.Operand.tmp 41], argTypes := #[73, 73] }, type := 4, pos := "l06_tiling.go:23", after := #[{ on := 20, ground := Go.Ground.data }, { on := 21, ground := Go.Ground.data }, { on := 15, ground := Go.Ground.chain }, { on := 15, ground := Go.Ground.guard }], guard := some (15, true) }) rfl (fun K hK => ?_) AllReadyH.nil
                go_simp
                (first | (go_at_call 139; go_must (refine (domOkI_any x y dn _).mono ?_; rintro e wX ⟨rfl, hbX⟩; rw [Hok2.out]; obtain ⟨hcX, hfX, hzX⟩ := bkn hbX (wr.heap.size + 1) hz; have hz := hzX; have Bacc := Bacc.tr hbX); (try go_wp2_with fail)) | (go_at_call 131; go_must (refine (domSetI_yes x y dn _ Hok2.out).mono ?_; rintro e wX ⟨rfl, hbX⟩; rw [← HD.out]; obtain ⟨hcX, hfX, hzX⟩ := bkn hbX (wr.heap.size + 1) hz; have hz := hzX; have Bacc := Bacc.tr hbX); (try go_wp2_with fail)) | (go_at_call 160; go_must (refine (beforeI_yes px py pd x y dn _ Hpok.out Hok2.out).mono ?_; rintro e wX ⟨rfl, hbX⟩; rw [Hbf.out]; obtain ⟨hcX, hfX, hzX⟩ := bkn hbX (wr.heap.size + 1) hz; have hz := hzX; have Bacc := Bacc.tr hbX); (try go_wp2_with fail)))
                refine hK.out _ _ ?_ (fun hHeld => ?_)
                · (try dsimp only); go_keep
                clear hK K
                (try simp only [Act.put, List.setIfInBounds_toArray, List.set_cons_zero, List.set_cons_succ])
                refine wpAnyH_take (i := 23) (oi := { dst := some 43, op := Go.Op.unOp Go.UnOp.not 4 (Go.Operand.tmp 42), type := 4, pos := "l06_tiling.go:23", after := #[{ on := 22, ground := Go.Ground.data }, { on := 15, ground := Go.Ground.guard }], guard := some (15, true) }) (v := ?_) rfl (by kernel_rfl) (by kernel_rfl) (by kernel_rfl) (fun _ _ _ h => h) (Or.inl ⟨by rfl, ?_⟩) (by assumption) ?_
                rotate_left 1
                · (intro wS hSw; (try dsimp only at hSw); go_simp; (all_goals with_reducible rfl))
                simp only [Act.put, List.setIfInBounds_toArray, List.set_cons_zero, List.set_cons_succ]
                refine wpAnyH_take (i := 24) (oi := { dst := some 44, op := Go.Op.pick (Go.Operand.tmp 35) (Go.Operand.tmp 43) (Go.Operand.const (Go.Value.bool false)), type := 4, pos := "l06_tiling.go:23", after := #[{ on := 15, ground := Go.Ground.data }, { on := 23, ground := Go.Ground.data }, { on := 12, ground := Go.Ground.guard }], guard := some (12, false) }) (v := ?_) rfl (by kernel_rfl) (by kernel_rfl) (by kernel_rfl) (fun _ _ _ h => h) (Or.inl ⟨by rfl, ?_⟩) (by assumption) ?_
                rotate_left 1
                · (intro wS hSw; (try dsimp only at hSw); go_simp; (all_goals with_reducible rfl))
                simp only [Act.put, List.setIfInBounds_toArray, List.set_cons_zero, List.set_cons_succ]
                refine wpAnyH_take (i := 25) (oi := { dst := some 45, op := Go.Op.pick (Go.Operand.tmp 32) (Go.Operand.const (Go.Value.bool true)) (Go.Operand.tmp 44), type := 4, pos := "l06_tiling.go:23", after := #[{ on := 12, ground := Go.Ground.data }, { on := 24, ground := Go.Ground.data }], guard := none }) (v := ?_) rfl (by kernel_rfl) (by kernel_rfl) (by kernel_rfl) (fun _ _ _ h => h) (Or.inl ⟨by rfl, ?_⟩) (by assumption) ?_
                rotate_left 1
                · (intro wS hSw; (try dsimp only at hSw); go_simp; (all_goals with_reducible rfl))
                simp only [Act.put, List.setIfInBounds_toArray, List.set_cons_zero, List.set_cons_succ]
                refine wpAnyH_done (by kernel_rfl) ?_ _
                all_goals
                  go_wp2
                  go_ret
                  exact ⟨retB (by have := HG.out; rw [Hse.out] at this; exact this), Bacc⟩
              · rw [hbf] at hg
                simp only [Bool.true_and] at hg
                have HG := Lib.hid hg; have Hbf := Lib.hid hbf; clear hg hbf
                go_wp2_with fail
                refine wp_region_held_drew (S := (fun w' => w'.cell? ⟨wr.heap.size, 0, none⟩ = some (.int .i64 x) ∧ w'.cell? ⟨wr.heap.size, 1, none⟩ = some (.int .i64 y) ∧ w'.cell? ⟨wr.heap.size, 2, none⟩ = some (.bool dn) ∧ w'.cell? ⟨b, off + j * 3, none⟩ = some (.int .i64 px) ∧ w'.cell? ⟨b, off + j * 3 + 1, none⟩ = some (.int .i64 py) ∧ w'.cell? ⟨b, off + j * 3 + 2, none⟩ = some (.bool pd))) (by kernel_rfl) ?_ (fun hHeld => ?_)
                · (try dsimp only); go_keep
                refine wpAnyH_take (i := 0) (oi := { dst := some 20, op := Go.Op.load 73 (Go.Operand.tmp 7), type := 73, pos := "l06_tiling.go:23", after := #[], guard := none }) (v := ?_) rfl (by kernel_rfl) (by kernel_rfl) (by kernel_rfl) (fun _ _ _ h => h) (Or.inl ⟨by rfl, ?_⟩) (by assumption) ?_
                rotate_left 1
                · (intro wS hSw; (try dsimp only at hSw); go_simp; (all_goals with_reducible rfl))
                simp only [Act.put, List.setIfInBounds_toArray, List.set_cons_zero, List.set_cons_succ]
                refine wpAnyH_ready (rs := [1]) (by kernel_rfl) (by simp) ?_
                refine AllReadyH.cons (o := { dst := some 21, op := Go.Op.call { callee := Go.Callee.value (Go.Operand.func 139), args := #[Go.Operand.tmp 20], argTypes := #[73] }, type := 4, pos := "l06_tiling.go:23", after := #[{ on := 0, ground := Go.Ground.data }], guard := none }) rfl (fun K hK => ?_) AllReadyH.nil
                go_simp
                (first | (go_at_call 139; go_must (refine (domOkI_any x y dn _).mono ?_; rintro e wX ⟨rfl, hbX⟩; rw [Hok2.out]; obtain ⟨hcX, hfX, hzX⟩ := bkn hbX (wr.heap.size + 1) hz; have hz := hzX; have Bacc := Bacc.tr hbX); (try go_wp2_with fail)) | (go_at_call 131; go_must (refine (domSetI_yes x y dn _ Hok2.out).mono ?_; rintro e wX ⟨rfl, hbX⟩; rw [← HD.out]; obtain ⟨hcX, hfX, hzX⟩ := bkn hbX (wr.heap.size + 1) hz; have hz := hzX; have Bacc := Bacc.tr hbX); (try go_wp2_with fail)) | (go_at_call 160; go_must (refine (beforeI_yes px py pd x y dn _ Hpok.out Hok2.out).mono ?_; rintro e wX ⟨rfl, hbX⟩; rw [Hbf.out]; obtain ⟨hcX, hfX, hzX⟩ := bkn hbX (wr.heap.size + 1) hz; have hz := hzX; have Bacc := Bacc.tr hbX); (try go_wp2_with fail)))
                refine hK.out _ _ ?_ (fun hHeld => ?_)
                · (try dsimp only); go_keep
                clear hK K
                (try simp only [Act.put, List.setIfInBounds_toArray, List.set_cons_zero, List.set_cons_succ])
                refine wpAnyH_take (i := 2) (oi := { dst := some 22, op := Go.Op.unOp Go.UnOp.not 4 (Go.Operand.tmp 21), type := 4, pos := "l06_tiling.go:23", after := #[{ on := 1, ground := Go.Ground.data }], guard := none }) (v := ?_) rfl (by kernel_rfl) (by kernel_rfl) (by kernel_rfl) (fun _ _ _ h => h) (Or.inl ⟨by rfl, ?_⟩) (by assumption) ?_
                rotate_left 1
                · (intro wS hSw; (try dsimp only at hSw); go_simp; (all_goals with_reducible rfl))
                simp only [Act.put, List.setIfInBounds_toArray, List.set_cons_zero, List.set_cons_succ]
                refine wpAnyH_take (i := 3) (oi := { dst := some 23, op := Go.Op.move (Go.Operand.tmp 22), type := 4, pos := "l06_tiling.go:23", after := #[{ on := 2, ground := Go.Ground.data }, { on := 1, ground := Go.Ground.chain }], guard := none }) (v := ?_) rfl (by kernel_rfl) (by kernel_rfl) (by kernel_rfl) (fun _ _ _ h => h) (Or.inl ⟨by rfl, ?_⟩) (by assumption) ?_
                rotate_left 1
                · (intro wS hSw; (try dsimp only at hSw); go_simp; (all_goals with_reducible rfl))
                simp only [Act.put, List.setIfInBounds_toArray, List.set_cons_zero, List.set_cons_succ]
                refine wpAnyH_take (i := 4) (oi := { dst := some 24, op := Go.Op.move (Go.Operand.tmp 5), type := 120, pos := "l06_tiling.go:23", after := #[{ on := 3, ground := Go.Ground.guard }], guard := some (3, false) }) (v := ?_) rfl (by kernel_rfl) (by kernel_rfl) (by kernel_rfl) (fun _ _ _ h => h) (Or.inl ⟨by rfl, ?_⟩) (by assumption) ?_
                rotate_left 1
                · (intro wS hSw; (try dsimp only at hSw); go_simp; (all_goals with_reducible rfl))
                simp only [Act.put, List.setIfInBounds_toArray, List.set_cons_zero, List.set_cons_succ]
                refine wpAnyH_take (i := 5) (oi := { dst := some 25, op := Go.Op.load 73 (Go.Operand.tmp 7), type := 73, pos := "l06_tiling.go:23", after := #[{ on := 3, ground := Go.Ground.guard }], guard := some (3, false) }) (v := ?_) rfl (by kernel_rfl) (by kernel_rfl) (by kernel_rfl) (fun _ _ _ h => h) (Or.inl ⟨by rfl, ?_⟩) (by assumption) ?_
                rotate_left 1
                · (intro wS hSw; (try dsimp only at hSw); go_simp; (all_goals with_reducible rfl))
                simp only [Act.put, List.setIfInBounds_toArray, List.set_cons_zero, List.set_cons_succ]
                refine wpAnyH_take (i := 8) (oi := { dst := some 28, op := Go.Op.load 73 (Go.Operand.tmp 7), type := 73, pos := "l06_tiling.go:23", after := #[{ on := 3, ground := Go.Ground.guard }], guard := some (3, false) }) (v := ?_) rfl (by kernel_rfl) (by kernel_rfl) (by kernel_rfl) (fun _ _ _ h => h) (Or.inl ⟨by rfl, ?_⟩) (by assumption) ?_
                rotate_left 1
                · (intro wS hSw; (try dsimp only at hSw); go_simp; (all_goals with_reducible rfl))
                simp only [Act.put, List.setIfInBounds_toArray, List.set_cons_zero, List.set_cons_succ]
                refine wpAnyH_ready (rs := [6]) (by kernel_rfl) (by simp) ?_
                refine AllReadyH.cons (o := { dst := some 26, op := Go.Op.call { callee := Go.Callee.value (Go.Operand.func 131), args := #[Go.Operand.tmp 25], argTypes := #[73] }, type := 120, pos := "l06_tiling.go:23", after := #[{ on := 5, ground := Go.Ground.data }, { on := 3, ground := Go.Ground.chain }, { on := 3, ground := Go.Ground.guard }], guard := some (3, false) }) rfl (fun K hK => ?_) AllReadyH.nil
                go_simp
                (first | (go_at_call 139; go_must (refine (domOkI_any x y dn _).mono ?_; rintro e wX ⟨rfl, hbX⟩; rw [Hok2.out]; obtain ⟨hcX, hfX, hzX⟩ := bkn hbX (wr.heap.size + 1) hz; have hz := hzX; have Bacc := Bacc.tr hbX); (try go_wp2_with fail)) | (go_at_call 131; go_must (refine (domSetI_yes x y dn _ Hok2.out).mono ?_; rintro e wX ⟨rfl, hbX⟩; rw [← HD.out]; obtain ⟨hcX, hfX, hzX⟩ := bkn hbX (wr.heap.size + 1) hz; have hz := hzX; have Bacc := Bacc.tr hbX); (try go_wp2_with fail)) | (go_at_call 160; go_must (refine (beforeI_yes px py pd x y dn _ Hpok.out Hok2.out).mono ?_; rintro e wX ⟨rfl, hbX⟩; rw [Hbf.out]; obtain ⟨hcX, hfX, hzX⟩ := bkn hbX (wr.heap.size + 1) hz; have hz := hzX; have Bacc := Bacc.tr hbX); (try go_wp2_with fail)))
                refine hK.out _ _ ?_ (fun hHeld => ?_)
                · (try dsimp only); go_keep
                clear hK K
                (try simp only [Act.put, List.setIfInBounds_toArray, List.set_cons_zero, List.set_cons_succ])
                refine wpAnyH_take (i := 7) (oi := { dst := some 27, op := Go.Op.binOp Go.BinOp.and 120 (Go.Operand.tmp 24) (Go.Operand.tmp 26) 120, type := 120, pos := "l06_tiling.go:23", after := #[{ on := 4, ground := Go.Ground.data }, { on := 6, ground := Go.Ground.data }, { on := 3, ground := Go.Ground.guard }], guard := some (3, false) }) (v := ?_) rfl (by kernel_rfl) (by kernel_rfl) (by kernel_rfl) (fun _ _ _ h => h) (Or.inl ⟨by rfl, ?_⟩) (by assumption) ?_
                rotate_left 1
                · (intro wS hSw; (try dsimp only at hSw); go_simp; (all_goals with_reducible rfl))
                simp only [Act.put, List.setIfInBounds_toArray, List.set_cons_zero, List.set_cons_succ]
                refine wpAnyH_ready (rs := [9]) (by kernel_rfl) (by simp) ?_
                refine AllReadyH.cons (o := { dst := some 29, op := Go.Op.call { callee := Go.Callee.value (Go.Operand.func 131), args := #[Go.Operand.tmp 28], argTypes := #[73] }, type := 120, pos := "l06_tiling.go:23", after := #[{ on := 8, ground := Go.Ground.data }, { on := 6, ground := Go.Ground.chain }, { on := 3, ground := Go.Ground.guard }], guard := some (3, false) }) rfl (fun K hK => ?_) AllReadyH.nil
                go_simp
                (first | (go_at_call 139; go_must (refine (domOkI_any x y dn _).mono ?_; rintro e wX ⟨rfl, hbX⟩; rw [Hok2.out]; obtain ⟨hcX, hfX, hzX⟩ := bkn hbX (wr.heap.size + 1) hz; have hz := hzX; have Bacc := Bacc.tr hbX); (try go_wp2_with fail)) | (go_at_call 131; go_must (refine (domSetI_yes x y dn _ Hok2.out).mono ?_; rintro e wX ⟨rfl, hbX⟩; rw [← HD.out]; obtain ⟨hcX, hfX, hzX⟩ := bkn hbX (wr.heap.size + 1) hz; have hz := hzX; have Bacc := Bacc.tr hbX); (try go_wp2_with fail)) | (go_at_call 160; go_must (refine (beforeI_yes px py pd x y dn _ Hpok.out Hok2.out).mono ?_; rintro e wX ⟨rfl, hbX⟩; rw [Hbf.out]; obtain ⟨hcX, hfX, hzX⟩ := bkn hbX (wr.heap.size + 1) hz; have hz := hzX; have Bacc := Bacc.tr hbX); (try go_wp2_with fail)))
                refine hK.out _ _ ?_ (fun hHeld => ?_)
                · (try dsimp only); go_keep
                clear hK K
                (try simp only [Act.put, List.setIfInBounds_toArray, List.set_cons_zero, List.set_cons_succ])
                refine wpAnyH_take (i := 10) (oi := { dst := some 30, op := Go.Op.binOp Go.BinOp.neq 120 (Go.Operand.tmp 27) (Go.Operand.tmp 29) 120, type := 4, pos := "l06_tiling.go:23", after := #[{ on := 7, ground := Go.Ground.data }, { on := 9, ground := Go.Ground.data }, { on := 3, ground := Go.Ground.guard }], guard := some (3, false) }) (v := ?_) rfl (by kernel_rfl) (by kernel_rfl) (by kernel_rfl) (fun _ _ _ h => h) (Or.inl ⟨by rfl, ?_⟩) (by assumption) ?_
                rotate_left 1
                · (intro wS hSw; (try dsimp only at hSw); go_simp; (all_goals with_reducible rfl))
                simp only [Act.put, List.setIfInBounds_toArray, List.set_cons_zero, List.set_cons_succ]
                refine wpAnyH_take (i := 11) (oi := { dst := some 31, op := Go.Op.pick (Go.Operand.tmp 23) (Go.Operand.const (Go.Value.bool true)) (Go.Operand.tmp 30), type := 4, pos := "l06_tiling.go:23", after := #[{ on := 3, ground := Go.Ground.data }, { on := 10, ground := Go.Ground.data }], guard := none }) (v := ?_) rfl (by kernel_rfl) (by kernel_rfl) (by kernel_rfl) (fun _ _ _ h => h) (Or.inl ⟨by rfl, ?_⟩) (by assumption) ?_
                rotate_left 1
                · (intro wS hSw; (try dsimp only at hSw); go_simp; (all_goals with_reducible rfl))
                simp only [Act.put, List.setIfInBounds_toArray, List.set_cons_zero, List.set_cons_succ]
                refine wpAnyH_take (i := 12) (oi := { dst := some 32, op := Go.Op.move (Go.Operand.tmp 31), type := 4, pos := "l06_tiling.go:23", after := #[{ on := 11, ground := Go.Ground.data }, { on := 9, ground := Go.Ground.chain }], guard := none }) (v := ?_) rfl (by kernel_rfl) (by kernel_rfl) (by kernel_rfl) (fun _ _ _ h => h) (Or.inl ⟨by rfl, ?_⟩) (by assumption) ?_
                rotate_left 1
                · (intro wS hSw; (try dsimp only at hSw); go_simp; (all_goals with_reducible rfl))
                simp only [Act.put, List.setIfInBounds_toArray, List.set_cons_zero, List.set_cons_succ]
                refine wpAnyH_take (i := 13) (oi := { dst := some 33, op := Go.Op.move (Go.Operand.tmp 6), type := 3, pos := "l06_tiling.go:23", after := #[{ on := 12, ground := Go.Ground.guard }], guard := some (12, false) }) (v := ?_) rfl (by kernel_rfl) (by kernel_rfl) (by kernel_rfl) (fun _ _ _ h => h) (Or.inl ⟨by rfl, ?_⟩) (by assumption) ?_
                rotate_left 1
                · (intro wS hSw; (try dsimp only at hSw); go_simp; (all_goals with_reducible rfl))
                simp only [Act.put, List.setIfInBounds_toArray, List.set_cons_zero, List.set_cons_succ]
                refine wpAnyH_take (i := 14) (oi := { dst := some 34, op := Go.Op.binOp Go.BinOp.gtr 3 (Go.Operand.tmp 33) (Go.Operand.const (Go.Value.int Go.IntKind.i64 0)) 3, type := 4, pos := "l06_tiling.go:23", after := #[{ on := 13, ground := Go.Ground.data }, { on := 12, ground := Go.Ground.guard }], guard := some (12, false) }) (v := ?_) rfl (by kernel_rfl) (by kernel_rfl) (by kernel_rfl) (fun _ _ _ h => h) (Or.inl ⟨by rfl, ?_⟩) (by assumption) ?_
                rotate_left 1
                · (intro wS hSw; (try dsimp only at hSw); go_simp; (all_goals with_reducible rfl))
                simp only [Act.put, List.setIfInBounds_toArray, List.set_cons_zero, List.set_cons_succ]
                refine wpAnyH_take (i := 15) (oi := { dst := some 35, op := Go.Op.move (Go.Operand.tmp 34), type := 4, pos := "l06_tiling.go:23", after := #[{ on := 14, ground := Go.Ground.data }, { on := 12, ground := Go.Ground.chain }, { on := 12, ground := Go.Ground.guard }], guard := some (12, false) }) (v := ?_) rfl (by kernel_rfl) (by kernel_rfl) (by kernel_rfl) (fun _ _ _ h => h) (Or.inl ⟨by rfl, ?_⟩) (by assumption) ?_
                rotate_left 1
                · (intro wS hSw; (try dsimp only at hSw); go_simp; (all_goals with_reducible rfl))
                simp only [Act.put, List.setIfInBounds_toArray, List.set_cons_zero, List.set_cons_succ]
                refine wpAnyH_take (i := 16) (oi := { dst := some 36, op := Go.Op.move (Go.Operand.tmp 1), type := 37, pos := "l06_tiling.go:23", after := #[{ on := 15, ground := Go.Ground.guard }], guard := some (15, true) }) (v := ?_) rfl (by kernel_rfl) (by kernel_rfl) (by kernel_rfl) (fun _ _ _ h => h) (Or.inl ⟨by rfl, ?_⟩) (by assumption) ?_
                rotate_left 1
                · (intro wS hSw; (try dsimp only at hSw); go_simp; (all_goals with_reducible rfl))
                simp only [Act.put, List.setIfInBounds_toArray, List.set_cons_zero, List.set_cons_succ]
                refine wpAnyH_take (i := 17) (oi := { dst := some 37, op := Go.Op.move (Go.Operand.tmp 6), type := 3, pos := "l06_tiling.go:23", after := #[{ on := 15, ground := Go.Ground.guard }], guard := some (15, true) }) (v := ?_) rfl (by kernel_rfl) (by kernel_rfl) (by kernel_rfl) (fun _ _ _ h => h) (Or.inl ⟨by rfl, ?_⟩) (by assumption) ?_
                rotate_left 1
                · (intro wS hSw; (try dsimp only at hSw); go_simp; (all_goals with_reducible rfl))
                simp only [Act.put, List.setIfInBounds_toArray, List.set_cons_zero, List.set_cons_succ]
                refine wpAnyH_take (i := 18) (oi := { dst := some 38, op := Go.Op.binOp Go.BinOp.sub 3 (Go.Operand.tmp 37) (Go.Operand.const (Go.Value.int Go.IntKind.i64 1)) 3, type := 3, pos := "l06_tiling.go:23", after := #[{ on := 17, ground := Go.Ground.data }, { on := 15, ground := Go.Ground.guard }], guard := some (15, true) }) (v := ?_) rfl (by kernel_rfl) (by kernel_rfl) (by kernel_rfl) (fun _ _ _ h => h) (Or.inl ⟨by rfl, ?_⟩) (by assumption) ?_
                rotate_left 1
                · (intro wS hSw; (try dsimp only at hSw); go_simp; (all_goals with_reducible rfl))
                simp only [Act.put, List.setIfInBounds_toArray, List.set_cons_zero, List.set_cons_succ]
                refine wpAnyH_take (i := 19) (oi := { dst := some 39, op := Go.Op.indexAddr 37 (Go.Operand.tmp 36) (Go.Operand.tmp 38), type := 0, pos := "l06_tiling.go:23", after := #[{ on := 16, ground := Go.Ground.data }, { on := 18, ground := Go.Ground.data }, { on := 15, ground := Go.Ground.guard }], guard := some (15, true) }) (v := ?_) rfl (by kernel_rfl) (by kernel_rfl) (by kernel_rfl) (fun _ _ _ h => h) (Or.inl ⟨by rfl, ?_⟩) (by assumption) ?_
                rotate_left 1
                · (intro wS hSw; (try dsimp only at hSw); go_simp; (all_goals with_reducible rfl))
                simp only [Act.put, List.setIfInBounds_toArray, List.set_cons_zero, List.set_cons_succ]
                refine wpAnyH_take (i := 20) (oi := { dst := some 40, op := Go.Op.load 73 (Go.Operand.tmp 39), type := 73, pos := "l06_tiling.go:23", after := #[{ on := 19, ground := Go.Ground.data }, { on := 15, ground := Go.Ground.guard }], guard := some (15, true) }) (v := ?_) rfl (by kernel_rfl) (by kernel_rfl) (by kernel_rfl) (fun _ _ _ h => h) (Or.inl ⟨by rfl, ?_⟩) (by assumption) ?_
                rotate_left 1
                · (intro wS hSw; (try dsimp only at hSw); go_simp; (all_goals with_reducible rfl))
                simp only [Act.put, List.setIfInBounds_toArray, List.set_cons_zero, List.set_cons_succ]
                refine wpAnyH_take (i := 21) (oi := { dst := some 41, op := Go.Op.load 73 (Go.Operand.tmp 7), type := 73, pos := "l06_tiling.go:23", after := #[{ on := 15, ground := Go.Ground.guard }], guard := some (15, true) }) (v := ?_) rfl (by kernel_rfl) (by kernel_rfl) (by kernel_rfl) (fun _ _ _ h => h) (Or.inl ⟨by rfl, ?_⟩) (by assumption) ?_
                rotate_left 1
                · (intro wS hSw; (try dsimp only at hSw); go_simp; (all_goals with_reducible rfl))
                simp only [Act.put, List.setIfInBounds_toArray, List.set_cons_zero, List.set_cons_succ]
                refine wpAnyH_ready (rs := [22]) (by kernel_rfl) (by simp) ?_
                refine AllReadyH.cons (o := { dst := some 42, op := Go.Op.call { callee := Go.Callee.value (Go.Operand.func 160), args := #[Go.Operand.tmp 40, Go.Operand.tmp 41], argTypes := #[73, 73] }, type := 4, pos := "l06_tiling.go:23", after := #[{ on := 20, ground := Go.Ground.data }, { on := 21, ground := Go.Ground.data }, { on := 15, ground := Go.Ground.chain }, { on := 15, ground := Go.Ground.guard }], guard := some (15, true) }) rfl (fun K hK => ?_) AllReadyH.nil
                go_simp
                (first | (go_at_call 139; go_must (refine (domOkI_any x y dn _).mono ?_; rintro e wX ⟨rfl, hbX⟩; rw [Hok2.out]; obtain ⟨hcX, hfX, hzX⟩ := bkn hbX (wr.heap.size + 1) hz; have hz := hzX; have Bacc := Bacc.tr hbX); (try go_wp2_with fail)) | (go_at_call 131; go_must (refine (domSetI_yes x y dn _ Hok2.out).mono ?_; rintro e wX ⟨rfl, hbX⟩; rw [← HD.out]; obtain ⟨hcX, hfX, hzX⟩ := bkn hbX (wr.heap.size + 1) hz; have hz := hzX; have Bacc := Bacc.tr hbX); (try go_wp2_with fail)) | (go_at_call 160; go_must (refine (beforeI_yes px py pd x y dn _ Hpok.out Hok2.out).mono ?_; rintro e wX ⟨rfl, hbX⟩; rw [Hbf.out]; obtain ⟨hcX, hfX, hzX⟩ := bkn hbX (wr.heap.size + 1) hz; have hz := hzX; have Bacc := Bacc.tr hbX); (try go_wp2_with fail)))
                refine hK.out _ _ ?_ (fun hHeld => ?_)
                · (try dsimp only); go_keep
                clear hK K
                (try simp only [Act.put, List.setIfInBounds_toArray, List.set_cons_zero, List.set_cons_succ])
                refine wpAnyH_take (i := 23) (oi := { dst := some 43, op := Go.Op.unOp Go.UnOp.not 4 (Go.Operand.tmp 42), type := 4, pos := "l06_tiling.go:23", after := #[{ on := 22, ground := Go.Ground.data }, { on := 15, ground := Go.Ground.guard }], guard := some (15, true) }) (v := ?_) rfl (by kernel_rfl) (by kernel_rfl) (by kernel_rfl) (fun _ _ _ h => h) (Or.inl ⟨by rfl, ?_⟩) (by assumption) ?_
                rotate_left 1
                · (intro wS hSw; (try dsimp only at hSw); go_simp; (all_goals with_reducible rfl))
                simp only [Act.put, List.setIfInBounds_toArray, List.set_cons_zero, List.set_cons_succ]
                refine wpAnyH_take (i := 24) (oi := { dst := some 44, op := Go.Op.pick (Go.Operand.tmp 35) (Go.Operand.tmp 43) (Go.Operand.const (Go.Value.bool false)), type := 4, pos := "l06_tiling.go:23", after := #[{ on := 15, ground := Go.Ground.data }, { on := 23, ground := Go.Ground.data }, { on := 12, ground := Go.Ground.guard }], guard := some (12, false) }) (v := ?_) rfl (by kernel_rfl) (by kernel_rfl) (by kernel_rfl) (fun _ _ _ h => h) (Or.inl ⟨by rfl, ?_⟩) (by assumption) ?_
                rotate_left 1
                · (intro wS hSw; (try dsimp only at hSw); go_simp; (all_goals with_reducible rfl))
                simp only [Act.put, List.setIfInBounds_toArray, List.set_cons_zero, List.set_cons_succ]
                refine wpAnyH_take (i := 25) (oi := { dst := some 45, op := Go.Op.pick (Go.Operand.tmp 32) (Go.Operand.const (Go.Value.bool true)) (Go.Operand.tmp 44), type := 4, pos := "l06_tiling.go:23", after := #[{ on := 12, ground := Go.Ground.data }, { on := 24, ground := Go.Ground.data }], guard := none }) (v := ?_) rfl (by kernel_rfl) (by kernel_rfl) (by kernel_rfl) (fun _ _ _ h => h) (Or.inl ⟨by rfl, ?_⟩) (by assumption) ?_
                rotate_left 1
                · (intro wS hSw; (try dsimp only at hSw); go_simp; (all_goals with_reducible rfl))
                simp only [Act.put, List.setIfInBounds_toArray, List.set_cons_zero, List.set_cons_succ]
                refine wpAnyH_done (by kernel_rfl) ?_ _
                go_wp2_with fail
                refine (domSetI_yes x y dn _ Hok2.out).mono ?_
                rintro e w9 ⟨rfl, hb9⟩
                rw [← HD.out]
                go_wp2
                go_roundw
                case rel => exact ⟨_, sDiff left D, hlt, by go_num, rfl, sDiff_lt hleft, by rw [prevOf_succ l _ hlt, ← Hdd.out]; exact HG, Lib.hid (fun e he => by rw [prevOf_succ l _ hlt, ← Hdd.out] at he; injection he with he; rw [← he]; exact Hok2.out), Bacc.tr hb9⟩
                case measure => simp [intOf]; omega
      · obtain rfl : k = l.length := by omega
        have hg := Hg.out
        rw [List.drop_of_length_le (Nat.le_refl _)] at hg
        have HG := Lib.hid hg; clear hg
        go_wp2
        go_ret
        exact ⟨retB (by have := HG.out; rw [Hse.out] at this; exact this), hbel⟩
end Go.Proofs.Ytkbndchgmokabaa
