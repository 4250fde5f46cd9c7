/- IsPartial of the reference: the walk. No conditions but sizes. -/
import Derived.Test.YtkbndchgmokabaaPartS2
namespace Go.Proofs.Ytkbndchgmokabaa
open Go.ChangeShapes Go.WideShapes Go.ChangeAt Go.RowKit
set_option linter.unusedVariables false
set_option linter.unusedSimpArgs false

theorem lenBool : ∀ x : Bool, (eBool x).length = 1 := fun _ => rfl
theorem rowBool : Row Try.prog 167 4 (.bool false) 1 1 := ⟨Try.underlying167, by kernel_rfl, rfl, by decide⟩
theorem cellIndexS_nat (x y : Int) (I : Nat) (w : World) (hc : cellOk (x, y) = true) (hI : I = (cellIx (x, y)).toNat) : Calls Try.prog 164 #[.agg #[.int .i64 x, .int .i64 y]] w (Ret (.int .i64 I) w) := by
  have := cellIndexS_yes x y w hc
  have k := (cellIx_in hc).2.1
  rw [show cellIx (x, y) = (I : Int) by omega] at this
  exact this
theorem hasCellS_yes (v : Value) (rows : List Int) (x y : Int) (s I : Nat) (w : World) (h : Rd 1 RInt w v rows) (hc : cellOk (x, y) = true) (Hok : Hid (RowsOk rows)) (Hs : Hid (s = setOf rows)) (hI : I = (cellIx (x, y)).toNat) : Calls Try.prog 134 #[.agg #[v], .agg #[.int .i64 x, .int .i64 y]] w (Ret (.bool (s.testBit I)) w) := by
  have := hasCellS_any v rows x y w h hc
  have e : hasCellP rows (x, y) = s.testBit I := by unfold hasCellP; rw [regionOk_iff.2 Hok.out, hc, hI, Hs.out]; simp
  rw [e] at this; exact this
theorem hasCellS_no (v : Value) (rows : List Int) (x y : Int) (w : World) (h : Rd 1 RInt w v rows) (hc : cellOk (x, y) = true) (hr : regionOk rows = false) : Calls Try.prog 134 #[.agg #[v], .agg #[.int .i64 x, .int .i64 y]] w (Ret (.bool false) w) := by
  have := hasCellS_any v rows x y w h hc
  have e : hasCellP rows (x, y) = false := by unfold hasCellP; rw [hr]; rfl
  rw [e] at this; exact this
theorem sub_iff {left : Nat} {d : Dm} (hl : left < U64) (h : domOk d = true) : decide (left &&& domSet d = domSet d) = (left.testBit (domI d) && left.testBit (domJ d)) := by
  rw [Bool.eq_iff_iff, decide_eq_true_iff, Bool.and_eq_true]
  constructor
  · intro e
    exact ⟨and_sub e _ (by rw [domSet_bit h]; simp), and_sub e _ (by rw [domSet_bit h]; simp)⟩
  · rintro ⟨h1, h2⟩
    apply Nat.eq_of_testBit_eq
    intro i
    rw [Nat.testBit_and, domSet_bit h]
    by_cases e1 : domI d = i
    · rw [← e1, h1]; simp
    · by_cases e2 : domJ d = i
      · rw [← e2, h2]; simp
      · simp [e1, e2]
/-- The cells that are used: those of the region that are not left. -/
def UsedOk (s left : Nat) (u : List Bool) : Prop := u.length = 64 ∧ (∀ i, left.testBit i = true → s.testBit i = true) ∧ ∀ i, ∀ h : i < u.length, u[i] = (s.testBit i && !left.testBit i)
theorem UsedOk.start (s : Nat) : UsedOk s s (List.replicate 64 false) := ⟨by simp, fun i h => h, fun i h => by rw [List.getElem_replicate]; simp⟩
theorem UsedOk.step {s left : Nat} {u : List Bool} {d : Dm} (h : UsedOk s left u) (hl : left < U64) (hd : domOk d = true) (h1 : left.testBit (domI d) = true) (h2 : left.testBit (domJ d) = true) : UsedOk s (sDiff left (domSet d)) ((u.set (domI d) true).set (domJ d) true) := by
  refine ⟨by simp [h.1], fun i hi => h.2.1 i ?_, fun i hi => ?_⟩
  · rw [sDiff_bit hl (domSet_lt hd), Bool.and_eq_true] at hi; exact hi.1
  · rw [sDiff_bit hl (domSet_lt hd), domSet_bit hd, List.getElem_set, List.getElem_set]
    by_cases e2 : domJ d = i
    · rw [if_pos e2]; subst e2; rw [h.2.1 _ h2]; simp
    · rw [if_neg e2]
      by_cases e1 : domI d = i
      · rw [if_pos e1]; subst e1; rw [h.2.1 _ h1]; simp
      · rw [if_neg e1, h.2.2 i (by simpa using hi)]; simp [e1, e2]
theorem UsedOk.bit {s left : Nat} {u : List Bool} (h : UsedOk s left u) {i : Nat} (hi : i < 64) (hs : s.testBit i = true) : u[i]'(by rw [h.1]; exact hi) = !left.testBit i := by
  rw [h.2.2 i (by rw [h.1]; exact hi), hs]; rfl
theorem UsedOk.out {s left : Nat} {u : List Bool} (h : UsedOk s left u) {i : Nat} (hs : s.testBit i = false) : left.testBit i = false := by
  rcases e : left.testBit i with _ | _
  · rfl
  · rw [h.2.1 i e] at hs; exact hs

set_option maxHeartbeats 4000000 in
set_option maxRecDepth 100000 in
theorem partS_yes (v u : Value) (rows : List Int) (l : List Dm) (w : World) (h : Rd 1 RInt w v rows) (h2 : Rd 3 RDom w u l) (Hok : Hid (RowsOk rows)) : Calls Try.prog 107 #[.agg #[v], u] w (Ret (.bool (isPartial rows l)) w) := by
  obtain ⟨A, c, rfl, hc, hm⟩ := h.form
  obtain ⟨A2, c2, rfl, hc2, hm2⟩ := h2.form
  have hA := ((Below.refl w.heap.size w).al (.cells #[.slice A rows.length c] 31))
  have hx := Blk.new_ w 31 #[.slice A rows.length c]
  have h64 : Hid ((64 : Int) = ((64 : Nat) : Int)) := Lib.hid rfl
  have e : isPartial rows l = partGo (setOf rows) none l := by unfold isPartial; rw [regionOk_iff.2 Hok.out]; rfl
  obtain ⟨R, hR⟩ : ∃ R, R = isPartial rows l := ⟨_, rfl⟩
  rw [← hR] at e ⊢
  have HR := Lib.hid e; clear e hR
  have hs := setOf_lt Hok.out
  obtain ⟨s, hse⟩ : ∃ s, s = setOf rows := ⟨_, rfl⟩
  rw [← hse] at hs
  have HR : Hid (partGo s none l = R) := Lib.hid (by rw [HR.out, hse])
  have Hse := Lib.hid hse; clear hse
  go_enter Try.func107, Try.ntmps107
  go_wp2_with (at_make; go_must (refine wpList_mk' (enc := eBool) (z0 := false) rowBool rfl hA 64 (by decide) (by decide) _ h64.out rfl _ _ rfl rfl rfl ?_); intro w1 hown1 hb1 hg1)
  have hx1 := hx.grown hg1 (by simp)
  go_loopw [6] (fun s6 wr => ∃ (k left : Nat) (q : List Bool), k ≤ l.length ∧ s6 = .int .i64 k ∧ left < U64 ∧ Hid (partGo left (prevOf l k) (l.drop k) = R) ∧ Hid (∀ e, prevOf l k = some e → domOk e = true) ∧ Hid (UsedOk s left q) ∧ OwnL 4 1 eBool w.heap.size wr (.slice (some ⟨w.heap.size + 1, 0, none⟩) 64 64) q ∧ Blk wr w.heap.size 31 #[.slice A rows.length c] ∧ Below w.heap.size w wr) (fun i _ => l.length - (intOf i).toNat)
  case atStart => exact ⟨0, s, _, Nat.zero_le _, rfl, hs, Lib.hid HR.out, Lib.hid (fun e he => by cases he), Lib.hid (UsedOk.start s), by simpa using hown1, hx1, hb1⟩
  case round =>
    obtain ⟨k, left, q, hk, rfl, hleft, Hg, Hp, Hu, hown, bR, hbel⟩ := hrel
    have z1 := bR.c1
    clear hx hx1 hb1 hg1 hown1
    have hgl : w.heap.size + 1 < wr.heap.size := hown.at_.2.2
    by_cases hlt : k < l.length
    · obtain ⟨b, off, rfl, hb, q1, q2, q3⟩ := (h2.below RE.stays hbel).atDom hlt
      have hg := Hg.out
      rw [List.drop_eq_getElem_cons hlt, partGo_cons] at hg
      obtain ⟨d, hd⟩ : ∃ d, d = l[k] := ⟨_, rfl⟩
      rw [← hd] at q1 q2 q3 hg
      obtain ⟨x, y, dn⟩ := d
      simp only at q1 q2 q3
      have hltI : (k : Int) < (l.length : Int) := by omega
      have hk0 : (0 : Int) ≤ (k : Int) := by omega
      have Bw : Below wr.heap.size wr wr.drew := (Below.refl _ _).drew
      have hz : wr.heap.size ≤ wr.drew.heap.size := by simp
      rcases hok : domOk (x, y, dn) with _ | _
      · rw [hok] at hg
        simp only [Bool.false_and] at hg
        have HG := Lib.hid hg; have Hdd := Lib.hid hd; have Hok2 := Lib.hid hok; clear hg hd hok
        go_wp2_with fail
        refine wp_region_held_drew (S := (fun w' => w'.cell? ⟨b, off + k * 3, none⟩ = some (.int .i64 x) ∧ w'.cell? ⟨b, off + k * 3 + 1, none⟩ = some (.int .i64 y) ∧ w'.cell? ⟨b, off + k * 3 + 2, none⟩ = some (.bool dn))) (by kernel_rfl) ?_ (fun hHeld => ?_)
        · (try dsimp only); go_keep
        refine wpAnyH_take (i := 0) (oi := { dst := some 16, op := Go.Op.move (Go.Operand.tmp 1), type := 37, pos := "l06_tiling.go:8", after := #[], guard := none }) (v := ?_) rfl (by kernel_rfl) (by kernel_rfl) (by kernel_rfl) (fun _ _ _ h => h) (Or.inl ⟨by rfl, ?_⟩) (by assumption) ?_
        rotate_left 1
        · (intro wS hSw; (try dsimp only at hSw); go_simp; (all_goals with_reducible rfl))
        simp only [Act.put, List.setIfInBounds_toArray, List.set_cons_zero, List.set_cons_succ]
        refine wpAnyH_take (i := 1) (oi := { dst := some 17, op := Go.Op.move (Go.Operand.tmp 6), type := 3, pos := "l06_tiling.go:8", after := #[], guard := none }) (v := ?_) rfl (by kernel_rfl) (by kernel_rfl) (by kernel_rfl) (fun _ _ _ h => h) (Or.inl ⟨by rfl, ?_⟩) (by assumption) ?_
        rotate_left 1
        · (intro wS hSw; (try dsimp only at hSw); go_simp; (all_goals with_reducible rfl))
        simp only [Act.put, List.setIfInBounds_toArray, List.set_cons_zero, List.set_cons_succ]
        refine wpAnyH_take (i := 2) (oi := { dst := some 18, op := Go.Op.indexAddr 37 (Go.Operand.tmp 16) (Go.Operand.tmp 17), type := 0, pos := "l06_tiling.go:8", after := #[{ on := 0, ground := Go.Ground.data }, { on := 1, ground := Go.Ground.data }], guard := none }) (v := ?_) rfl (by kernel_rfl) (by kernel_rfl) (by kernel_rfl) (fun _ _ _ h => h) (Or.inl ⟨by rfl, ?_⟩) (by assumption) ?_
        rotate_left 1
        · (intro wS hSw; (try dsimp only at hSw); go_simp; (all_goals with_reducible rfl))
        simp only [Act.put, List.setIfInBounds_toArray, List.set_cons_zero, List.set_cons_succ]
        refine wpAnyH_take (i := 3) (oi := { dst := some 19, op := Go.Op.load 73 (Go.Operand.tmp 18), type := 73, pos := "l06_tiling.go:8", after := #[{ on := 2, ground := Go.Ground.data }], guard := none }) (v := ?_) rfl (by kernel_rfl) (by kernel_rfl) (by kernel_rfl) (fun _ _ _ h => h) (Or.inl ⟨by rfl, ?_⟩) (by assumption) ?_
        rotate_left 1
        · (intro wS hSw; (try dsimp only at hSw); go_simp; (all_goals with_reducible rfl))
        simp only [Act.put, List.setIfInBounds_toArray, List.set_cons_zero, List.set_cons_succ]
        refine wpAnyH_ready (rs := [4]) (by kernel_rfl) (by simp) ?_
        refine AllReadyH.cons (o := { dst := some 20, op := Go.Op.call { callee := Go.Callee.value (Go.Operand.func 88), args := #[Go.Operand.tmp 19], argTypes := #[73] }, type := 4, pos := "l06_tiling.go:8", after := #[{ on := 3, ground := Go.Ground.data }], guard := none }) rfl (fun K hK => ?_) AllReadyH.nil
        go_simp
        (first | (go_at_call 88; go_must (refine (domOkS_any x y dn _).mono ?_; rintro e wX ⟨rfl, hbX⟩; rw [Hok2.out]; obtain ⟨hcX, hfX, hzX⟩ := bkn hbX wr.heap.size hz; have hz := hzX; have Bw := Bw.tr hbX); (try go_wp2_with fail)))
        refine hK.out _ _ ?_ (fun hHeld => ?_)
        · (try dsimp only); go_keep
        clear hK K
        (try simp only [Act.put, List.setIfInBounds_toArray, List.set_cons_zero, List.set_cons_succ])
        refine wpAnyH_take (i := 5) (oi := { dst := some 21, op := Go.Op.unOp Go.UnOp.not 4 (Go.Operand.tmp 20), type := 4, pos := "l06_tiling.go:8", after := #[{ on := 4, ground := Go.Ground.data }], guard := none }) (v := ?_) rfl (by kernel_rfl) (by kernel_rfl) (by kernel_rfl) (fun _ _ _ h => h) (Or.inl ⟨by rfl, ?_⟩) (by assumption) ?_
        rotate_left 1
        · (intro wS hSw; (try dsimp only at hSw); go_simp; (all_goals with_reducible rfl))
        simp only [Act.put, List.setIfInBounds_toArray, List.set_cons_zero, List.set_cons_succ]
        refine wpAnyH_take (i := 6) (oi := { dst := some 22, op := Go.Op.move (Go.Operand.tmp 21), type := 4, pos := "l06_tiling.go:8", after := #[{ on := 5, ground := Go.Ground.data }, { on := 4, ground := Go.Ground.chain }], guard := none }) (v := ?_) rfl (by kernel_rfl) (by kernel_rfl) (by kernel_rfl) (fun _ _ _ h => h) (Or.inl ⟨by rfl, ?_⟩) (by assumption) ?_
        rotate_left 1
        · (intro wS hSw; (try dsimp only at hSw); go_simp; (all_goals with_reducible rfl))
        simp only [Act.put, List.setIfInBounds_toArray, List.set_cons_zero, List.set_cons_succ]
        refine wpAnyH_take (i := 7) (oi := { dst := some 23, op := Go.Op.move (Go.Operand.tmp 6), type := 3, pos := "l06_tiling.go:8", after := #[{ on := 6, ground := Go.Ground.guard }], guard := some (6, false) }) (v := undef) rfl (by kernel_rfl) (by kernel_rfl) (by kernel_rfl) (fun _ _ _ h => h) (Or.inr ⟨by rfl, rfl⟩) (by assumption) ?_
        simp only [Act.put, List.setIfInBounds_toArray, List.set_cons_zero, List.set_cons_succ]
        refine wpAnyH_take (i := 8) (oi := { dst := some 24, op := Go.Op.binOp Go.BinOp.gtr 3 (Go.Operand.tmp 23) (Go.Operand.const (Go.Value.int Go.IntKind.i64 0)) 3, type := 4, pos := "l06_tiling.go:8", after := #[{ on := 7, ground := Go.Ground.data }, { on := 6, ground := Go.Ground.guard }], guard := some (6, false) }) (v := undef) rfl (by kernel_rfl) (by kernel_rfl) (by kernel_rfl) (fun _ _ _ h => h) (Or.inr ⟨by rfl, rfl⟩) (by assumption) ?_
        simp only [Act.put, List.setIfInBounds_toArray, List.set_cons_zero, List.set_cons_succ]
        refine wpAnyH_take (i := 9) (oi := { dst := some 25, op := Go.Op.move (Go.Operand.tmp 24), type := 4, pos := "l06_tiling.go:8", after := #[{ on := 8, ground := Go.Ground.data }, { on := 6, ground := Go.Ground.chain }, { on := 6, ground := Go.Ground.guard }], guard := some (6, false) }) (v := undef) rfl (by kernel_rfl) (by kernel_rfl) (by kernel_rfl) (fun _ _ _ h => h) (Or.inr ⟨by rfl, rfl⟩) (by assumption) ?_
        simp only [Act.put, List.setIfInBounds_toArray, List.set_cons_zero, List.set_cons_succ]
        refine wpAnyH_take (i := 10) (oi := { dst := some 26, op := Go.Op.move (Go.Operand.tmp 1), type := 37, pos := "l06_tiling.go:8", after := #[{ on := 9, ground := Go.Ground.guard }], guard := some (9, true) }) (v := undef) rfl (by kernel_rfl) (by kernel_rfl) (by kernel_rfl) (fun _ _ _ h => h) (Or.inr ⟨by rfl, rfl⟩) (by assumption) ?_
        simp only [Act.put, List.setIfInBounds_toArray, List.set_cons_zero, List.set_cons_succ]
        refine wpAnyH_take (i := 11) (oi := { dst := some 27, op := Go.Op.move (Go.Operand.tmp 6), type := 3, pos := "l06_tiling.go:8", after := #[{ on := 9, ground := Go.Ground.guard }], guard := some (9, true) }) (v := undef) rfl (by kernel_rfl) (by kernel_rfl) (by kernel_rfl) (fun _ _ _ h => h) (Or.inr ⟨by rfl, rfl⟩) (by assumption) ?_
        simp only [Act.put, List.setIfInBounds_toArray, List.set_cons_zero, List.set_cons_succ]
        refine wpAnyH_take (i := 12) (oi := { dst := some 28, op := Go.Op.binOp Go.BinOp.sub 3 (Go.Operand.tmp 27) (Go.Operand.const (Go.Value.int Go.IntKind.i64 1)) 3, type := 3, pos := "l06_tiling.go:8", after := #[{ on := 11, ground := Go.Ground.data }, { on := 9, ground := Go.Ground.guard }], guard := some (9, true) }) (v := undef) rfl (by kernel_rfl) (by kernel_rfl) (by kernel_rfl) (fun _ _ _ h => h) (Or.inr ⟨by rfl, rfl⟩) (by assumption) ?_
        simp only [Act.put, List.setIfInBounds_toArray, List.set_cons_zero, List.set_cons_succ]
        refine wpAnyH_take (i := 13) (oi := { dst := some 29, op := Go.Op.indexAddr 37 (Go.Operand.tmp 26) (Go.Operand.tmp 28), type := 0, pos := "l06_tiling.go:8", after := #[{ on := 10, ground := Go.Ground.data }, { on := 12, ground := Go.Ground.data }, { on := 9, ground := Go.Ground.guard }], guard := some (9, true) }) (v := undef) rfl (by kernel_rfl) (by kernel_rfl) (by kernel_rfl) (fun _ _ _ h => h) (Or.inr ⟨by rfl, rfl⟩) (by assumption) ?_
        simp only [Act.put, List.setIfInBounds_toArray, List.set_cons_zero, List.set_cons_succ]
        refine wpAnyH_take (i := 14) (oi := { dst := some 30, op := Go.Op.load 73 (Go.Operand.tmp 29), type := 73, pos := "l06_tiling.go:8", after := #[{ on := 13, ground := Go.Ground.data }, { on := 9, ground := Go.Ground.guard }], guard := some (9, true) }) (v := undef) rfl (by kernel_rfl) (by kernel_rfl) (by kernel_rfl) (fun _ _ _ h => h) (Or.inr ⟨by rfl, rfl⟩) (by assumption) ?_
        simp only [Act.put, List.setIfInBounds_toArray, List.set_cons_zero, List.set_cons_succ]
        refine wpAnyH_take (i := 15) (oi := { dst := some 31, op := Go.Op.move (Go.Operand.tmp 1), type := 37, pos := "l06_tiling.go:8", after := #[{ on := 9, ground := Go.Ground.guard }], guard := some (9, true) }) (v := undef) rfl (by kernel_rfl) (by kernel_rfl) (by kernel_rfl) (fun _ _ _ h => h) (Or.inr ⟨by rfl, rfl⟩) (by assumption) ?_
        simp only [Act.put, List.setIfInBounds_toArray, List.set_cons_zero, List.set_cons_succ]
        refine wpAnyH_take (i := 16) (oi := { dst := some 32, op := Go.Op.move (Go.Operand.tmp 6), type := 3, pos := "l06_tiling.go:8", after := #[{ on := 9, ground := Go.Ground.guard }], guard := some (9, true) }) (v := undef) rfl (by kernel_rfl) (by kernel_rfl) (by kernel_rfl) (fun _ _ _ h => h) (Or.inr ⟨by rfl, rfl⟩) (by assumption) ?_
        simp only [Act.put, List.setIfInBounds_toArray, List.set_cons_zero, List.set_cons_succ]
        refine wpAnyH_take (i := 17) (oi := { dst := some 33, op := Go.Op.indexAddr 37 (Go.Operand.tmp 31) (Go.Operand.tmp 32), type := 0, pos := "l06_tiling.go:8", after := #[{ on := 15, ground := Go.Ground.data }, { on := 16, ground := Go.Ground.data }, { on := 9, ground := Go.Ground.guard }], guard := some (9, true) }) (v := undef) rfl (by kernel_rfl) (by kernel_rfl) (by kernel_rfl) (fun _ _ _ h => h) (Or.inr ⟨by rfl, rfl⟩) (by assumption) ?_
        simp only [Act.put, List.setIfInBounds_toArray, List.set_cons_zero, List.set_cons_succ]
        refine wpAnyH_take (i := 18) (oi := { dst := some 34, op := Go.Op.load 73 (Go.Operand.tmp 33), type := 73, pos := "l06_tiling.go:8", after := #[{ on := 17, ground := Go.Ground.data }, { on := 9, ground := Go.Ground.guard }], guard := some (9, true) }) (v := undef) rfl (by kernel_rfl) (by kernel_rfl) (by kernel_rfl) (fun _ _ _ h => h) (Or.inr ⟨by rfl, rfl⟩) (by assumption) ?_
        simp only [Act.put, List.setIfInBounds_toArray, List.set_cons_zero, List.set_cons_succ]
        refine wpAnyH_take (i := 19) (oi := { dst := some 35, op := Go.Op.call { callee := Go.Callee.value (Go.Operand.func 163), args := #[Go.Operand.tmp 30, Go.Operand.tmp 34], argTypes := #[73, 73] }, type := 4, pos := "l06_tiling.go:8", after := #[{ on := 14, ground := Go.Ground.data }, { on := 18, ground := Go.Ground.data }, { on := 9, ground := Go.Ground.chain }, { on := 9, ground := Go.Ground.guard }], guard := some (9, true) }) (v := undef) rfl (by kernel_rfl) (by kernel_rfl) (by kernel_rfl) (fun _ _ _ h => h) (Or.inr ⟨by rfl, rfl⟩) (by assumption) ?_
        simp only [Act.put, List.setIfInBounds_toArray, List.set_cons_zero, List.set_cons_succ]
        refine wpAnyH_take (i := 20) (oi := { dst := some 36, op := Go.Op.unOp Go.UnOp.not 4 (Go.Operand.tmp 35), type := 4, pos := "l06_tiling.go:8", after := #[{ on := 19, ground := Go.Ground.data }, { on := 9, ground := Go.Ground.guard }], guard := some (9, true) }) (v := undef) rfl (by kernel_rfl) (by kernel_rfl) (by kernel_rfl) (fun _ _ _ h => h) (Or.inr ⟨by rfl, rfl⟩) (by assumption) ?_
        simp only [Act.put, List.setIfInBounds_toArray, List.set_cons_zero, List.set_cons_succ]
        refine wpAnyH_take (i := 21) (oi := { dst := some 37, op := Go.Op.pick (Go.Operand.tmp 25) (Go.Operand.tmp 36) (Go.Operand.const (Go.Value.bool false)), type := 4, pos := "l06_tiling.go:8", after := #[{ on := 9, ground := Go.Ground.data }, { on := 20, ground := Go.Ground.data }, { on := 6, ground := Go.Ground.guard }], guard := some (6, false) }) (v := undef) rfl (by kernel_rfl) (by kernel_rfl) (by kernel_rfl) (fun _ _ _ h => h) (Or.inr ⟨by rfl, rfl⟩) (by assumption) ?_
        simp only [Act.put, List.setIfInBounds_toArray, List.set_cons_zero, List.set_cons_succ]
        refine wpAnyH_take (i := 22) (oi := { dst := some 38, op := Go.Op.pick (Go.Operand.tmp 22) (Go.Operand.const (Go.Value.bool true)) (Go.Operand.tmp 37), type := 4, pos := "l06_tiling.go:8", after := #[{ on := 6, ground := Go.Ground.data }, { on := 21, ground := Go.Ground.data }], guard := none }) (v := ?_) rfl (by kernel_rfl) (by kernel_rfl) (by kernel_rfl) (fun _ _ _ h => h) (Or.inl ⟨by rfl, ?_⟩) (by assumption) ?_
        rotate_left 1
        · (intro wS hSw; (try dsimp only at hSw); go_simp; (all_goals with_reducible rfl))
        simp only [Act.put, List.setIfInBounds_toArray, List.set_cons_zero, List.set_cons_succ]
        refine wpAnyH_done (by kernel_rfl) ?_ _
        go_wp2
        go_ret
        exact ⟨retB HG.out, hbel.tr Bw⟩
      · rw [hok] at hg
        simp only [Bool.true_and] at hg
        rcases Nat.eq_zero_or_pos k with rfl | hkp
        · rw [prevOf_zero] at hg
          simp only [goodPrev, Bool.and_true] at hg
          have Hok2 := Lib.hid hok; have Hdd := Lib.hid hd; have Hg2 := Lib.hid hg; clear hok hd hg
          simp only [Nat.zero_mul, Nat.add_zero] at q1 q2 q3
          go_wp2_with fail
          refine wp_region_held_drew (S := (fun w' => w'.cell? ⟨b, off, none⟩ = some (.int .i64 x) ∧ w'.cell? ⟨b, off + 1, none⟩ = some (.int .i64 y) ∧ w'.cell? ⟨b, off + 2, none⟩ = some (.bool dn))) (by kernel_rfl) ?_ (fun hHeld => ?_)
          · (try dsimp only); go_keep
          refine wpAnyH_take (i := 0) (oi := { dst := some 16, op := Go.Op.move (Go.Operand.tmp 1), type := 37, pos := "l06_tiling.go:8", after := #[], guard := none }) (v := ?_) rfl (by kernel_rfl) (by kernel_rfl) (by kernel_rfl) (fun _ _ _ h => h) (Or.inl ⟨by rfl, ?_⟩) (by assumption) ?_
          rotate_left 1
          · (intro wS hSw; (try dsimp only at hSw); go_simp; (all_goals with_reducible rfl))
          simp only [Act.put, List.setIfInBounds_toArray, List.set_cons_zero, List.set_cons_succ]
          refine wpAnyH_take (i := 1) (oi := { dst := some 17, op := Go.Op.move (Go.Operand.tmp 6), type := 3, pos := "l06_tiling.go:8", after := #[], guard := none }) (v := ?_) rfl (by kernel_rfl) (by kernel_rfl) (by kernel_rfl) (fun _ _ _ h => h) (Or.inl ⟨by rfl, ?_⟩) (by assumption) ?_
          rotate_left 1
          · (intro wS hSw; (try dsimp only at hSw); go_simp; (all_goals with_reducible rfl))
          simp only [Act.put, List.setIfInBounds_toArray, List.set_cons_zero, List.set_cons_succ]
          refine wpAnyH_take (i := 2) (oi := { dst := some 18, op := Go.Op.indexAddr 37 (Go.Operand.tmp 16) (Go.Operand.tmp 17), type := 0, pos := "l06_tiling.go:8", after := #[{ on := 0, ground := Go.Ground.data }, { on := 1, ground := Go.Ground.data }], guard := none }) (v := ?_) rfl (by kernel_rfl) (by kernel_rfl) (by kernel_rfl) (fun _ _ _ h => h) (Or.inl ⟨by rfl, ?_⟩) (by assumption) ?_
          rotate_left 1
          · (intro wS hSw; (try dsimp only at hSw); go_simp; (all_goals with_reducible rfl))
          simp only [Act.put, List.setIfInBounds_toArray, List.set_cons_zero, List.set_cons_succ]
          refine wpAnyH_take (i := 3) (oi := { dst := some 19, op := Go.Op.load 73 (Go.Operand.tmp 18), type := 73, pos := "l06_tiling.go:8", after := #[{ on := 2, ground := Go.Ground.data }], guard := none }) (v := ?_) rfl (by kernel_rfl) (by kernel_rfl) (by kernel_rfl) (fun _ _ _ h => h) (Or.inl ⟨by rfl, ?_⟩) (by assumption) ?_
          rotate_left 1
          · (intro wS hSw; (try dsimp only at hSw); go_simp; (all_goals with_reducible rfl))
          simp only [Act.put, List.setIfInBounds_toArray, List.set_cons_zero, List.set_cons_succ]
          refine wpAnyH_ready (rs := [4]) (by kernel_rfl) (by simp) ?_
          refine AllReadyH.cons (o := { dst := some 20, op := Go.Op.call { callee := Go.Callee.value (Go.Operand.func 88), args := #[Go.Operand.tmp 19], argTypes := #[73] }, type := 4, pos := "l06_tiling.go:8", after := #[{ on := 3, ground := Go.Ground.data }], guard := none }) rfl (fun K hK => ?_) AllReadyH.nil
          go_simp
          (first | (go_at_call 88; go_must (refine (domOkS_any x y dn _).mono ?_; rintro e wX ⟨rfl, hbX⟩; rw [Hok2.out]; obtain ⟨hcX, hfX, hzX⟩ := bkn hbX wr.heap.size hz; have hz := hzX; have Bw := Bw.tr hbX); (try go_wp2_with fail)))
          refine hK.out _ _ ?_ (fun hHeld => ?_)
          · (try dsimp only); go_keep
          clear hK K
          (try simp only [Act.put, List.setIfInBounds_toArray, List.set_cons_zero, List.set_cons_succ])
          refine wpAnyH_take (i := 5) (oi := { dst := some 21, op := Go.Op.unOp Go.UnOp.not 4 (Go.Operand.tmp 20), type := 4, pos := "l06_tiling.go:8", after := #[{ on := 4, ground := Go.Ground.data }], guard := none }) (v := ?_) rfl (by kernel_rfl) (by kernel_rfl) (by kernel_rfl) (fun _ _ _ h => h) (Or.inl ⟨by rfl, ?_⟩) (by assumption) ?_
          rotate_left 1
          · (intro wS hSw; (try dsimp only at hSw); go_simp; (all_goals with_reducible rfl))
          simp only [Act.put, List.setIfInBounds_toArray, List.set_cons_zero, List.set_cons_succ]
          refine wpAnyH_take (i := 6) (oi := { dst := some 22, op := Go.Op.move (Go.Operand.tmp 21), type := 4, pos := "l06_tiling.go:8", after := #[{ on := 5, ground := Go.Ground.data }, { on := 4, ground := Go.Ground.chain }], guard := none }) (v := ?_) rfl (by kernel_rfl) (by kernel_rfl) (by kernel_rfl) (fun _ _ _ h => h) (Or.inl ⟨by rfl, ?_⟩) (by assumption) ?_
          rotate_left 1
          · (intro wS hSw; (try dsimp only at hSw); go_simp; (all_goals with_reducible rfl))
          simp only [Act.put, List.setIfInBounds_toArray, List.set_cons_zero, List.set_cons_succ]
          refine wpAnyH_take (i := 7) (oi := { dst := some 23, op := Go.Op.move (Go.Operand.tmp 6), type := 3, pos := "l06_tiling.go:8", after := #[{ on := 6, ground := Go.Ground.guard }], guard := some (6, false) }) (v := ?_) rfl (by kernel_rfl) (by kernel_rfl) (by kernel_rfl) (fun _ _ _ h => h) (Or.inl ⟨by rfl, ?_⟩) (by assumption) ?_
          rotate_left 1
          · (intro wS hSw; (try dsimp only at hSw); go_simp; (all_goals with_reducible rfl))
          simp only [Act.put, List.setIfInBounds_toArray, List.set_cons_zero, List.set_cons_succ]
          refine wpAnyH_take (i := 8) (oi := { dst := some 24, op := Go.Op.binOp Go.BinOp.gtr 3 (Go.Operand.tmp 23) (Go.Operand.const (Go.Value.int Go.IntKind.i64 0)) 3, type := 4, pos := "l06_tiling.go:8", after := #[{ on := 7, ground := Go.Ground.data }, { on := 6, ground := Go.Ground.guard }], guard := some (6, false) }) (v := ?_) rfl (by kernel_rfl) (by kernel_rfl) (by kernel_rfl) (fun _ _ _ h => h) (Or.inl ⟨by rfl, ?_⟩) (by assumption) ?_
          rotate_left 1
          · (intro wS hSw; (try dsimp only at hSw); go_simp; (all_goals with_reducible rfl))
          simp only [Act.put, List.setIfInBounds_toArray, List.set_cons_zero, List.set_cons_succ]
          refine wpAnyH_take (i := 9) (oi := { dst := some 25, op := Go.Op.move (Go.Operand.tmp 24), type := 4, pos := "l06_tiling.go:8", after := #[{ on := 8, ground := Go.Ground.data }, { on := 6, ground := Go.Ground.chain }, { on := 6, ground := Go.Ground.guard }], guard := some (6, false) }) (v := ?_) rfl (by kernel_rfl) (by kernel_rfl) (by kernel_rfl) (fun _ _ _ h => h) (Or.inl ⟨by rfl, ?_⟩) (by assumption) ?_
          rotate_left 1
          · (intro wS hSw; (try dsimp only at hSw); go_simp; (all_goals with_reducible rfl))
          simp only [Act.put, List.setIfInBounds_toArray, List.set_cons_zero, List.set_cons_succ]
          refine wpAnyH_take (i := 10) (oi := { dst := some 26, op := Go.Op.move (Go.Operand.tmp 1), type := 37, pos := "l06_tiling.go:8", after := #[{ on := 9, ground := Go.Ground.guard }], guard := some (9, true) }) (v := undef) rfl (by kernel_rfl) (by kernel_rfl) (by kernel_rfl) (fun _ _ _ h => h) (Or.inr ⟨by rfl, rfl⟩) (by assumption) ?_
          simp only [Act.put, List.setIfInBounds_toArray, List.set_cons_zero, List.set_cons_succ]
          refine wpAnyH_take (i := 11) (oi := { dst := some 27, op := Go.Op.move (Go.Operand.tmp 6), type := 3, pos := "l06_tiling.go:8", after := #[{ on := 9, ground := Go.Ground.guard }], guard := some (9, true) }) (v := undef) rfl (by kernel_rfl) (by kernel_rfl) (by kernel_rfl) (fun _ _ _ h => h) (Or.inr ⟨by rfl, rfl⟩) (by assumption) ?_
          simp only [Act.put, List.setIfInBounds_toArray, List.set_cons_zero, List.set_cons_succ]
          refine wpAnyH_take (i := 12) (oi := { dst := some 28, op := Go.Op.binOp Go.BinOp.sub 3 (Go.Operand.tmp 27) (Go.Operand.const (Go.Value.int Go.IntKind.i64 1)) 3, type := 3, pos := "l06_tiling.go:8", after := #[{ on := 11, ground := Go.Ground.data }, { on := 9, ground := Go.Ground.guard }], guard := some (9, true) }) (v := undef) rfl (by kernel_rfl) (by kernel_rfl) (by kernel_rfl) (fun _ _ _ h => h) (Or.inr ⟨by rfl, rfl⟩) (by assumption) ?_
          simp only [Act.put, List.setIfInBounds_toArray, List.set_cons_zero, List.set_cons_succ]
          refine wpAnyH_take (i := 13) (oi := { dst := some 29, op := Go.Op.indexAddr 37 (Go.Operand.tmp 26) (Go.Operand.tmp 28), type := 0, pos := "l06_tiling.go:8", after := #[{ on := 10, ground := Go.Ground.data }, { on := 12, ground := Go.Ground.data }, { on := 9, ground := Go.Ground.guard }], guard := some (9, true) }) (v := undef) rfl (by kernel_rfl) (by kernel_rfl) (by kernel_rfl) (fun _ _ _ h => h) (Or.inr ⟨by rfl, rfl⟩) (by assumption) ?_
          simp only [Act.put, List.setIfInBounds_toArray, List.set_cons_zero, List.set_cons_succ]
          refine wpAnyH_take (i := 14) (oi := { dst := some 30, op := Go.Op.load 73 (Go.Operand.tmp 29), type := 73, pos := "l06_tiling.go:8", after := #[{ on := 13, ground := Go.Ground.data }, { on := 9, ground := Go.Ground.guard }], guard := some (9, true) }) (v := undef) rfl (by kernel_rfl) (by kernel_rfl) (by kernel_rfl) (fun _ _ _ h => h) (Or.inr ⟨by rfl, rfl⟩) (by assumption) ?_
          simp only [Act.put, List.setIfInBounds_toArray, List.set_cons_zero, List.set_cons_succ]
          refine wpAnyH_take (i := 15) (oi := { dst := some 31, op := Go.Op.move (Go.Operand.tmp 1), type := 37, pos := "l06_tiling.go:8", after := #[{ on := 9, ground := Go.Ground.guard }], guard := some (9, true) }) (v := undef) rfl (by kernel_rfl) (by kernel_rfl) (by kernel_rfl) (fun _ _ _ h => h) (Or.inr ⟨by rfl, rfl⟩) (by assumption) ?_
          simp only [Act.put, List.setIfInBounds_toArray, List.set_cons_zero, List.set_cons_succ]
          refine wpAnyH_take (i := 16) (oi := { dst := some 32, op := Go.Op.move (Go.Operand.tmp 6), type := 3, pos := "l06_tiling.go:8", after := #[{ on := 9, ground := Go.Ground.guard }], guard := some (9, true) }) (v := undef) rfl (by kernel_rfl) (by kernel_rfl) (by kernel_rfl) (fun _ _ _ h => h) (Or.inr ⟨by rfl, rfl⟩) (by assumption) ?_
          simp only [Act.put, List.setIfInBounds_toArray, List.set_cons_zero, List.set_cons_succ]
          refine wpAnyH_take (i := 17) (oi := { dst := some 33, op := Go.Op.indexAddr 37 (Go.Operand.tmp 31) (Go.Operand.tmp 32), type := 0, pos := "l06_tiling.go:8", after := #[{ on := 15, ground := Go.Ground.data }, { on := 16, ground := Go.Ground.data }, { on := 9, ground := Go.Ground.guard }], guard := some (9, true) }) (v := undef) rfl (by kernel_rfl) (by kernel_rfl) (by kernel_rfl) (fun _ _ _ h => h) (Or.inr ⟨by rfl, rfl⟩) (by assumption) ?_
          simp only [Act.put, List.setIfInBounds_toArray, List.set_cons_zero, List.set_cons_succ]
          refine wpAnyH_take (i := 18) (oi := { dst := some 34, op := Go.Op.load 73 (Go.Operand.tmp 33), type := 73, pos := "l06_tiling.go:8", after := #[{ on := 17, ground := Go.Ground.data }, { on := 9, ground := Go.Ground.guard }], guard := some (9, true) }) (v := undef) rfl (by kernel_rfl) (by kernel_rfl) (by kernel_rfl) (fun _ _ _ h => h) (Or.inr ⟨by rfl, rfl⟩) (by assumption) ?_
          simp only [Act.put, List.setIfInBounds_toArray, List.set_cons_zero, List.set_cons_succ]
          refine wpAnyH_take (i := 19) (oi := { dst := some 35, op := Go.Op.call { callee := Go.Callee.value (Go.Operand.func 163), args := #[Go.Operand.tmp 30, Go.Operand.tmp 34], argTypes := #[73, 73] }, type := 4, pos := "l06_tiling.go:8", after := #[{ on := 14, ground := Go.Ground.data }, { on := 18, ground := Go.Ground.data }, { on := 9, ground := Go.Ground.chain }, { on := 9, ground := Go.Ground.guard }], guard := some (9, true) }) (v := undef) rfl (by kernel_rfl) (by kernel_rfl) (by kernel_rfl) (fun _ _ _ h => h) (Or.inr ⟨by rfl, rfl⟩) (by assumption) ?_
          simp only [Act.put, List.setIfInBounds_toArray, List.set_cons_zero, List.set_cons_succ]
          refine wpAnyH_take (i := 20) (oi := { dst := some 36, op := Go.Op.unOp Go.UnOp.not 4 (Go.Operand.tmp 35), type := 4, pos := "l06_tiling.go:8", after := #[{ on := 19, ground := Go.Ground.data }, { on := 9, ground := Go.Ground.guard }], guard := some (9, true) }) (v := undef) rfl (by kernel_rfl) (by kernel_rfl) (by kernel_rfl) (fun _ _ _ h => h) (Or.inr ⟨by rfl, rfl⟩) (by assumption) ?_
          simp only [Act.put, List.setIfInBounds_toArray, List.set_cons_zero, List.set_cons_succ]
          refine wpAnyH_take (i := 21) (oi := { dst := some 37, op := Go.Op.pick (Go.Operand.tmp 25) (Go.Operand.tmp 36) (Go.Operand.const (Go.Value.bool false)), type := 4, pos := "l06_tiling.go:8", after := #[{ on := 9, ground := Go.Ground.data }, { on := 20, ground := Go.Ground.data }, { on := 6, ground := Go.Ground.guard }], guard := some (6, false) }) (v := ?_) rfl (by kernel_rfl) (by kernel_rfl) (by kernel_rfl) (fun _ _ _ h => h) (Or.inl ⟨by rfl, ?_⟩) (by assumption) ?_
          rotate_left 1
          · (intro wS hSw; (try dsimp only at hSw); go_simp; (all_goals with_reducible rfl))
          simp only [Act.put, List.setIfInBounds_toArray, List.set_cons_zero, List.set_cons_succ]
          refine wpAnyH_take (i := 22) (oi := { dst := some 38, op := Go.Op.pick (Go.Operand.tmp 22) (Go.Operand.const (Go.Value.bool true)) (Go.Operand.tmp 37), type := 4, pos := "l06_tiling.go:8", after := #[{ on := 6, ground := Go.Ground.data }, { on := 21, ground := Go.Ground.data }], guard := none }) (v := ?_) rfl (by kernel_rfl) (by kernel_rfl) (by kernel_rfl) (fun _ _ _ h => h) (Or.inl ⟨by rfl, ?_⟩) (by assumption) ?_
          rotate_left 1
          · (intro wS hSw; (try dsimp only at hSw); go_simp; (all_goals with_reducible rfl))
          simp only [Act.put, List.setIfInBounds_toArray, List.set_cons_zero, List.set_cons_succ]
          refine wpAnyH_done (by kernel_rfl) ?_ _
          have ownA := hown.below Bw
          have BA := hbel.tr Bw
          have zA : wX.cell? ⟨w.heap.size, 0, none⟩ = some (.slice A rows.length c) := (Bw.cell (p := ⟨w.heap.size, 0, none⟩) (by show w.heap.size < wr.heap.size; omega)).trans z1
          have hgA : w.heap.size + 1 < wX.heap.size := by have := Bw.size; omega
          have hbA : b < wX.heap.size := by have := Bw.size; omega
          have hgA0 : w.heap.size < wX.heap.size := by omega
          have hn0 : w.heap.size ≠ w.heap.size + 1 := by omega
          have r1 := hHeld.1
          have r2 := hHeld.2.1
          have r3 := (by first | exact hHeld.2.2 | exact hHeld.2.2.1 : wX.cell? _ = some (.bool dn))
          clear hcX hfX q1 q2 q3 z1
          obtain ⟨sx, sy, hsec⟩ : ∃ sx sy, sec (x, y, dn) = (sx, sy) := ⟨_, _, rfl⟩
          obtain ⟨hcI, hcJ⟩ := domOk_cells Hok2.out
          have hsub := sub_iff hleft Hok2.out
          obtain ⟨hI64, hJ64⟩ := domI_lt Hok2.out
          have hIe : domI (x, y, dn) = (cellIx (x, y)).toNat := rfl
          have hJe : domJ (x, y, dn) = (cellIx (sx, sy)).toNat := by unfold domJ; rw [hsec]
          rw [hsec] at hcJ
          simp only at hcI
          have hstep := fun h1 h2 => Hu.out.step hleft Hok2.out h1 h2
          have hg2 := Hg2.out
          rw [hsub] at hg2
          obtain ⟨D, hD⟩ : ∃ D, D = domSet (x, y, dn) := ⟨_, rfl⟩
          obtain ⟨I, hI⟩ : ∃ I, I = domI (x, y, dn) := ⟨_, rfl⟩
          obtain ⟨J, hJ⟩ : ∃ J, J = domJ (x, y, dn) := ⟨_, rfl⟩
          rw [← hI] at hI64 hIe hg2 hstep
          rw [← hJ] at hJ64 hJe hg2 hstep
          rw [← hD] at hg2 hstep
          have hqI : I < q.length := by rw [Hu.out.1]; exact hI64
          have hqJ : J < q.length := by rw [Hu.out.1]; exact hJ64
          have zI : wX.cell? ⟨w.heap.size + 1, I, none⟩ = some (.bool q[I]) := by
            have := ownA.slot lenBool Nat.one_pos hqI 0 (.bool q[I]) rfl
            rwa [Nat.mul_one, Nat.add_zero] at this
          have zJ : wX.cell? ⟨w.heap.size + 1, J, none⟩ = some (.bool q[J]) := by
            have := ownA.slot lenBool Nat.one_pos hqJ 0 (.bool q[J]) rfl
            rwa [Nat.mul_one, Nat.add_zero] at this
          have hbI := fun hh => Hu.out.bit hI64 (i := I) hh
          have hbJ := fun hh => Hu.out.bit hJ64 (i := J) hh
          have hoI := fun hh => Hu.out.out (i := I) hh
          have hoJ := fun hh => Hu.out.out (i := J) hh
          obtain ⟨qI, hqIe⟩ : ∃ qI, qI = q[I] := ⟨_, rfl⟩
          obtain ⟨qJ, hqJe⟩ : ∃ qJ, qJ = q[J] := ⟨_, rfl⟩
          rw [← hqIe] at zI hbI
          rw [← hqJe] at zJ hbJ
          have HbI := Lib.hid hbI; have HbJ := Lib.hid hbJ; have HoI := Lib.hid hoI; have HoJ := Lib.hid hoJ; have HG3 := Lib.hid hg2; have HST := Lib.hid hstep
          have HcI := Lib.hid hcI; have HcJ := Lib.hid hcJ; have HIe := Lib.hid hIe; have HJe := Lib.hid hJe; have Hsec := Lib.hid hsec
          have HI := Lib.hid hI; have HJ := Lib.hid hJ; have HD := Lib.hid hD; have HqI := Lib.hid hqIe; have HqJ := Lib.hid hqJe
          clear hbI hbJ hoI hoJ hg2 hstep hcI hcJ hIe hJe hsec hsub hI hJ hD hqIe hqJe
          have hI0 : (0 : Int) ≤ (I : Int) := by omega
          have hJ0 : (0 : Int) ≤ (J : Int) := by omega
          have hI6 : (I : Int) < 64 := by omega
          have hJ6 : (J : Int) < 64 := by omega
          go_wp2_with fail
          refine (underS_any x y dn _ Hok2.out).mono ?_
          rintro e w7 ⟨rfl, hb7⟩
          obtain ⟨hc7, hf7, hz7⟩ := bk hb7
          (try simp at hz7)
          have hy7_0 : w.heap.size < w7.heap.size := by omega
          have hy7_1 : w.heap.size + 1 < w7.heap.size := by omega
          have hy7_2 : b < w7.heap.size := by omega
          rw [Hsec.out]
          have B7 := BA.tr hb7
          have hN0 : w7.heap.size + 1 + 1 ≤ ((w7.alloc (.cells #[.int .i64 x, .int .i64 y] 70)).alloc (.cells #[.int .i64 sx, .int .i64 sy] 70)).heap.size := by simp
          have hp1 : w.heap.size < w7.heap.size + 1 + 1 := by omega
          have hp2 : w.heap.size + 1 < w7.heap.size + 1 + 1 := by omega
          have hp3 : w7.heap.size < w7.heap.size + 1 + 1 := by omega
          have hp4 : w7.heap.size + 1 < w7.heap.size + 1 + 1 := by omega
          have hn1 : w.heap.size ≠ w7.heap.size := by omega
          have hn2 : w.heap.size ≠ w7.heap.size + 1 := by omega
          have hn3 : w.heap.size + 1 ≠ w7.heap.size := by omega
          have hn4 : w7.heap.size ≠ w.heap.size + 1 := by omega
          have hn5 : w7.heap.size ≠ w.heap.size := by omega
          have hn6 : w.heap.size + 1 ≠ w7.heap.size + 1 := by omega
          have hn7 : w7.heap.size + 1 ≠ w.heap.size + 1 := by omega
          have B7a := (B7.al (.cells #[.int .i64 x, .int .i64 y] 70)).al (.cells #[.int .i64 sx, .int .i64 sy] 70)
          have own7 := ((ownA.below hb7).alloc (.cells #[.int .i64 x, .int .i64 y] 70)).alloc (.cells #[.int .i64 sx, .int .i64 sy] 70)
          go_wp2_with fail
          refine (hasCellS_yes _ rows x y s I _ (h.below RE.stays B7a) HcI.out Hok Hse HIe.out).mono ?_
          rintro e w8 ⟨rfl, hb8⟩
          obtain ⟨hc8, hf8, hz8⟩ := bkn hb8 _ hN0
          have B8 := B7a.tr hb8
          rcases e1 : s.testBit I with _ | _
          · go_wp2
            go_ret
            exact ⟨retB (by have := HG3.out; rw [HoI.out e1] at this; simpa using this), B8⟩
          · go_wp2_with fail
            refine (hasCellS_yes _ rows sx sy s J _ (h.below RE.stays B8) HcJ.out Hok Hse HJe.out).mono ?_
            rintro e w9 ⟨rfl, hb9⟩
            obtain ⟨hc9, hf9, hz9⟩ := bkn hb9 _ hz8
            have B9 := B8.tr hb9
            rcases e2 : s.testBit J with _ | _
            · go_wp2
              go_ret
              exact ⟨retB (by have := HG3.out; rw [HoJ.out e2] at this; simpa using this), B9⟩
            · have HvI := Lib.hid (HbI.out e1); have HvJ := Lib.hid (HbJ.out e2)
              go_wp2_with fail
              refine (cellIndexS_nat x y I _ HcI.out HIe.out).mono ?_
              rintro e w10 ⟨rfl, hb10⟩
              obtain ⟨hc10, hf10, hz10⟩ := bkn hb10 _ hz9
              have B10 := B9.tr hb10
              rcases qI with _ | _
              · go_wp2_with fail
                refine (cellIndexS_nat sx sy J _ HcJ.out HJe.out).mono ?_
                rintro e w11 ⟨rfl, hb11⟩
                obtain ⟨hc11, hf11, hz11⟩ := bkn hb11 _ hz10
                have B11 := B10.tr hb11
                rcases qJ with _ | _
                · go_wp2_with fail
                  refine (cellIndexS_nat x y I _ HcI.out HIe.out).mono ?_
                  rintro e w12 ⟨rfl, hb12⟩
                  obtain ⟨hc12, hf12, hz12⟩ := bkn hb12 _ hz11
                  have own12 := ((((own7.below hb8).below hb9).below hb10).below hb11).below hb12
                  have bR12 := ((((((((bR.bl Bw).bl hb7).alloc (.cells #[.int .i64 x, .int .i64 y] 70)).alloc (.cells #[.int .i64 sx, .int .i64 sy] 70)).bl hb8).bl hb9).bl hb10).bl hb11).bl hb12
                  have B12 := B11.tr hb12
                  have hsf12 := own12.free
                  have own12s := own12.store1 lenBool hqI (y := true) rfl
                  have HlI : Hid (left.testBit I = true) := Lib.hid (by have k := HvI.out; simpa using k)
                  have HlJ : Hid (left.testBit J = true) := Lib.hid (by have k := HvJ.out; simpa using k)
                  clear hf7 hf8 hf9 hf10 hf11 hf12
                  go_wp2_with fail
                  refine (cellIndexS_nat sx sy J _ HcJ.out HJe.out).mono ?_
                  rintro e w13 ⟨rfl, hb13⟩
                  have own13 := own12s.below hb13
                  have bR13 := (bR12.far hn0 _).bl hb13
                  have B13 := (B12.st ⟨w.heap.size + 1, I, none⟩ (.bool true) (Nat.le_succ _)).tr hb13
                  obtain ⟨u13, s13⟩ := own13.slot1 lenBool (k := J) (by rw [List.length_set]; exact hqJ)
                  have hsf13 := own13.free
                  clear hc7 hc8 hc9 hc10 hc11 hc12 zI zJ zA hsf12
                  go_wp2
                  go_roundw
                  case rel => exact ⟨0 + 1, sDiff left D, (q.set I true).set J true, by omega, by go_num, sDiff_lt hleft, by rw [prevOf_succ l _ hlt, ← Hdd.out]; exact Lib.hid (by have := HG3.out; rw [HlI.out, HlJ.out] at this; simpa using this), Lib.hid (fun e he => by rw [prevOf_succ l _ hlt, ← Hdd.out] at he; injection he with he; rw [← he]; exact Hok2.out), Lib.hid (HST.out HlI.out HlJ.out), own13.store1 lenBool (by rw [List.length_set]; exact hqJ) rfl, bR13.far hn0 _, B13.st _ _ (Nat.le_succ _)⟩
                  case measure => simp [intOf]; omega
                · go_wp2
                  go_ret
                  exact ⟨retB (by have := HG3.out; have k := HvJ.out; rw [show left.testBit J = false by simpa using k] at this; simpa using this), B11⟩
              · go_wp2
                go_ret
                exact ⟨retB (by have := HG3.out; have k := HvI.out; rw [show left.testBit I = false by simpa using k] at this; simpa using this), B10⟩
        · obtain ⟨j, rfl⟩ : ∃ j, k = j + 1 := ⟨k - 1, by omega⟩
          have hj : j < l.length := by omega
          rw [prevOf_succ l j hj] at hg
          have hpok := Hp.out l[j] (prevOf_succ l j hj)
          obtain ⟨b', off', e', hb', p1, p2, p3⟩ := (h2.below RE.stays hbel).atDom hj
          injection e' with e'; injection e' with e1 e2 e3; subst e1; subst e2
          simp only [goodPrev] at hg
          obtain ⟨dp, hdp⟩ : ∃ dp, dp = l[j] := ⟨_, rfl⟩
          rw [← hdp] at p1 p2 p3 hg hpok
          obtain ⟨px, py, pd⟩ := dp
          simp only at p1 p2 p3
          have Hpok := Lib.hid hpok; have Hdp := Lib.hid hdp; clear hpok hdp e3
          have hwj : IntKind.i64.wrap (j : Int) = (j : Int) := IntWalk.i64_in _ (by omega)
          have hj0 : (0 : Int) ≤ (j : Int) := by omega
          have hjI : (j : Int) < (l.length : Int) := by omega
          have hk01 : (0 : Int) ≤ (j : Int) + 1 := by omega
          have hltI1 : (j : Int) + 1 < (l.length : Int) := by omega
          clear hk0 hltI
          rcases hbf : decide (domOrd (px, py, pd) < domOrd (x, y, dn)) with _ | _
          · rw [hbf] at hg
            simp only [Bool.and_false, Bool.false_and] at hg
            have Hok2 := Lib.hid hok; have Hdd := Lib.hid hd; have HG := Lib.hid hg; have Hbf := Lib.hid hbf; clear hok hd hg hbf
            go_wp2_with fail
            refine wp_region_held_drew (S := (fun w' => w'.cell? ⟨b, off + (j + 1) * 3, none⟩ = some (.int .i64 x) ∧ w'.cell? ⟨b, off + (j + 1) * 3 + 1, none⟩ = some (.int .i64 y) ∧ w'.cell? ⟨b, off + (j + 1) * 3 + 2, none⟩ = some (.bool dn) ∧ w'.cell? ⟨b, off + j * 3, none⟩ = some (.int .i64 px) ∧ w'.cell? ⟨b, off + j * 3 + 1, none⟩ = some (.int .i64 py) ∧ w'.cell? ⟨b, off + j * 3 + 2, none⟩ = some (.bool pd))) (by kernel_rfl) ?_ (fun hHeld => ?_)
            · (try dsimp only); go_keep
            refine wpAnyH_take (i := 0) (oi := { dst := some 16, op := Go.Op.move (Go.Operand.tmp 1), type := 37, pos := "l06_tiling.go:8", after := #[], guard := none }) (v := ?_) rfl (by kernel_rfl) (by kernel_rfl) (by kernel_rfl) (fun _ _ _ h => h) (Or.inl ⟨by rfl, ?_⟩) (by assumption) ?_
            rotate_left 1
            · (intro wS hSw; (try dsimp only at hSw); go_simp; (all_goals with_reducible rfl))
            simp only [Act.put, List.setIfInBounds_toArray, List.set_cons_zero, List.set_cons_succ]
            refine wpAnyH_take (i := 1) (oi := { dst := some 17, op := Go.Op.move (Go.Operand.tmp 6), type := 3, pos := "l06_tiling.go:8", after := #[], guard := none }) (v := ?_) rfl (by kernel_rfl) (by kernel_rfl) (by kernel_rfl) (fun _ _ _ h => h) (Or.inl ⟨by rfl, ?_⟩) (by assumption) ?_
            rotate_left 1
            · (intro wS hSw; (try dsimp only at hSw); go_simp; (all_goals with_reducible rfl))
            simp only [Act.put, List.setIfInBounds_toArray, List.set_cons_zero, List.set_cons_succ]
            refine wpAnyH_take (i := 2) (oi := { dst := some 18, op := Go.Op.indexAddr 37 (Go.Operand.tmp 16) (Go.Operand.tmp 17), type := 0, pos := "l06_tiling.go:8", after := #[{ on := 0, ground := Go.Ground.data }, { on := 1, ground := Go.Ground.data }], guard := none }) (v := ?_) rfl (by kernel_rfl) (by kernel_rfl) (by kernel_rfl) (fun _ _ _ h => h) (Or.inl ⟨by rfl, ?_⟩) (by assumption) ?_
            rotate_left 1
            · (intro wS hSw; (try dsimp only at hSw); go_simp; (all_goals with_reducible rfl))
            simp only [Act.put, List.setIfInBounds_toArray, List.set_cons_zero, List.set_cons_succ]
            refine wpAnyH_take (i := 3) (oi := { dst := some 19, op := Go.Op.load 73 (Go.Operand.tmp 18), type := 73, pos := "l06_tiling.go:8", after := #[{ on := 2, ground := Go.Ground.data }], guard := none }) (v := ?_) rfl (by kernel_rfl) (by kernel_rfl) (by kernel_rfl) (fun _ _ _ h => h) (Or.inl ⟨by rfl, ?_⟩) (by assumption) ?_
            rotate_left 1
            · (intro wS hSw; (try dsimp only at hSw); go_simp; (all_goals with_reducible rfl))
            simp only [Act.put, List.setIfInBounds_toArray, List.set_cons_zero, List.set_cons_succ]
            refine wpAnyH_ready (rs := [4]) (by kernel_rfl) (by simp) ?_
            refine AllReadyH.cons (o := { dst := some 20, op := Go.Op.call { callee := Go.Callee.value (Go.Operand.func 88), args := #[Go.Operand.tmp 19], argTypes := #[73] }, type := 4, pos := "l06_tiling.go:8", after := #[{ on := 3, ground := Go.Ground.data }], guard := none }) rfl (fun K hK => ?_) AllReadyH.nil
            go_simp
            (first | (go_at_call 88; go_must (refine (domOkS_any x y dn _).mono ?_; rintro e wX ⟨rfl, hbX⟩; rw [Hok2.out]; obtain ⟨hcX, hfX, hzX⟩ := bkn hbX wr.heap.size hz; have hz := hzX; have Bw := Bw.tr hbX); (try go_wp2_with fail)) | (go_at_call 163; go_must (refine (beforeS_yes px py pd x y dn _ Hpok.out Hok2.out).mono ?_; rintro e wX ⟨rfl, hbX⟩; rw [Hbf.out]; obtain ⟨hcX, hfX, hzX⟩ := bkn hbX wr.heap.size hz; have hz := hzX; have Bw := Bw.tr hbX); (try go_wp2_with fail)))
            refine hK.out _ _ ?_ (fun hHeld => ?_)
            · (try dsimp only); go_keep
            clear hK K
            (try simp only [Act.put, List.setIfInBounds_toArray, List.set_cons_zero, List.set_cons_succ])
            refine wpAnyH_take (i := 5) (oi := { dst := some 21, op := Go.Op.unOp Go.UnOp.not 4 (Go.Operand.tmp 20), type := 4, pos := "l06_tiling.go:8", after := #[{ on := 4, ground := Go.Ground.data }], guard := none }) (v := ?_) rfl (by kernel_rfl) (by kernel_rfl) (by kernel_rfl) (fun _ _ _ h => h) (Or.inl ⟨by rfl, ?_⟩) (by assumption) ?_
            rotate_left 1
            · (intro wS hSw; (try dsimp only at hSw); go_simp; (all_goals with_reducible rfl))
            simp only [Act.put, List.setIfInBounds_toArray, List.set_cons_zero, List.set_cons_succ]
            refine wpAnyH_take (i := 6) (oi := { dst := some 22, op := Go.Op.move (Go.Operand.tmp 21), type := 4, pos := "l06_tiling.go:8", after := #[{ on := 5, ground := Go.Ground.data }, { on := 4, ground := Go.Ground.chain }], guard := none }) (v := ?_) rfl (by kernel_rfl) (by kernel_rfl) (by kernel_rfl) (fun _ _ _ h => h) (Or.inl ⟨by rfl, ?_⟩) (by assumption) ?_
            rotate_left 1
            · (intro wS hSw; (try dsimp only at hSw); go_simp; (all_goals with_reducible rfl))
            simp only [Act.put, List.setIfInBounds_toArray, List.set_cons_zero, List.set_cons_succ]
            refine wpAnyH_take (i := 7) (oi := { dst := some 23, op := Go.Op.move (Go.Operand.tmp 6), type := 3, pos := "l06_tiling.go:8", after := #[{ on := 6, ground := Go.Ground.guard }], guard := some (6, false) }) (v := ?_) rfl (by kernel_rfl) (by kernel_rfl) (by kernel_rfl) (fun _ _ _ h => h) (Or.inl ⟨by rfl, ?_⟩) (by assumption) ?_
            rotate_left 1
            · (intro wS hSw; (try dsimp only at hSw); go_simp; (all_goals with_reducible rfl))
            simp only [Act.put, List.setIfInBounds_toArray, List.set_cons_zero, List.set_cons_succ]
            refine wpAnyH_take (i := 8) (oi := { dst := some 24, op := Go.Op.binOp Go.BinOp.gtr 3 (Go.Operand.tmp 23) (Go.Operand.const (Go.Value.int Go.IntKind.i64 0)) 3, type := 4, pos := "l06_tiling.go:8", after := #[{ on := 7, ground := Go.Ground.data }, { on := 6, ground := Go.Ground.guard }], guard := some (6, false) }) (v := ?_) rfl (by kernel_rfl) (by kernel_rfl) (by kernel_rfl) (fun _ _ _ h => h) (Or.inl ⟨by rfl, ?_⟩) (by assumption) ?_
            rotate_left 1
            · (intro wS hSw; (try dsimp only at hSw); go_simp; (all_goals with_reducible rfl))
            simp only [Act.put, List.setIfInBounds_toArray, List.set_cons_zero, List.set_cons_succ]
            refine wpAnyH_take (i := 9) (oi := { dst := some 25, op := Go.Op.move (Go.Operand.tmp 24), type := 4, pos := "l06_tiling.go:8", after := #[{ on := 8, ground := Go.Ground.data }, { on := 6, ground := Go.Ground.chain }, { on := 6, ground := Go.Ground.guard }], guard := some (6, false) }) (v := ?_) rfl (by kernel_rfl) (by kernel_rfl) (by kernel_rfl) (fun _ _ _ h => h) (Or.inl ⟨by rfl, ?_⟩) (by assumption) ?_
            rotate_left 1
            · (intro wS hSw; (try dsimp only at hSw); go_simp; (all_goals with_reducible rfl))
            simp only [Act.put, List.setIfInBounds_toArray, List.set_cons_zero, List.set_cons_succ]
            refine wpAnyH_take (i := 10) (oi := { dst := some 26, op := Go.Op.move (Go.Operand.tmp 1), type := 37, pos := "l06_tiling.go:8", after := #[{ on := 9, ground := Go.Ground.guard }], guard := some (9, true) }) (v := ?_) rfl (by kernel_rfl) (by kernel_rfl) (by kernel_rfl) (fun _ _ _ h => h) (Or.inl ⟨by rfl, ?_⟩) (by assumption) ?_
            rotate_left 1
            · (intro wS hSw; (try dsimp only at hSw); go_simp; (all_goals with_reducible rfl))
            simp only [Act.put, List.setIfInBounds_toArray, List.set_cons_zero, List.set_cons_succ]
            refine wpAnyH_take (i := 11) (oi := { dst := some 27, op := Go.Op.move (Go.Operand.tmp 6), type := 3, pos := "l06_tiling.go:8", after := #[{ on := 9, ground := Go.Ground.guard }], guard := some (9, true) }) (v := ?_) rfl (by kernel_rfl) (by kernel_rfl) (by kernel_rfl) (fun _ _ _ h => h) (Or.inl ⟨by rfl, ?_⟩) (by assumption) ?_
            rotate_left 1
            · (intro wS hSw; (try dsimp only at hSw); go_simp; (all_goals with_reducible rfl))
            simp only [Act.put, List.setIfInBounds_toArray, List.set_cons_zero, List.set_cons_succ]
            refine wpAnyH_take (i := 12) (oi := { dst := some 28, op := Go.Op.binOp Go.BinOp.sub 3 (Go.Operand.tmp 27) (Go.Operand.const (Go.Value.int Go.IntKind.i64 1)) 3, type := 3, pos := "l06_tiling.go:8", after := #[{ on := 11, ground := Go.Ground.data }, { on := 9, ground := Go.Ground.guard }], guard := some (9, true) }) (v := ?_) rfl (by kernel_rfl) (by kernel_rfl) (by kernel_rfl) (fun _ _ _ h => h) (Or.inl ⟨by rfl, ?_⟩) (by assumption) ?_
            rotate_left 1
            · (intro wS hSw; (try dsimp only at hSw); go_simp; (all_goals with_reducible rfl))
            simp only [Act.put, List.setIfInBounds_toArray, List.set_cons_zero, List.set_cons_succ]
            refine wpAnyH_take (i := 13) (oi := { dst := some 29, op := Go.Op.indexAddr 37 (Go.Operand.tmp 26) (Go.Operand.tmp 28), type := 0, pos := "l06_tiling.go:8", after := #[{ on := 10, ground := Go.Ground.data }, { on := 12, ground := Go.Ground.data }, { on := 9, ground := Go.Ground.guard }], guard := some (9, true) }) (v := ?_) rfl (by kernel_rfl) (by kernel_rfl) (by kernel_rfl) (fun _ _ _ h => h) (Or.inl ⟨by rfl, ?_⟩) (by assumption) ?_
            rotate_left 1
            · (intro wS hSw; (try dsimp only at hSw); go_simp; (all_goals with_reducible rfl))
            simp only [Act.put, List.setIfInBounds_toArray, List.set_cons_zero, List.set_cons_succ]
            refine wpAnyH_take (i := 14) (oi := { dst := some 30, op := Go.Op.load 73 (Go.Operand.tmp 29), type := 73, pos := "l06_tiling.go:8", after := #[{ on := 13, ground := Go.Ground.data }, { on := 9, ground := Go.Ground.guard }], guard := some (9, true) }) (v := ?_) rfl (by kernel_rfl) (by kernel_rfl) (by kernel_rfl) (fun _ _ _ h => h) (Or.inl ⟨by rfl, ?_⟩) (by assumption) ?_
            rotate_left 1
            · (intro wS hSw; (try dsimp only at hSw); go_simp; (all_goals with_reducible rfl))
            simp only [Act.put, List.setIfInBounds_toArray, List.set_cons_zero, List.set_cons_succ]
            refine wpAnyH_take (i := 15) (oi := { dst := some 31, op := Go.Op.move (Go.Operand.tmp 1), type := 37, pos := "l06_tiling.go:8", after := #[{ on := 9, ground := Go.Ground.guard }], guard := some (9, true) }) (v := ?_) rfl (by kernel_rfl) (by kernel_rfl) (by kernel_rfl) (fun _ _ _ h => h) (Or.inl ⟨by rfl, ?_⟩) (by assumption) ?_
            rotate_left 1
            · (intro wS hSw; (try dsimp only at hSw); go_simp; (all_goals with_reducible rfl))
            simp only [Act.put, List.setIfInBounds_toArray, List.set_cons_zero, List.set_cons_succ]
            refine wpAnyH_take (i := 16) (oi := { dst := some 32, op := Go.Op.move (Go.Operand.tmp 6), type := 3, pos := "l06_tiling.go:8", after := #[{ on := 9, ground := Go.Ground.guard }], guard := some (9, true) }) (v := ?_) rfl (by kernel_rfl) (by kernel_rfl) (by kernel_rfl) (fun _ _ _ h => h) (Or.inl ⟨by rfl, ?_⟩) (by assumption) ?_
            rotate_left 1
            · (intro wS hSw; (try dsimp only at hSw); go_simp; (all_goals with_reducible rfl))
            simp only [Act.put, List.setIfInBounds_toArray, List.set_cons_zero, List.set_cons_succ]
            refine wpAnyH_take (i := 17) (oi := { dst := some 33, op := Go.Op.indexAddr 37 (Go.Operand.tmp 31) (Go.Operand.tmp 32), type := 0, pos := "l06_tiling.go:8", after := #[{ on := 15, ground := Go.Ground.data }, { on := 16, ground := Go.Ground.data }, { on := 9, ground := Go.Ground.guard }], guard := some (9, true) }) (v := ?_) rfl (by kernel_rfl) (by kernel_rfl) (by kernel_rfl) (fun _ _ _ h => h) (Or.inl ⟨by rfl, ?_⟩) (by assumption) ?_
            rotate_left 1
            · (intro wS hSw; (try dsimp only at hSw); go_simp; (all_goals with_reducible rfl))
            simp only [Act.put, List.setIfInBounds_toArray, List.set_cons_zero, List.set_cons_succ]
            refine wpAnyH_take (i := 18) (oi := { dst := some 34, op := Go.Op.load 73 (Go.Operand.tmp 33), type := 73, pos := "l06_tiling.go:8", after := #[{ on := 17, ground := Go.Ground.data }, { on := 9, ground := Go.Ground.guard }], guard := some (9, true) }) (v := ?_) rfl (by kernel_rfl) (by kernel_rfl) (by kernel_rfl) (fun _ _ _ h => h) (Or.inl ⟨by rfl, ?_⟩) (by assumption) ?_
            rotate_left 1
            · (intro wS hSw; (try dsimp only at hSw); go_simp; (all_goals with_reducible rfl))
            simp only [Act.put, List.setIfInBounds_toArray, List.set_cons_zero, List.set_cons_succ]
            refine wpAnyH_ready (rs := [19]) (by kernel_rfl) (by simp) ?_
            refine AllReadyH.cons (o := { dst := some 35, op := Go.Op.call { callee := Go.Callee.value (Go.Operand.func 163), args := #[Go.Operand.tmp 30, Go.Operand.tmp 34], argTypes := #[73, 73] }, type := 4, pos := "l06_tiling.go:8", after := #[{ on := 14, ground := Go.Ground.data }, { on := 18, ground := Go.Ground.data }, { on := 9, ground := Go.Ground.chain }, { on := 9, ground := Go.Ground.guard }], guard := some (9, true) }) rfl (fun K hK => ?_) AllReadyH.nil
            go_simp
            (first | (go_at_call 88; go_must (refine (domOkS_any x y dn _).mono ?_; rintro e wX ⟨rfl, hbX⟩; rw [Hok2.out]; obtain ⟨hcX, hfX, hzX⟩ := bkn hbX wr.heap.size hz; have hz := hzX; have Bw := Bw.tr hbX); (try go_wp2_with fail)) | (go_at_call 163; go_must (refine (beforeS_yes px py pd x y dn _ Hpok.out Hok2.out).mono ?_; rintro e wX ⟨rfl, hbX⟩; rw [Hbf.out]; obtain ⟨hcX, hfX, hzX⟩ := bkn hbX wr.heap.size hz; have hz := hzX; have Bw := Bw.tr hbX); (try go_wp2_with fail)))
            refine hK.out _ _ ?_ (fun hHeld => ?_)
            · (try dsimp only); go_keep
            clear hK K
            (try simp only [Act.put, List.setIfInBounds_toArray, List.set_cons_zero, List.set_cons_succ])
            refine wpAnyH_take (i := 20) (oi := { dst := some 36, op := Go.Op.unOp Go.UnOp.not 4 (Go.Operand.tmp 35), type := 4, pos := "l06_tiling.go:8", after := #[{ on := 19, ground := Go.Ground.data }, { on := 9, ground := Go.Ground.guard }], guard := some (9, true) }) (v := ?_) rfl (by kernel_rfl) (by kernel_rfl) (by kernel_rfl) (fun _ _ _ h => h) (Or.inl ⟨by rfl, ?_⟩) (by assumption) ?_
            rotate_left 1
            · (intro wS hSw; (try dsimp only at hSw); go_simp; (all_goals with_reducible rfl))
            simp only [Act.put, List.setIfInBounds_toArray, List.set_cons_zero, List.set_cons_succ]
            refine wpAnyH_take (i := 21) (oi := { dst := some 37, op := Go.Op.pick (Go.Operand.tmp 25) (Go.Operand.tmp 36) (Go.Operand.const (Go.Value.bool false)), type := 4, pos := "l06_tiling.go:8", after := #[{ on := 9, ground := Go.Ground.data }, { on := 20, ground := Go.Ground.data }, { on := 6, ground := Go.Ground.guard }], guard := some (6, false) }) (v := ?_) rfl (by kernel_rfl) (by kernel_rfl) (by kernel_rfl) (fun _ _ _ h => h) (Or.inl ⟨by rfl, ?_⟩) (by assumption) ?_
            rotate_left 1
            · (intro wS hSw; (try dsimp only at hSw); go_simp; (all_goals with_reducible rfl))
            simp only [Act.put, List.setIfInBounds_toArray, List.set_cons_zero, List.set_cons_succ]
            refine wpAnyH_take (i := 22) (oi := { dst := some 38, op := Go.Op.pick (Go.Operand.tmp 22) (Go.Operand.const (Go.Value.bool true)) (Go.Operand.tmp 37), type := 4, pos := "l06_tiling.go:8", after := #[{ on := 6, ground := Go.Ground.data }, { on := 21, ground := Go.Ground.data }], guard := none }) (v := ?_) rfl (by kernel_rfl) (by kernel_rfl) (by kernel_rfl) (fun _ _ _ h => h) (Or.inl ⟨by rfl, ?_⟩) (by assumption) ?_
            rotate_left 1
            · (intro wS hSw; (try dsimp only at hSw); go_simp; (all_goals with_reducible rfl))
            simp only [Act.put, List.setIfInBounds_toArray, List.set_cons_zero, List.set_cons_succ]
            refine wpAnyH_done (by kernel_rfl) ?_ _
            go_wp2
            go_ret
            exact ⟨retB HG.out, hbel.tr Bw⟩
          · rw [hbf] at hg
            simp only [Bool.and_true] at hg
            have Hok2 := Lib.hid hok; have Hdd := Lib.hid hd; have Hg2 := Lib.hid hg; have Hbf := Lib.hid hbf; clear hok hd hg hbf
            go_wp2_with fail
            refine wp_region_held_drew (S := (fun w' => w'.cell? ⟨b, off + (j + 1) * 3, none⟩ = some (.int .i64 x) ∧ w'.cell? ⟨b, off + (j + 1) * 3 + 1, none⟩ = some (.int .i64 y) ∧ w'.cell? ⟨b, off + (j + 1) * 3 + 2, none⟩ = some (.bool dn) ∧ w'.cell? ⟨b, off + j * 3, none⟩ = some (.int .i64 px) ∧ w'.cell? ⟨b, off + j * 3 + 1, none⟩ = some (.int .i64 py) ∧ w'.cell? ⟨b, off + j * 3 + 2, none⟩ = some (.bool pd))) (by kernel_rfl) ?_ (fun hHeld => ?_)
            · (try dsimp only); go_keep
            refine wpAnyH_take (i := 0) (oi := { dst := some 16, op := Go.Op.move (Go.Operand.tmp 1), type := 37, pos := "l06_tiling.go:8", after := #[], guard := none }) (v := ?_) rfl (by kernel_rfl) (by kernel_rfl) (by kernel_rfl) (fun _ _ _ h => h) (Or.inl ⟨by rfl, ?_⟩) (by assumption) ?_
            rotate_left 1
            · (intro wS hSw; (try dsimp only at hSw); go_simp; (all_goals with_reducible rfl))
            simp only [Act.put, List.setIfInBounds_toArray, List.set_cons_zero, List.set_cons_succ]
            refine wpAnyH_take (i := 1) (oi := { dst := some 17, op := Go.Op.move (Go.Operand.tmp 6), type := 3, pos := "l06_tiling.go:8", after := #[], guard := none }) (v := ?_) rfl (by kernel_rfl) (by kernel_rfl) (by kernel_rfl) (fun _ _ _ h => h) (Or.inl ⟨by rfl, ?_⟩) (by assumption) ?_
            rotate_left 1
            · (intro wS hSw; (try dsimp only at hSw); go_simp; (all_goals with_reducible rfl))
            simp only [Act.put, List.setIfInBounds_toArray, List.set_cons_zero, List.set_cons_succ]
            refine wpAnyH_take (i := 2) (oi := { dst := some 18, op := Go.Op.indexAddr 37 (Go.Operand.tmp 16) (Go.Operand.tmp 17), type := 0, pos := "l06_tiling.go:8", after := #[{ on := 0, ground := Go.Ground.data }, { on := 1, ground := Go.Ground.data }], guard := none }) (v := ?_) rfl (by kernel_rfl) (by kernel_rfl) (by kernel_rfl) (fun _ _ _ h => h) (Or.inl ⟨by rfl, ?_⟩) (by assumption) ?_
            rotate_left 1
            · (intro wS hSw; (try dsimp only at hSw); go_simp; (all_goals with_reducible rfl))
            simp only [Act.put, List.setIfInBounds_toArray, List.set_cons_zero, List.set_cons_succ]
            refine wpAnyH_take (i := 3) (oi := { dst := some 19, op := Go.Op.load 73 (Go.Operand.tmp 18), type := 73, pos := "l06_tiling.go:8", after := #[{ on := 2, ground := Go.Ground.data }], guard := none }) (v := ?_) rfl (by kernel_rfl) (by kernel_rfl) (by kernel_rfl) (fun _ _ _ h => h) (Or.inl ⟨by rfl, ?_⟩) (by assumption) ?_
            rotate_left 1
            · (intro wS hSw; (try dsimp only at hSw); go_simp; (all_goals with_reducible rfl))
            simp only [Act.put, List.setIfInBounds_toArray, List.set_cons_zero, List.set_cons_succ]
            refine wpAnyH_ready (rs := [4]) (by kernel_rfl) (by simp) ?_
            refine AllReadyH.cons (o := { dst := some 20, op := Go.Op.call { callee := Go.Callee.value (Go.Operand.func 88), args := #[Go.Operand.tmp 19], argTypes := #[73] }, type := 4, pos := "l06_tiling.go:8", after := #[{ on := 3, ground := Go.Ground.data }], guard := none }) rfl (fun K hK => ?_) AllReadyH.nil
            go_simp
            (first | (go_at_call 88; go_must (refine (domOkS_any x y dn _).mono ?_; rintro e wX ⟨rfl, hbX⟩; rw [Hok2.out]; obtain ⟨hcX, hfX, hzX⟩ := bkn hbX wr.heap.size hz; have hz := hzX; have Bw := Bw.tr hbX); (try go_wp2_with fail)) | (go_at_call 163; go_must (refine (beforeS_yes px py pd x y dn _ Hpok.out Hok2.out).mono ?_; rintro e wX ⟨rfl, hbX⟩; rw [Hbf.out]; obtain ⟨hcX, hfX, hzX⟩ := bkn hbX wr.heap.size hz; have hz := hzX; have Bw := Bw.tr hbX); (try go_wp2_with fail)))
            refine hK.out _ _ ?_ (fun hHeld => ?_)
            · (try dsimp only); go_keep
            clear hK K
            (try simp only [Act.put, List.setIfInBounds_toArray, List.set_cons_zero, List.set_cons_succ])
            refine wpAnyH_take (i := 5) (oi := { dst := some 21, op := Go.Op.unOp Go.UnOp.not 4 (Go.Operand.tmp 20), type := 4, pos := "l06_tiling.go:8", after := #[{ on := 4, ground := Go.Ground.data }], guard := none }) (v := ?_) rfl (by kernel_rfl) (by kernel_rfl) (by kernel_rfl) (fun _ _ _ h => h) (Or.inl ⟨by rfl, ?_⟩) (by assumption) ?_
            rotate_left 1
            · (intro wS hSw; (try dsimp only at hSw); go_simp; (all_goals with_reducible rfl))
            simp only [Act.put, List.setIfInBounds_toArray, List.set_cons_zero, List.set_cons_succ]
            refine wpAnyH_take (i := 6) (oi := { dst := some 22, op := Go.Op.move (Go.Operand.tmp 21), type := 4, pos := "l06_tiling.go:8", after := #[{ on := 5, ground := Go.Ground.data }, { on := 4, ground := Go.Ground.chain }], guard := none }) (v := ?_) rfl (by kernel_rfl) (by kernel_rfl) (by kernel_rfl) (fun _ _ _ h => h) (Or.inl ⟨by rfl, ?_⟩) (by assumption) ?_
            rotate_left 1
            · (intro wS hSw; (try dsimp only at hSw); go_simp; (all_goals with_reducible rfl))
            simp only [Act.put, List.setIfInBounds_toArray, List.set_cons_zero, List.set_cons_succ]
            refine wpAnyH_take (i := 7) (oi := { dst := some 23, op := Go.Op.move (Go.Operand.tmp 6), type := 3, pos := "l06_tiling.go:8", after := #[{ on := 6, ground := Go.Ground.guard }], guard := some (6, false) }) (v := ?_) rfl (by kernel_rfl) (by kernel_rfl) (by kernel_rfl) (fun _ _ _ h => h) (Or.inl ⟨by rfl, ?_⟩) (by assumption) ?_
            rotate_left 1
            · (intro wS hSw; (try dsimp only at hSw); go_simp; (all_goals with_reducible rfl))
            simp only [Act.put, List.setIfInBounds_toArray, List.set_cons_zero, List.set_cons_succ]
            refine wpAnyH_take (i := 8) (oi := { dst := some 24, op := Go.Op.binOp Go.BinOp.gtr 3 (Go.Operand.tmp 23) (Go.Operand.const (Go.Value.int Go.IntKind.i64 0)) 3, type := 4, pos := "l06_tiling.go:8", after := #[{ on := 7, ground := Go.Ground.data }, { on := 6, ground := Go.Ground.guard }], guard := some (6, false) }) (v := ?_) rfl (by kernel_rfl) (by kernel_rfl) (by kernel_rfl) (fun _ _ _ h => h) (Or.inl ⟨by rfl, ?_⟩) (by assumption) ?_
            rotate_left 1
            · (intro wS hSw; (try dsimp only at hSw); go_simp; (all_goals with_reducible rfl))
            simp only [Act.put, List.setIfInBounds_toArray, List.set_cons_zero, List.set_cons_succ]
            refine wpAnyH_take (i := 9) (oi := { dst := some 25, op := Go.Op.move (Go.Operand.tmp 24), type := 4, pos := "l06_tiling.go:8", after := #[{ on := 8, ground := Go.Ground.data }, { on := 6, ground := Go.Ground.chain }, { on := 6, ground := Go.Ground.guard }], guard := some (6, false) }) (v := ?_) rfl (by kernel_rfl) (by kernel_rfl) (by kernel_rfl) (fun _ _ _ h => h) (Or.inl ⟨by rfl, ?_⟩) (by assumption) ?_
            rotate_left 1
            · (intro wS hSw; (try dsimp only at hSw); go_simp; (all_goals with_reducible rfl))
            simp only [Act.put, List.setIfInBounds_toArray, List.set_cons_zero, List.set_cons_succ]
            refine wpAnyH_take (i := 10) (oi := { dst := some 26, op := Go.Op.move (Go.Operand.tmp 1), type := 37, pos := "l06_tiling.go:8", after := #[{ on := 9, ground := Go.Ground.guard }], guard := some (9, true) }) (v := ?_) rfl (by kernel_rfl) (by kernel_rfl) (by kernel_rfl) (fun _ _ _ h => h) (Or.inl ⟨by rfl, ?_⟩) (by assumption) ?_
            rotate_left 1
            · (intro wS hSw; (try dsimp only at hSw); go_simp; (all_goals with_reducible rfl))
            simp only [Act.put, List.setIfInBounds_toArray, List.set_cons_zero, List.set_cons_succ]
            refine wpAnyH_take (i := 11) (oi := { dst := some 27, op := Go.Op.move (Go.Operand.tmp 6), type := 3, pos := "l06_tiling.go:8", after := #[{ on := 9, ground := Go.Ground.guard }], guard := some (9, true) }) (v := ?_) rfl (by kernel_rfl) (by kernel_rfl) (by kernel_rfl) (fun _ _ _ h => h) (Or.inl ⟨by rfl, ?_⟩) (by assumption) ?_
            rotate_left 1
            · (intro wS hSw; (try dsimp only at hSw); go_simp; (all_goals with_reducible rfl))
            simp only [Act.put, List.setIfInBounds_toArray, List.set_cons_zero, List.set_cons_succ]
            refine wpAnyH_take (i := 12) (oi := { dst := some 28, op := Go.Op.binOp Go.BinOp.sub 3 (Go.Operand.tmp 27) (Go.Operand.const (Go.Value.int Go.IntKind.i64 1)) 3, type := 3, pos := "l06_tiling.go:8", after := #[{ on := 11, ground := Go.Ground.data }, { on := 9, ground := Go.Ground.guard }], guard := some (9, true) }) (v := ?_) rfl (by kernel_rfl) (by kernel_rfl) (by kernel_rfl) (fun _ _ _ h => h) (Or.inl ⟨by rfl, ?_⟩) (by assumption) ?_
            rotate_left 1
            · (intro wS hSw; (try dsimp only at hSw); go_simp; (all_goals with_reducible rfl))
            simp only [Act.put, List.setIfInBounds_toArray, List.set_cons_zero, List.set_cons_succ]
            refine wpAnyH_take (i := 13) (oi := { dst := some 29, op := Go.Op.indexAddr 37 (Go.Operand.tmp 26) (Go.Operand.tmp 28), type := 0, pos := "l06_tiling.go:8", after := #[{ on := 10, ground := Go.Ground.data }, { on := 12, ground := Go.Ground.data }, { on := 9, ground := Go.Ground.guard }], guard := some (9, true) }) (v := ?_) rfl (by kernel_rfl) (by kernel_rfl) (by kernel_rfl) (fun _ _ _ h => h) (Or.inl ⟨by rfl, ?_⟩) (by assumption) ?_
            rotate_left 1
            · (intro wS hSw; (try dsimp only at hSw); go_simp; (all_goals with_reducible rfl))
            simp only [Act.put, List.setIfInBounds_toArray, List.set_cons_zero, List.set_cons_succ]
            refine wpAnyH_take (i := 14) (oi := { dst := some 30, op := Go.Op.load 73 (Go.Operand.tmp 29), type := 73, pos := "l06_tiling.go:8", after := #[{ on := 13, ground := Go.Ground.data }, { on := 9, ground := Go.Ground.guard }], guard := some (9, true) }) (v := ?_) rfl (by kernel_rfl) (by kernel_rfl) (by kernel_rfl) (fun _ _ _ h => h) (Or.inl ⟨by rfl, ?_⟩) (by assumption) ?_
            rotate_left 1
            · (intro wS hSw; (try dsimp only at hSw); go_simp; (all_goals with_reducible rfl))
            simp only [Act.put, List.setIfInBounds_toArray, List.set_cons_zero, List.set_cons_succ]
            refine wpAnyH_take (i := 15) (oi := { dst := some 31, op := Go.Op.move (Go.Operand.tmp 1), type := 37, pos := "l06_tiling.go:8", after := #[{ on := 9, ground := Go.Ground.guard }], guard := some (9, true) }) (v := ?_) rfl (by kernel_rfl) (by kernel_rfl) (by kernel_rfl) (fun _ _ _ h => h) (Or.inl ⟨by rfl, ?_⟩) (by assumption) ?_
            rotate_left 1
            · (intro wS hSw; (try dsimp only at hSw); go_simp; (all_goals with_reducible rfl))
            simp only [Act.put, List.setIfInBounds_toArray, List.set_cons_zero, List.set_cons_succ]
            refine wpAnyH_take (i := 16) (oi := { dst := some 32, op := Go.Op.move (Go.Operand.tmp 6), type := 3, pos := "l06_tiling.go:8", after := #[{ on := 9, ground := Go.Ground.guard }], guard := some (9, true) }) (v := ?_) rfl (by kernel_rfl) (by kernel_rfl) (by kernel_rfl) (fun _ _ _ h => h) (Or.inl ⟨by rfl, ?_⟩) (by assumption) ?_
            rotate_left 1
            · (intro wS hSw; (try dsimp only at hSw); go_simp; (all_goals with_reducible rfl))
            simp only [Act.put, List.setIfInBounds_toArray, List.set_cons_zero, List.set_cons_succ]
            refine wpAnyH_take (i := 17) (oi := { dst := some 33, op := Go.Op.indexAddr 37 (Go.Operand.tmp 31) (Go.Operand.tmp 32), type := 0, pos := "l06_tiling.go:8", after := #[{ on := 15, ground := Go.Ground.data }, { on := 16, ground := Go.Ground.data }, { on := 9, ground := Go.Ground.guard }], guard := some (9, true) }) (v := ?_) rfl (by kernel_rfl) (by kernel_rfl) (by kernel_rfl) (fun _ _ _ h => h) (Or.inl ⟨by rfl, ?_⟩) (by assumption) ?_
            rotate_left 1
            · (intro wS hSw; (try dsimp only at hSw); go_simp; (all_goals with_reducible rfl))
            simp only [Act.put, List.setIfInBounds_toArray, List.set_cons_zero, List.set_cons_succ]
            refine wpAnyH_take (i := 18) (oi := { dst := some 34, op := Go.Op.load 73 (Go.Operand.tmp 33), type := 73, pos := "l06_tiling.go:8", after := #[{ on := 17, ground := Go.Ground.data }, { on := 9, ground := Go.Ground.guard }], guard := some (9, true) }) (v := ?_) rfl (by kernel_rfl) (by kernel_rfl) (by kernel_rfl) (fun _ _ _ h => h) (Or.inl ⟨by rfl, ?_⟩) (by assumption) ?_
            rotate_left 1
            · (intro wS hSw; (try dsimp only at hSw); go_simp; (all_goals with_reducible rfl))
            simp only [Act.put, List.setIfInBounds_toArray, List.set_cons_zero, List.set_cons_succ]
            refine wpAnyH_ready (rs := [19]) (by kernel_rfl) (by simp) ?_
            refine AllReadyH.cons (o := { dst := some 35, op := Go.Op.call { callee := Go.Callee.value (Go.Operand.func 163), args := #[Go.Operand.tmp 30, Go.Operand.tmp 34], argTypes := #[73, 73] }, type := 4, pos := "l06_tiling.go:8", after := #[{ on := 14, ground := Go.Ground.data }, { on := 18, ground := Go.Ground.data }, { on := 9, ground := Go.Ground.chain }, { on := 9, ground := Go.Ground.guard }], guard := some (9, true) }) rfl (fun K hK => ?_) AllReadyH.nil
            go_simp
            (first | (go_at_call 88; go_must (refine (domOkS_any x y dn _).mono ?_; rintro e wX ⟨rfl, hbX⟩; rw [Hok2.out]; obtain ⟨hcX, hfX, hzX⟩ := bkn hbX wr.heap.size hz; have hz := hzX; have Bw := Bw.tr hbX); (try go_wp2_with fail)) | (go_at_call 163; go_must (refine (beforeS_yes px py pd x y dn _ Hpok.out Hok2.out).mono ?_; rintro e wX ⟨rfl, hbX⟩; rw [Hbf.out]; obtain ⟨hcX, hfX, hzX⟩ := bkn hbX wr.heap.size hz; have hz := hzX; have Bw := Bw.tr hbX); (try go_wp2_with fail)))
            refine hK.out _ _ ?_ (fun hHeld => ?_)
            · (try dsimp only); go_keep
            clear hK K
            (try simp only [Act.put, List.setIfInBounds_toArray, List.set_cons_zero, List.set_cons_succ])
            refine wpAnyH_take (i := 20) (oi := { dst := some 36, op := Go.Op.unOp Go.UnOp.not 4 (Go.Operand.tmp 35), type := 4, pos := "l06_tiling.go:8", after := #[{ on := 19, ground := Go.Ground.data }, { on := 9, ground := Go.Ground.guard }], guard := some (9, true) }) (v := ?_) rfl (by kernel_rfl) (by kernel_rfl) (by kernel_rfl) (fun _ _ _ h => h) (Or.inl ⟨by rfl, ?_⟩) (by assumption) ?_
            rotate_left 1
            · (intro wS hSw; (try dsimp only at hSw); go_simp; (all_goals with_reducible rfl))
            simp only [Act.put, List.setIfInBounds_toArray, List.set_cons_zero, List.set_cons_succ]
            refine wpAnyH_take (i := 21) (oi := { dst := some 37, op := Go.Op.pick (Go.Operand.tmp 25) (Go.Operand.tmp 36) (Go.Operand.const (Go.Value.bool false)), type := 4, pos := "l06_tiling.go:8", after := #[{ on := 9, ground := Go.Ground.data }, { on := 20, ground := Go.Ground.data }, { on := 6, ground := Go.Ground.guard }], guard := some (6, false) }) (v := ?_) rfl (by kernel_rfl) (by kernel_rfl) (by kernel_rfl) (fun _ _ _ h => h) (Or.inl ⟨by rfl, ?_⟩) (by assumption) ?_
            rotate_left 1
            · (intro wS hSw; (try dsimp only at hSw); go_simp; (all_goals with_reducible rfl))
            simp only [Act.put, List.setIfInBounds_toArray, List.set_cons_zero, List.set_cons_succ]
            refine wpAnyH_take (i := 22) (oi := { dst := some 38, op := Go.Op.pick (Go.Operand.tmp 22) (Go.Operand.const (Go.Value.bool true)) (Go.Operand.tmp 37), type := 4, pos := "l06_tiling.go:8", after := #[{ on := 6, ground := Go.Ground.data }, { on := 21, ground := Go.Ground.data }], guard := none }) (v := ?_) rfl (by kernel_rfl) (by kernel_rfl) (by kernel_rfl) (fun _ _ _ h => h) (Or.inl ⟨by rfl, ?_⟩) (by assumption) ?_
            rotate_left 1
            · (intro wS hSw; (try dsimp only at hSw); go_simp; (all_goals with_reducible rfl))
            simp only [Act.put, List.setIfInBounds_toArray, List.set_cons_zero, List.set_cons_succ]
            refine wpAnyH_done (by kernel_rfl) ?_ _
            have ownA := hown.below Bw
            have BA := hbel.tr Bw
            have zA : wX.cell? ⟨w.heap.size, 0, none⟩ = some (.slice A rows.length c) := (Bw.cell (p := ⟨w.heap.size, 0, none⟩) (by show w.heap.size < wr.heap.size; omega)).trans z1
            have hgA : w.heap.size + 1 < wX.heap.size := by have := Bw.size; omega
            have hbA : b < wX.heap.size := by have := Bw.size; omega
            have hgA0 : w.heap.size < wX.heap.size := by omega
            have hn0 : w.heap.size ≠ w.heap.size + 1 := by omega
            have r1 := hHeld.1
            have r2 := hHeld.2.1
            have r3 := (by first | exact hHeld.2.2 | exact hHeld.2.2.1 : wX.cell? _ = some (.bool dn))
            clear hcX hfX q1 q2 q3 z1
            obtain ⟨sx, sy, hsec⟩ : ∃ sx sy, sec (x, y, dn) = (sx, sy) := ⟨_, _, rfl⟩
            obtain ⟨hcI, hcJ⟩ := domOk_cells Hok2.out
            have hsub := sub_iff hleft Hok2.out
            obtain ⟨hI64, hJ64⟩ := domI_lt Hok2.out
            have hIe : domI (x, y, dn) = (cellIx (x, y)).toNat := rfl
            have hJe : domJ (x, y, dn) = (cellIx (sx, sy)).toNat := by unfold domJ; rw [hsec]
            rw [hsec] at hcJ
            simp only at hcI
            have hstep := fun h1 h2 => Hu.out.step hleft Hok2.out h1 h2
            have hg2 := Hg2.out
            rw [hsub] at hg2
            obtain ⟨D, hD⟩ : ∃ D, D = domSet (x, y, dn) := ⟨_, rfl⟩
            obtain ⟨I, hI⟩ : ∃ I, I = domI (x, y, dn) := ⟨_, rfl⟩
            obtain ⟨J, hJ⟩ : ∃ J, J = domJ (x, y, dn) := ⟨_, rfl⟩
            rw [← hI] at hI64 hIe hg2 hstep
            rw [← hJ] at hJ64 hJe hg2 hstep
            rw [← hD] at hg2 hstep
            have hqI : I < q.length := by rw [Hu.out.1]; exact hI64
            have hqJ : J < q.length := by rw [Hu.out.1]; exact hJ64
            have zI : wX.cell? ⟨w.heap.size + 1, I, none⟩ = some (.bool q[I]) := by
              have := ownA.slot lenBool Nat.one_pos hqI 0 (.bool q[I]) rfl
              rwa [Nat.mul_one, Nat.add_zero] at this
            have zJ : wX.cell? ⟨w.heap.size + 1, J, none⟩ = some (.bool q[J]) := by
              have := ownA.slot lenBool Nat.one_pos hqJ 0 (.bool q[J]) rfl
              rwa [Nat.mul_one, Nat.add_zero] at this
            have hbI := fun hh => Hu.out.bit hI64 (i := I) hh
            have hbJ := fun hh => Hu.out.bit hJ64 (i := J) hh
            have hoI := fun hh => Hu.out.out (i := I) hh
            have hoJ := fun hh => Hu.out.out (i := J) hh
            obtain ⟨qI, hqIe⟩ : ∃ qI, qI = q[I] := ⟨_, rfl⟩
            obtain ⟨qJ, hqJe⟩ : ∃ qJ, qJ = q[J] := ⟨_, rfl⟩
            rw [← hqIe] at zI hbI
            rw [← hqJe] at zJ hbJ
            have HbI := Lib.hid hbI; have HbJ := Lib.hid hbJ; have HoI := Lib.hid hoI; have HoJ := Lib.hid hoJ; have HG3 := Lib.hid hg2; have HST := Lib.hid hstep
            have HcI := Lib.hid hcI; have HcJ := Lib.hid hcJ; have HIe := Lib.hid hIe; have HJe := Lib.hid hJe; have Hsec := Lib.hid hsec
            have HI := Lib.hid hI; have HJ := Lib.hid hJ; have HD := Lib.hid hD; have HqI := Lib.hid hqIe; have HqJ := Lib.hid hqJe
            clear hbI hbJ hoI hoJ hg2 hstep hcI hcJ hIe hJe hsec hsub hI hJ hD hqIe hqJe
            have hI0 : (0 : Int) ≤ (I : Int) := by omega
            have hJ0 : (0 : Int) ≤ (J : Int) := by omega
            have hI6 : (I : Int) < 64 := by omega
            have hJ6 : (J : Int) < 64 := by omega
            go_wp2_with fail
            refine (underS_any x y dn _ Hok2.out).mono ?_
            rintro e w7 ⟨rfl, hb7⟩
            obtain ⟨hc7, hf7, hz7⟩ := bk hb7
            (try simp at hz7)
            have hy7_0 : w.heap.size < w7.heap.size := by omega
            have hy7_1 : w.heap.size + 1 < w7.heap.size := by omega
            have hy7_2 : b < w7.heap.size := by omega
            rw [Hsec.out]
            have B7 := BA.tr hb7
            have hN0 : w7.heap.size + 1 + 1 ≤ ((w7.alloc (.cells #[.int .i64 x, .int .i64 y] 70)).alloc (.cells #[.int .i64 sx, .int .i64 sy] 70)).heap.size := by simp
            have hp1 : w.heap.size < w7.heap.size + 1 + 1 := by omega
            have hp2 : w.heap.size + 1 < w7.heap.size + 1 + 1 := by omega
            have hp3 : w7.heap.size < w7.heap.size + 1 + 1 := by omega
            have hp4 : w7.heap.size + 1 < w7.heap.size + 1 + 1 := by omega
            have hn1 : w.heap.size ≠ w7.heap.size := by omega
            have hn2 : w.heap.size ≠ w7.heap.size + 1 := by omega
            have hn3 : w.heap.size + 1 ≠ w7.heap.size := by omega
            have hn4 : w7.heap.size ≠ w.heap.size + 1 := by omega
            have hn5 : w7.heap.size ≠ w.heap.size := by omega
            have hn6 : w.heap.size + 1 ≠ w7.heap.size + 1 := by omega
            have hn7 : w7.heap.size + 1 ≠ w.heap.size + 1 := by omega
            have B7a := (B7.al (.cells #[.int .i64 x, .int .i64 y] 70)).al (.cells #[.int .i64 sx, .int .i64 sy] 70)
            have own7 := ((ownA.below hb7).alloc (.cells #[.int .i64 x, .int .i64 y] 70)).alloc (.cells #[.int .i64 sx, .int .i64 sy] 70)
            go_wp2_with fail
            refine (hasCellS_yes _ rows x y s I _ (h.below RE.stays B7a) HcI.out Hok Hse HIe.out).mono ?_
            rintro e w8 ⟨rfl, hb8⟩
            obtain ⟨hc8, hf8, hz8⟩ := bkn hb8 _ hN0
            have B8 := B7a.tr hb8
            rcases e1 : s.testBit I with _ | _
            · go_wp2
              go_ret
              exact ⟨retB (by have := HG3.out; rw [HoI.out e1] at this; simpa using this), B8⟩
            · go_wp2_with fail
              refine (hasCellS_yes _ rows sx sy s J _ (h.below RE.stays B8) HcJ.out Hok Hse HJe.out).mono ?_
              rintro e w9 ⟨rfl, hb9⟩
              obtain ⟨hc9, hf9, hz9⟩ := bkn hb9 _ hz8
              have B9 := B8.tr hb9
              rcases e2 : s.testBit J with _ | _
              · go_wp2
                go_ret
                exact ⟨retB (by have := HG3.out; rw [HoJ.out e2] at this; simpa using this), B9⟩
              · have HvI := Lib.hid (HbI.out e1); have HvJ := Lib.hid (HbJ.out e2)
                go_wp2_with fail
                refine (cellIndexS_nat x y I _ HcI.out HIe.out).mono ?_
                rintro e w10 ⟨rfl, hb10⟩
                obtain ⟨hc10, hf10, hz10⟩ := bkn hb10 _ hz9
                have B10 := B9.tr hb10
                rcases qI with _ | _
                · go_wp2_with fail
                  refine (cellIndexS_nat sx sy J _ HcJ.out HJe.out).mono ?_
                  rintro e w11 ⟨rfl, hb11⟩
                  obtain ⟨hc11, hf11, hz11⟩ := bkn hb11 _ hz10
                  have B11 := B10.tr hb11
                  rcases qJ with _ | _
                  · go_wp2_with fail
                    refine (cellIndexS_nat x y I _ HcI.out HIe.out).mono ?_
                    rintro e w12 ⟨rfl, hb12⟩
                    obtain ⟨hc12, hf12, hz12⟩ := bkn hb12 _ hz11
                    have own12 := ((((own7.below hb8).below hb9).below hb10).below hb11).below hb12
                    have bR12 := ((((((((bR.bl Bw).bl hb7).alloc (.cells #[.int .i64 x, .int .i64 y] 70)).alloc (.cells #[.int .i64 sx, .int .i64 sy] 70)).bl hb8).bl hb9).bl hb10).bl hb11).bl hb12
                    have B12 := B11.tr hb12
                    have hsf12 := own12.free
                    have own12s := own12.store1 lenBool hqI (y := true) rfl
                    have HlI : Hid (left.testBit I = true) := Lib.hid (by have k := HvI.out; simpa using k)
                    have HlJ : Hid (left.testBit J = true) := Lib.hid (by have k := HvJ.out; simpa using k)
                    clear hf7 hf8 hf9 hf10 hf11 hf12
                    go_wp2_with fail
                    refine (cellIndexS_nat sx sy J _ HcJ.out HJe.out).mono ?_
                    rintro e w13 ⟨rfl, hb13⟩
                    have own13 := own12s.below hb13
                    have bR13 := (bR12.far hn0 _).bl hb13
                    have B13 := (B12.st ⟨w.heap.size + 1, I, none⟩ (.bool true) (Nat.le_succ _)).tr hb13
                    obtain ⟨u13, s13⟩ := own13.slot1 lenBool (k := J) (by rw [List.length_set]; exact hqJ)
                    have hsf13 := own13.free
                    clear hc7 hc8 hc9 hc10 hc11 hc12 zI zJ zA hsf12
                    go_wp2
                    go_roundw
                    case rel => exact ⟨(j + 1) + 1, sDiff left D, (q.set I true).set J true, by omega, by go_num, sDiff_lt hleft, by rw [prevOf_succ l _ hlt, ← Hdd.out]; exact Lib.hid (by have := HG3.out; rw [HlI.out, HlJ.out] at this; simpa using this), Lib.hid (fun e he => by rw [prevOf_succ l _ hlt, ← Hdd.out] at he; injection he with he; rw [← he]; exact Hok2.out), Lib.hid (HST.out HlI.out HlJ.out), own13.store1 lenBool (by rw [List.length_set]; exact hqJ) rfl, bR13.far hn0 _, B13.st _ _ (Nat.le_succ _)⟩
                    case measure => simp [intOf]; omega
                  · go_wp2
                    go_ret
                    exact ⟨retB (by have := HG3.out; have k := HvJ.out; rw [show left.testBit J = false by simpa using k] at this; simpa using this), B11⟩
                · go_wp2
                  go_ret
                  exact ⟨retB (by have := HG3.out; have k := HvI.out; rw [show left.testBit I = false by simpa using k] at this; simpa using this), B10⟩
    · obtain rfl : k = l.length := by omega
      have hg := Hg.out
      rw [List.drop_of_length_le (Nat.le_refl _)] at hg
      have HG := Lib.hid hg; clear hg
      go_wp2_with fail
      refine (regionOkS_any _ rows _ (h.below RE.stays hbel)).mono ?_
      rintro e w1 ⟨rfl, hb1⟩
      obtain ⟨hc1, hf1, hz1⟩ := bk hb1
      (try simp at hz1)
      have hy1_0 : w.heap.size < w1.heap.size := by omega
      rw [regionOk_iff.2 Hok.out]
      go_wp2
      go_ret
      exact ⟨retB HG.out, hbel.tr hb1⟩
end Go.Proofs.Ytkbndchgmokabaa
