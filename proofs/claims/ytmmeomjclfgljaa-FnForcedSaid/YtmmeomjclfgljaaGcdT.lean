/- The greatest common divisor and the share of a domino: the walks. No conditions but sizes. -/
import Derived.Test.YtmmeomjclfgljaaForcPl
import Derived.Test.YtmmeomjclfgljaaFreeI
namespace Go.Proofs.Ytmmeomjclfgljaa
open Go.ChangeShapes Go.WideShapes Go.ChangeAt Go.RowKit
set_option linter.unusedVariables false
set_option linter.unusedSimpArgs false

theorem tmod_nat (a b : Nat) : Int.tmod (a : Int) (b : Int) = ((a % b : Nat) : Int) := by simp [Int.tmod]
theorem tdiv_nat (a b : Nat) : Int.tdiv (a : Int) (b : Int) = ((a / b : Nat) : Int) := by simp [Int.tdiv]
set_option maxHeartbeats 1000000 in
set_option maxRecDepth 100000 in
theorem gcdI_any (a0 b0 : Nat) (w : World) (ha : a0 ≤ 1000000000000000) (hb : b0 ≤ 1000000000000000) : Calls Try.prog 88 #[.int .i64 a0, .int .i64 b0] w (Ret (.int .i64 (Nat.gcd a0 b0 : Nat)) w) := by
  obtain ⟨G, hG⟩ : ∃ G, G = Nat.gcd a0 b0 := ⟨_, rfl⟩
  rw [← hG]
  have HG := Lib.hid hG.symm; clear hG
  go_enter Try.func88, Try.ntmps88
  go_wp2
  go_loopw [0, 1] (fun s0 s1 wr => ∃ a b : Nat, s0 = .int .i64 a ∧ s1 = .int .i64 b ∧ a ≤ 1000000000000000 ∧ b ≤ 1000000000000000 ∧ Hid (Nat.gcd a b = G) ∧ Below w.heap.size w wr) (fun _ i _ => (intOf i).toNat)
  case atStart => exact ⟨a0, b0, rfl, rfl, ha, hb, HG, Below.refl _ _⟩
  case round =>
    obtain ⟨a, b, rfl, rfl, ha1, hb1, Hg, hbe⟩ := hrel
    clear HG
    by_cases h0 : b = 0
    · subst h0
      have hg : a = G := by have := Hg.out; rwa [Nat.gcd_zero_right] at this
      subst hg
      clear Hg
      go_wp2
      go_ret
      exact ⟨rfl, hbe⟩
    · have hb0 : ((b : Int) != 0) = true := by rw [bne_iff_ne]; omega
      have hb2 : (b : Int) ≠ 0 := by omega
      have hlt : a % b < b := Nat.mod_lt _ (by omega)
      have Hg2 : Hid (Nat.gcd b (a % b) = G) := Lib.hid (by rw [← Hg.out, Nat.gcd_comm a b, Nat.gcd_rec b a, Nat.gcd_comm])
      obtain ⟨m, hm⟩ : ∃ m, m = a % b := ⟨_, rfl⟩
      have ht : Int.tmod (a : Int) (b : Int) = (m : Int) := by rw [hm]; exact tmod_nat a b
      have hw : IntKind.i64.wrap (Int.tmod (a : Int) (b : Int)) = (m : Int) := by rw [ht]; exact IntWalk.i64_in _ (by omega)
      have he : (a : Int) % (b : Int) = (m : Int) := by rw [hm]; simp
      rw [← hm] at Hg2 hlt
      clear hm Hg
      go_wp2_with fail
      go_quiet (fail)
      go_wp2
      go_roundw
      case rel => exact ⟨b, m, rfl, rfl, hb1, by omega, Hg2, below_drewN hbe _⟩
      case measure => simp [intOf]; omega
/-- Two numbers. -/
def Ret2 (a b : Int) (w : World) (e : Ending) (w' : World) : Prop := e = .returned (.tuple #[.int .i64 a, .int .i64 b]) ∧ Below w.heap.size w w'
abbrev oGcdT0 : Oper := { dst := some 9, op := Go.Op.load 26 (Go.Operand.tmp 2), type := 26, pos := "l15_forced.go:44", after := #[], guard := none }
abbrev oGcdT1 : Oper := { dst := some 10, op := Go.Op.load 66 (Go.Operand.tmp 3), type := 66, pos := "l15_forced.go:44", after := #[], guard := none }
abbrev oGcdT2 : Oper := { dst := some 12, op := Go.Op.load 26 (Go.Operand.tmp 2), type := 26, pos := "l15_forced.go:44", after := #[], guard := none }
abbrev oGcdT3 : Oper := { dst := some 11, op := Go.Op.call { callee := Go.Callee.value (Go.Operand.func 87), args := #[Go.Operand.tmp 9, Go.Operand.tmp 10], argTypes := #[26, 66] }, type := 3, pos := "l15_forced.go:44", after := #[{ on := 0, ground := Go.Ground.data }, { on := 1, ground := Go.Ground.data }], guard := none }
abbrev oGcdT4 : Oper := { dst := some 13, op := Go.Op.call { callee := Go.Callee.value (Go.Operand.func 68), args := #[Go.Operand.tmp 12], argTypes := #[26] }, type := 3, pos := "l15_forced.go:44", after := #[{ on := 3, ground := Go.Ground.data }, { on := 2, ground := Go.Ground.chain }], guard := none }
abbrev oGcdT5 : Oper := { dst := some 6, op := Go.Op.assign (Go.Operand.tmp 11), type := 3, pos := "l15_forced.go:44", after := #[{ on := 2, ground := Go.Ground.data }, { on := 4, ground := Go.Ground.chain }, { on := 0, ground := Go.Ground.phase }, { on := 1, ground := Go.Ground.phase }, { on := 2, ground := Go.Ground.phase }, { on := 3, ground := Go.Ground.textOnly Go.Departure.lateStores }, { on := 4, ground := Go.Ground.textOnly Go.Departure.lateStoresUnsure }], guard := none }
abbrev oGcdT6 : Oper := { dst := some 7, op := Go.Op.assign (Go.Operand.tmp 13), type := 3, pos := "l15_forced.go:44", after := #[{ on := 4, ground := Go.Ground.data }, { on := 5, ground := Go.Ground.chain }, { on := 0, ground := Go.Ground.phase }, { on := 1, ground := Go.Ground.phase }, { on := 2, ground := Go.Ground.phase }, { on := 3, ground := Go.Ground.phase }, { on := 4, ground := Go.Ground.phase }, { on := 5, ground := Go.Ground.phase }], guard := none }
set_option maxHeartbeats 1000000 in
set_option maxRecDepth 100000 in
theorem shareI_any (v : Value) (rows : List Int) (x y : Int) (d : Bool) (w : World) (h : Rd 1 RInt w v rows) (a b : Nat) (ha : cntWith rows (x, y, d) = (a : Int)) (hb : cntRows rows = (b : Int)) (h0 : 0 < a) :
    Calls Try.prog 36 #[.agg #[v], .agg #[.int .i64 x, .int .i64 y, .bool d]] w (Ret2 ((a / Nat.gcd a b : Nat) : Int) ((b / Nat.gcd a b : Nat) : Int) w) := by
  obtain ⟨A, c, rfl, hc, hm⟩ := h.form
  have hA := ((Below.refl w.heap.size w).al (.cells #[.slice A rows.length c] 26)).al (.cells #[.int .i64 x, .int .i64 y, .bool d] 66)
  have bX := (Blk.new_ w 26 #[.slice A rows.length c]).alloc (.cells #[.int .i64 x, .int .i64 y, .bool d] 66)
  have bD := Blk.new2 (w.alloc (.cells #[.slice A rows.length c] 26)) 66 #[.int .i64 x, .int .i64 y, .bool d] (w.heap.size + 1) (by simp)
  have i1 := cntWith_in rows (x, y, d)
  have i2 := cntRows_in rows
  rw [ha] at i1
  rw [hb] at i2
  have CW : ∀ (u : Value) (w : World), Rd 1 RInt w u rows → Calls Try.prog 87 #[.agg #[u], .agg #[.int .i64 x, .int .i64 y, .bool d]] w (Ret (.int .i64 a) w) := fun u w k1 => by have := cntWithI_any u rows x y d w k1; rw [ha] at this; exact this
  have CT : ∀ (u : Value) (w : World), Rd 1 RInt w u rows → Calls Try.prog 68 #[.agg #[u]] w (Ret (.int .i64 b) w) := fun u w k1 => by have := cntTilI_any u rows w k1; rw [hb] at this; exact this
  have CG : ∀ w, Calls Try.prog 88 #[.int .i64 a, .int .i64 b] w (Ret (.int .i64 (Nat.gcd a b : Nat)) w) := fun w => gcdI_any a b w (by omega) (by omega)
  obtain ⟨g, hg⟩ : ∃ g, g = Nat.gcd a b := ⟨_, rfl⟩
  have hg0 : 0 < g := by rw [hg]; exact Nat.gcd_pos_of_pos_left b h0
  rw [← hg] at CG ⊢
  have ha0 : ((a : Int) == 0) = false := by rw [beq_eq_false_iff_ne]; omega
  have hgz : ((g : Int) == 0) = false := by rw [beq_eq_false_iff_ne]; omega
  have hgi : (g : Int) ≠ 0 := by omega
  have l1 : a / g ≤ a := Nat.div_le_self _ _
  have l2 : b / g ≤ b := Nat.div_le_self _ _
  obtain ⟨p, hp⟩ : ∃ p, p = a / g := ⟨_, rfl⟩
  obtain ⟨q, hq⟩ : ∃ q, q = b / g := ⟨_, rfl⟩
  have t1 : Int.tdiv (a : Int) (g : Int) = (p : Int) := by rw [hp]; exact tdiv_nat a g
  have t2 : Int.tdiv (b : Int) (g : Int) = (q : Int) := by rw [hq]; exact tdiv_nat b g
  have e1 : (a : Int) / (g : Int) = (p : Int) := by rw [hp]; simp
  have e2 : (b : Int) / (g : Int) = (q : Int) := by rw [hq]; simp
  have w1 : IntKind.i64.wrap (p : Int) = (p : Int) := IntWalk.i64_in _ (by omega)
  have w2 : IntKind.i64.wrap (q : Int) = (q : Int) := IntWalk.i64_in _ (by omega)
  rw [← hp, ← hq]
  clear hp hq hg ha hb
  go_enter Try.func36, Try.ntmps36
  go_upto_region 1 with (fail)
  obtain ⟨W, hW⟩ : ∃ W, W = (w.alloc (.cells #[.slice A rows.length c] 26)).alloc (.cells #[.int .i64 x, .int .i64 y, .bool d] 66) := ⟨_, rfl⟩
  obtain ⟨gX, hgX⟩ : ∃ g, g = w.heap.size := ⟨_, rfl⟩
  obtain ⟨gD, hgD⟩ : ∃ g, g = w.heap.size + 1 := ⟨_, rfl⟩
  rw [← hW] at hA bX bD ⊢
  rw [← hgD] at bD ⊢
  rw [← hgX] at bX ⊢
  clear hW hgX hgD
  have z_0 := bX.c1
  have d_0 := bD.cell 0
  have d_1 := bD.cell 1
  have d_2 := bD.cell 2
  simp only [List.getElem?_toArray, List.getElem?_cons_zero, List.getElem?_cons_succ] at d_0 d_1 d_2
  have hXl := bX.lt
  have hDl := bD.lt
  have Bw : Below W.heap.size W W.drew := (Below.refl _ _).drew
  have hz : W.heap.size ≤ W.drew.heap.size := by simp
  refine wp_region_held_drew (S := (fun w' => w'.cell? ⟨gX, 0, none⟩ = some (.slice A rows.length c) ∧ w'.cell? ⟨gD, 0, none⟩ = some (.int .i64 x) ∧ w'.cell? ⟨gD, 1, none⟩ = some (.int .i64 y) ∧ w'.cell? ⟨gD, 2, none⟩ = some (.bool d))) (by kernel_rfl) ?_ (fun hHeld => ?_)
  · (try dsimp only); (try go_keep)
  refine tk 0 oGcdT0 rfl (by kernel_rfl) (v := ?_) (fun _ _ _ h => h) (Or.inl ⟨by rfl, ?_⟩) (by assumption) ?_
  rotate_left 1
  · (intro wS hSw; (try dsimp only at hSw); dsimp only [oGcdT0]; go_simp; (all_goals with_reducible rfl))
  simp only [oGcdT0, putL, List.set]
  refine tk 1 oGcdT1 rfl (by kernel_rfl) (v := ?_) (fun _ _ _ h => h) (Or.inl ⟨by rfl, ?_⟩) (by assumption) ?_
  rotate_left 1
  · (intro wS hSw; (try dsimp only at hSw); dsimp only [oGcdT1]; go_simp; (all_goals with_reducible rfl))
  simp only [oGcdT1, putL, List.set]
  refine tk 3 oGcdT2 rfl (by kernel_rfl) (v := ?_) (fun _ _ _ h => h) (Or.inl ⟨by rfl, ?_⟩) (by assumption) ?_
  rotate_left 1
  · (intro wS hSw; (try dsimp only at hSw); dsimp only [oGcdT2]; go_simp; (all_goals with_reducible rfl))
  simp only [oGcdT2, putL, List.set]
  refine wpAnyH_ready (rs := [2]) (by kernel_rfl) (by simp) ?_
  refine AllReadyH.cons (o := oGcdT3) rfl (fun K hK => ?_) AllReadyH.nil
  dsimp only [oGcdT3]
  go_simp
  (first | (go_at_call 87; go_must (refine (CW _ _ (h.below RE.stays (hA.tr Bw))).mono ?_; rintro e wX ⟨rfl, hbX⟩; obtain ⟨hcX, hfX, hzX⟩ := bkn hbX W.heap.size hz; have hz := hzX; have Bw := Bw.tr hbX); (try go_wp2_with fail)) | (go_at_call 68; go_must (refine (CT _ _ (h.below RE.stays (hA.tr Bw))).mono ?_; rintro e wX ⟨rfl, hbX⟩; obtain ⟨hcX, hfX, hzX⟩ := bkn hbX W.heap.size hz; have hz := hzX; have Bw := Bw.tr hbX); (try go_wp2_with fail)))
  refine hK.out _ _ ?_ (fun hHeld => ?_)
  · (try dsimp only); (try go_keep)
  clear hK K
  (try simp only [Act.put, List.setIfInBounds_toArray, List.set_cons_zero, List.set_cons_succ])
  refine wpAnyH_ready (rs := [4]) (by kernel_rfl) (by simp) ?_
  refine AllReadyH.cons (o := oGcdT4) rfl (fun K hK => ?_) AllReadyH.nil
  dsimp only [oGcdT4]
  go_simp
  (first | (go_at_call 87; go_must (refine (CW _ _ (h.below RE.stays (hA.tr Bw))).mono ?_; rintro e wX ⟨rfl, hbX⟩; obtain ⟨hcX, hfX, hzX⟩ := bkn hbX W.heap.size hz; have hz := hzX; have Bw := Bw.tr hbX); (try go_wp2_with fail)) | (go_at_call 68; go_must (refine (CT _ _ (h.below RE.stays (hA.tr Bw))).mono ?_; rintro e wX ⟨rfl, hbX⟩; obtain ⟨hcX, hfX, hzX⟩ := bkn hbX W.heap.size hz; have hz := hzX; have Bw := Bw.tr hbX); (try go_wp2_with fail)))
  refine hK.out _ _ ?_ (fun hHeld => ?_)
  · (try dsimp only); (try go_keep)
  clear hK K
  (try simp only [Act.put, List.setIfInBounds_toArray, List.set_cons_zero, List.set_cons_succ])
  refine tk 5 oGcdT5 rfl (by kernel_rfl) (v := ?_) (fun _ _ _ h => h) (Or.inl ⟨by rfl, ?_⟩) (by assumption) ?_
  rotate_left 1
  · (intro wS hSw; (try dsimp only at hSw); dsimp only [oGcdT5]; go_simp; (all_goals with_reducible rfl))
  simp only [oGcdT5, putL, List.set]
  refine tk 6 oGcdT6 rfl (by kernel_rfl) (v := ?_) (fun _ _ _ h => h) (Or.inl ⟨by rfl, ?_⟩) (by assumption) ?_
  rotate_left 1
  · (intro wS hSw; (try dsimp only at hSw); dsimp only [oGcdT6]; go_simp; (all_goals with_reducible rfl))
  simp only [oGcdT6, putL, List.set]
  refine wpAnyH_done (by kernel_rfl) ?_ _
  all_goals
    go_wp2_with fail
    refine (CG _).mono ?_
    rintro e wG ⟨rfl, hbG⟩
    go_wp2_with fail
    go_quiet (fail)
    go_wp2
    go_ret2
    exact ⟨rfl, below_drewN ((hA.tr Bw).tr hbG) _⟩
end Go.Proofs.Ytmmeomjclfgljaa
