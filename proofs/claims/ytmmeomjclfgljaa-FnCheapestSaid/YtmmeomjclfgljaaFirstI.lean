/- The first tiling, by the program: the walk. No conditions. -/
import Derived.Test.YtmmeomjclfgljaaFreeI
namespace Go.Proofs.Ytmmeomjclfgljaa
open Go.ChangeShapes Go.WideShapes Go.ChangeAt Go.RowKit
set_option linter.unusedVariables false
set_option linter.unusedSimpArgs false

/-- The first tiling of a region, if there is one. -/
def firstRows (rows : List Int) : List Dm := if cntRows rows = 0 then [] else firstT (setOf rows)
def tileB (rows : List Int) : Bool := decide (cntRows rows ≠ 0)
theorem firstRows_len (rows : List Int) : (firstRows rows).length ≤ 64 := by
  unfold firstRows; split
  · simp
  · exact firstT_len _
/-- The call returned a list of dominoes of its own and a bool. -/
def RetDB (l : List Dm) (b : Bool) (w : World) (e : Ending) (w' : World) : Prop := ∃ A c, e = .returned (.tuple #[.slice A l.length c, .bool b]) ∧ OwnL 66 3 eDom w.heap.size w' (.slice A l.length c) l ∧ Below w.heap.size w w'
theorem wpList_app1c {P : Program} {ops : Array Oper} {rest : List Oper} {o : Oper} {a : Act} {Q : Exit → Act → World → Prop} {α : Type} {t E : TypeId} {z : Value} {size bytes : Nat} (R : Row P t E z size bytes)
    {enc : α → List Value} (henc : ∀ x, (enc x).length = size) (h1 : ∀ x, ∀ u ∈ enc x, u.oneCell' = true)
    {W0 w : World} (hbel : Below W0.heap.size W0 w) {v : Value} {l : List α} (hown : OwnL E size enc W0.heap.size w v l) (y : α)
    (hlen : (l.length + 1) * bytes ≤ 140737488355328) (hlen2 : l.length + 1 ≤ maxLen) {g : Nat} (hg : g = w.heap.size)
    (hgd : o.guard = none) (s x : Operand) (ho : o.op = .call { callee := .builtin .append, args := #[s, x], argTypes := #[t, t] })
    (hs : a.eval s = v) (hx : a.eval x = .slice (some ⟨g, 0, none⟩) 1 1)
    (h : ∀ v' w', OwnL E size enc W0.heap.size w' v' (l ++ [y]) → Below W0.heap.size W0 w' → (w.alloc (.cells (enc y).toArray E)).grownBy w' v.ownBlock → (v'.ownBlock = v.ownBlock ∨ v'.ownBlock = some (w.heap.size + 1)) → wpList P ops Q rest (a.put o.dst v') w') :
    wpList P ops Q (o :: rest) a (w.alloc (.cells (enc y).toArray E)) := by
  subst hg
  exact wpList_app1 R henc h1 hbel hown y hlen hlen2 hgd s x ho hs hx h
theorem bit_none {s i : Nat} (hs : s < U64) : (bits .and .u64 ((s : Int) / 2 ^ i) 1 == 0) = !s.testBit i := by
  have e : (s : Int) / 2 ^ i = ((s / 2 ^ i : Nat) : Int) := by simp
  have h1 : s / 2 ^ i < 18446744073709551616 := Nat.lt_of_le_of_lt (Nat.div_le_self _ _) (by unfold U64 at hs; exact hs)
  have h2 := u64_and_nat (s / 2 ^ i) 1 h1 (by decide)
  rw [e, show (1 : Int) = ((1 : Nat) : Int) from rfl, h2, nat_mask1, Nat.testBit_eq_decide_div_mod_eq]
  rw [Bool.eq_iff_iff, beq_iff_eq, Bool.not_eq_true', decide_eq_false_iff_not]; omega
set_option maxRecDepth 100000 in
theorem firstI_any (s i x y : Nat) (w : World) (hs : s < U64) (Hl : Hid (LowBit s i)) (Hx : Hid (x = i % 8)) (Hy : Hid (y = i / 8)) : Calls Try.prog 133 #[.int .u64 s] w (Ret (.agg #[.int .i64 x, .int .i64 y]) w) := by
  have hi := Hl.out.1
  have hA := (Below.refl w.heap.size w).al (.cells #[.int .i64 0, .int .i64 0] 63)
  have bR := Blk.new_ w 63 #[.int .i64 0, .int .i64 0]
  go_enter Try.func133, Try.ntmps133
  go_wp2_with fail
  go_loop [3] (fun s3 => ∃ k : Nat, k ≤ i ∧ s3 = .int .i64 k) (fun s3 => i - (intOf s3).toNat)
  case atStart => exact ⟨0, by omega, rfl⟩
  case round =>
    obtain ⟨k, hk, rfl⟩ := hrel
    have hbit := bit_none (i := k) hs
    by_cases hlt : k < i
    · have hb : s.testBit k = false := Hl.out.2.2 k hlt
      rw [hb] at hbit
      have Hb := Lib.hid hb; clear hb
      go_wp2
      go_round
      case rel => exact ⟨k + 1, by omega, by go_num⟩
      case measure => simp [intOf]; omega
    · obtain rfl : k = i := by omega
      have hb := Hl.out.2.1
      rw [hb] at hbit
      have Hb := Lib.hid hb; clear hb
      go_wp2_with fail
      refine (cellAtI_nat k x y _ (by omega) Hx.out Hy.out).mono ?_
      rintro e w1 ⟨rfl, hb1⟩
      have bR1 := bR.bl hb1
      have B1 := hA.tr hb1
      obtain ⟨gR, hgR'⟩ : ∃ g, g = w.heap.size := ⟨_, rfl⟩
      have hgR : w.heap.size ≤ gR := by omega
      rw [← hgR'] at bR1 ⊢
      clear hgR' bR
      have z_0 := bR1.cell 0
      have z_1 := bR1.cell 1
      simp only [List.getElem?_toArray, List.getElem?_cons_zero, List.getElem?_cons_succ] at z_0 z_1
      have fR := fun j => bR1.frozen j
      have bE := (bR1.st 0 (.int .i64 x) #[.int .i64 x, .int .i64 0] rfl).st 1 (.int .i64 y) #[.int .i64 x, .int .i64 y] rfl
      have BE := (B1.st ⟨gR, 0, none⟩ (.int .i64 x) hgR).st ⟨gR, 1, none⟩ (.int .i64 y) hgR
      go_wp2
      have q_0 := bE.cell 0
      have q_1 := bE.cell 1
      simp only [List.getElem?_toArray, List.getElem?_cons_zero, List.getElem?_cons_succ] at q_0 q_1
      exact bodyPost_ret (v := .agg #[.int .i64 x, .int .i64 y]) (by simp [results, Try.results133, go_sem, q_0, q_1]) rfl ⟨rfl, BE⟩
abbrev oFirstI0 : Oper := { dst := some 23, op := Go.Op.load 66 (Go.Operand.tmp 7), type := 66, pos := "l08_list.go:55", after := #[], guard := none }
abbrev oFirstI1 : Oper := { dst := some 24, op := Go.Op.call { callee := Go.Callee.value (Go.Operand.func 98), args := #[Go.Operand.tmp 23], argTypes := #[66] }, type := 4, pos := "l08_list.go:55", after := #[{ on := 0, ground := Go.Ground.data }], guard := none }
abbrev oFirstI2 : Oper := { dst := some 25, op := Go.Op.unOp Go.UnOp.not 4 (Go.Operand.tmp 24), type := 4, pos := "l08_list.go:55", after := #[{ on := 1, ground := Go.Ground.data }], guard := none }
abbrev oFirstI3 : Oper := { dst := some 26, op := Go.Op.move (Go.Operand.tmp 25), type := 4, pos := "l08_list.go:55", after := #[{ on := 2, ground := Go.Ground.data }, { on := 1, ground := Go.Ground.chain }], guard := none }
abbrev oFirstI4 : Oper := { dst := some 27, op := Go.Op.move (Go.Operand.tmp 5), type := 101, pos := "l08_list.go:55", after := #[{ on := 3, ground := Go.Ground.guard }], guard := some (3, false) }
abbrev oFirstI5 : Oper := { dst := some 28, op := Go.Op.load 66 (Go.Operand.tmp 7), type := 66, pos := "l08_list.go:55", after := #[{ on := 3, ground := Go.Ground.guard }], guard := some (3, false) }
abbrev oFirstI6 : Oper := { dst := some 29, op := Go.Op.call { callee := Go.Callee.value (Go.Operand.func 83), args := #[Go.Operand.tmp 28], argTypes := #[66] }, type := 101, pos := "l08_list.go:55", after := #[{ on := 5, ground := Go.Ground.data }, { on := 3, ground := Go.Ground.chain }, { on := 3, ground := Go.Ground.guard }], guard := some (3, false) }
abbrev oFirstI7 : Oper := { dst := some 30, op := Go.Op.binOp Go.BinOp.and 101 (Go.Operand.tmp 27) (Go.Operand.tmp 29) 101, type := 101, pos := "l08_list.go:55", after := #[{ on := 4, ground := Go.Ground.data }, { on := 6, ground := Go.Ground.data }, { on := 3, ground := Go.Ground.guard }], guard := some (3, false) }
abbrev oFirstI8 : Oper := { dst := some 31, op := Go.Op.load 66 (Go.Operand.tmp 7), type := 66, pos := "l08_list.go:55", after := #[{ on := 3, ground := Go.Ground.guard }], guard := some (3, false) }
abbrev oFirstI9 : Oper := { dst := some 32, op := Go.Op.call { callee := Go.Callee.value (Go.Operand.func 83), args := #[Go.Operand.tmp 31], argTypes := #[66] }, type := 101, pos := "l08_list.go:55", after := #[{ on := 8, ground := Go.Ground.data }, { on := 6, ground := Go.Ground.chain }, { on := 3, ground := Go.Ground.guard }], guard := some (3, false) }
abbrev oFirstI10 : Oper := { dst := some 33, op := Go.Op.binOp Go.BinOp.neq 101 (Go.Operand.tmp 30) (Go.Operand.tmp 32) 101, type := 4, pos := "l08_list.go:55", after := #[{ on := 7, ground := Go.Ground.data }, { on := 9, ground := Go.Ground.data }, { on := 3, ground := Go.Ground.guard }], guard := some (3, false) }
abbrev oFirstI11 : Oper := { dst := some 34, op := Go.Op.pick (Go.Operand.tmp 26) (Go.Operand.const (Go.Value.bool true)) (Go.Operand.tmp 33), type := 4, pos := "l08_list.go:55", after := #[{ on := 3, ground := Go.Ground.data }, { on := 10, ground := Go.Ground.data }], guard := none }
abbrev oFirstI12 : Oper := { dst := some 35, op := Go.Op.move (Go.Operand.tmp 34), type := 4, pos := "l08_list.go:55", after := #[{ on := 11, ground := Go.Ground.data }, { on := 9, ground := Go.Ground.chain }], guard := none }
abbrev oFirstI13 : Oper := { dst := some 36, op := Go.Op.move (Go.Operand.tmp 5), type := 101, pos := "l08_list.go:55", after := #[{ on := 12, ground := Go.Ground.guard }], guard := some (12, false) }
abbrev oFirstI14 : Oper := { dst := some 37, op := Go.Op.load 66 (Go.Operand.tmp 7), type := 66, pos := "l08_list.go:55", after := #[{ on := 12, ground := Go.Ground.guard }], guard := some (12, false) }
abbrev oFirstI15 : Oper := { dst := some 38, op := Go.Op.call { callee := Go.Callee.value (Go.Operand.func 83), args := #[Go.Operand.tmp 37], argTypes := #[66] }, type := 101, pos := "l08_list.go:55", after := #[{ on := 14, ground := Go.Ground.data }, { on := 12, ground := Go.Ground.chain }, { on := 12, ground := Go.Ground.guard }], guard := some (12, false) }
abbrev oFirstI16 : Oper := { dst := some 39, op := Go.Op.binOp Go.BinOp.andNot 101 (Go.Operand.tmp 36) (Go.Operand.tmp 38) 101, type := 101, pos := "l08_list.go:55", after := #[{ on := 13, ground := Go.Ground.data }, { on := 15, ground := Go.Ground.data }, { on := 12, ground := Go.Ground.guard }], guard := some (12, false) }
abbrev oFirstI17 : Oper := { dst := some 40, op := Go.Op.call { callee := Go.Callee.value (Go.Operand.func 117), args := #[Go.Operand.tmp 39], argTypes := #[101] }, type := 3, pos := "l08_list.go:55", after := #[{ on := 16, ground := Go.Ground.data }, { on := 15, ground := Go.Ground.chain }, { on := 12, ground := Go.Ground.guard }], guard := some (12, false) }
abbrev oFirstI18 : Oper := { dst := some 41, op := Go.Op.binOp Go.BinOp.eql 3 (Go.Operand.tmp 40) (Go.Operand.const (Go.Value.int Go.IntKind.i64 0)) 3, type := 4, pos := "l08_list.go:55", after := #[{ on := 17, ground := Go.Ground.data }, { on := 12, ground := Go.Ground.guard }], guard := some (12, false) }
abbrev oFirstI19 : Oper := { dst := some 42, op := Go.Op.pick (Go.Operand.tmp 35) (Go.Operand.const (Go.Value.bool true)) (Go.Operand.tmp 41), type := 4, pos := "l08_list.go:55", after := #[{ on := 12, ground := Go.Ground.data }, { on := 18, ground := Go.Ground.data }], guard := none }
set_option maxHeartbeats 4000000 in
set_option maxRecDepth 100000 in
theorem firstTI_any (v : Value) (rows : List Int) (w : World) (h : Rd 1 RInt w v rows) : Calls Try.prog 105 #[.agg #[v]] w (RetDB (firstRows rows) (tileB rows) w) := by
  obtain ⟨A, c, rfl, hc, hm⟩ := h.form
  have hA := (Below.refl w.heap.size w).al (.cells #[.slice A rows.length c] 26)
  have bX := Blk.new_ w 26 #[.slice A rows.length c]
  by_cases h0 : cntRows rows = 0
  · have e1 : firstRows rows = [] := by unfold firstRows; rw [if_pos h0]
    have e2 : tileB rows = false := by unfold tileB; exact decide_eq_false (fun q => q h0)
    rw [e1, e2]
    have CT : ∀ (u : Value) (w : World), Rd 1 RInt w u rows → Calls Try.prog 74 #[.agg #[u]] w (Ret (.bool false) w) := fun u w k1 => isTileI_any u rows false w k1 (.inl ⟨h0, rfl⟩)
    clear h0 e1 e2
    go_enter Try.func105, Try.ntmps105
    go_wp2_with fail
    refine (CT _ _ (h.below RE.stays hA)).mono ?_
    rintro e w1 ⟨rfl, hb1⟩
    go_wp2
    go_ret2
    exact ⟨none, 0, rfl, OwnL.nil_, hA.tr hb1⟩
  · have hr : regionOk rows = true := by
      rcases q : regionOk rows with _ | _
      · exact absurd (show cntRows rows = 0 by unfold cntRows; rw [q]; rfl) h0
      · rfl
    have Hok : Hid (RowsOk rows) := Lib.hid (regionOk_iff.1 hr)
    have hs0 := setOf_lt Hok.out
    have e1 : firstRows rows = firstT (setOf rows) := by unfold firstRows; rw [if_neg h0]
    have e2 : tileB rows = true := by unfold tileB; exact decide_eq_true h0
    rw [e1, e2]
    have hc0 : cntSet (setOf rows) ≠ 0 := by unfold cntRows at h0; rw [if_pos hr] at h0; exact h0
    have CT : ∀ (u : Value) (w : World), Rd 1 RInt w u rows → Calls Try.prog 74 #[.agg #[u]] w (Ret (.bool true) w) := fun u w k1 => isTileI_any u rows true w k1 (.inr ⟨h0, rfl⟩)
    obtain ⟨s0, hs0e⟩ : ∃ s, s = setOf rows := ⟨_, rfl⟩
    have CS : ∀ (u : Value) (w : World), Rd 1 RInt w u rows → Calls Try.prog 77 #[.agg #[u]] w (Ret (.int .u64 (s0 : Nat)) w) := fun u w k1 => by rw [hs0e]; exact setI_any u rows w k1 Hok
    rw [← hs0e] at hs0 hc0 ⊢
    obtain ⟨R, hR⟩ : ∃ R, R = firstT s0 := ⟨_, rfl⟩
    have hRl : R.length ≤ 64 := by rw [hR]; exact firstT_len s0
    rw [← hR]
    have HR0 : Hid ([] ++ firstT s0 = R) := Lib.hid hR.symm
    have Hc0 := Lib.hid hc0
    clear h0 hr e1 e2 hs0e hR hc0
    go_enter Try.func105, Try.ntmps105
    go_wp2_with fail
    refine (CT _ _ (h.below RE.stays hA)).mono ?_
    rintro e w1 ⟨rfl, hb1⟩
    have B1 := (hA.tr hb1).al (.cells #[] 66)
    have bX1 := (bX.bl hb1).alloc (.cells #[] 66)
    have hX1 := (bX.bl hb1).lt
    have hXn : w.heap.size ≠ w1.heap.size := by omega
    have ownE : OwnL 66 3 eDom w.heap.size (w1.alloc (.cells #[] 66)) (.slice (some ⟨w1.heap.size, 0, none⟩) ([] : List Dm).length 0) [] :=
      (own_empty w1 (E := 66) (size := 3) (enc := eDom)).mono (hA.tr hb1).size
    have z0 := bX1.c1
    go_wp2_with fail
    refine (CS _ _ (h.below RE.stays B1)).mono ?_
    rintro e w2 ⟨rfl, hb2⟩
    have own2 := ownE.below hb2
    have B2 := B1.tr hb2
    clear hA bX B1 bX1 hb1 hb2 ownE z0 hX1 hXn
    go_wp2_with fail
    go_loopw [4, 5] (fun s4 s5 wr => ∃ (s : Nat) (out : List Dm) (A1 : Option Addr) (c1 : Nat), s < U64 ∧ s5 = .int .u64 s ∧ s4 = .slice A1 out.length c1 ∧ OwnL 66 3 eDom w.heap.size wr (.slice A1 out.length c1) out ∧ Below w.heap.size w wr ∧ Hid (cntSet s ≠ 0) ∧ Hid (out ++ firstT s = R)) (fun _ s5 _ => (intOf s5).toNat)
    case atStart => exact ⟨s0, [], _, _, hs0, rfl, rfl, own2, B2, Hc0, HR0⟩
    case round =>
      obtain ⟨s, out, A1, c1, hs, rfl, rfl, own, B, Hc, HR⟩ := hrel
      clear own2 B2 HR0 Hc0
      have hlen : out.length ≤ 64 := by have := congrArg List.length HR.out; rw [List.length_append] at this; omega
      by_cases hz : s = 0
      · subst hz
        have ho : out = R := by have := HR.out; rw [firstT_zero, List.append_nil] at this; exact this
        subst ho
        clear HR Hc
        go_wp2
        go_ret2
        exact ⟨_, _, rfl, own, B⟩
      · obtain ⟨i, hl⟩ := low_some hs hz
        have hs0' : ((s : Int) != 0) = true := by rw [bne_iff_ne]; omega
        obtain ⟨x, hx⟩ : ∃ x, x = i % 8 := ⟨_, rfl⟩
        obtain ⟨y, hy⟩ : ∃ y, y = i / 8 := ⟨_, rfl⟩
        have hi := hl.1
        obtain ⟨hfit, hc2, hft⟩ := first_step hs hl Hc.out
        have hless := sDiff_less hs hfit
        have Hl := Lib.hid hl; have Hx := Lib.hid hx; have Hy := Lib.hid hy
        have hrt : domRt i = ((x : Int), (y : Int), false) := by unfold domRt; rw [← hx, ← hy]
        have hdn : domDn i = ((x : Int), (y : Int), true) := by unfold domDn; rw [← hx, ← hy]
        have H8 : Hid ((out.length + 1) * 24 ≤ 140737488355328) := Lib.hid (by omega)
        have HM : Hid (out.length + 1 ≤ maxLen) := Lib.hid (by unfold maxLen; omega)
        clear hz hl hx hy
        go_wp2_with fail
        refine (firstI_any s i x y _ hs Hl Hx Hy).mono ?_
        rintro e w3 ⟨rfl, hb3⟩
        have hap : Value.ownBlock (.slice A1 out.length c1) ≠ some (w3.heap.size + 1) := fun e => by have := (World.ownsRow.lt (own.below hb3) _ e).2; omega
        have hDw : w.heap.size ≤ w3.heap.size + 1 := by have := (B.tr hb3).size; omega
        have own3 := ((own.below hb3).alloc (.cells #[.int .i64 x, .int .i64 y] 63)).alloc (.cells #[.int .i64 x, .int .i64 y, .bool false] 66)
        have B3 := ((B.tr hb3).al (.cells #[.int .i64 x, .int .i64 y] 63)).al (.cells #[.int .i64 x, .int .i64 y, .bool false] 66)
        have bD3 := Blk.new2 (w3.alloc (.cells #[.int .i64 x, .int .i64 y] 63)) 66 #[.int .i64 x, .int .i64 y, .bool false] (w3.heap.size + 1) (by simp)
        clear own B hb3
        go_upto_region 8 with (fail)
        obtain ⟨W, hW⟩ : ∃ W, W = (w3.alloc (.cells #[.int .i64 x, .int .i64 y] 63)).alloc (.cells #[.int .i64 x, .int .i64 y, .bool false] 66) := ⟨_, rfl⟩
        obtain ⟨gD, hgD⟩ : ∃ g, g = w3.heap.size + 1 := ⟨_, rfl⟩
        rw [← hW] at own3 B3 bD3 ⊢
        rw [← hgD] at bD3 hap hDw ⊢
        clear hW hgD
        have d_0 := bD3.cell 0
        have d_1 := bD3.cell 1
        have d_2 := bD3.cell 2
        simp only [List.getElem?_toArray, List.getElem?_cons_zero, List.getElem?_cons_succ] at d_0 d_1 d_2
        have hDl := bD3.lt
        have Bw : Below W.heap.size W W.drew := (Below.refl _ _).drew
        have hz : W.heap.size ≤ W.drew.heap.size := by simp
        rcases hg : goesRt s i with _ | _
        · have hst : stepD s i = ((x : Int), (y : Int), true) := by unfold stepD; rw [hg, if_neg (by simp), hdn]
          rw [hst] at hfit hc2 hft hless
          have hdo : domOk ((x : Int), (y : Int), true) = true := by unfold fitsD at hfit; rw [Bool.and_eq_true] at hfit; exact hfit.1
          unfold goesRt at hg
          rw [hrt] at hg
          have HR2 : Hid ((out ++ [((x : Int), (y : Int), true)]) ++ firstT (sDiff s (domSet ((x : Int), (y : Int), true))) = R) := Lib.hid (by rw [← HR.out, hft, List.append_assoc]; rfl)
          have hnl : sDiff s (domSet ((x : Int), (y : Int), true)) < U64 := sDiff_lt hs
          have CD : ∀ w, Calls Try.prog 83 #[.agg #[.int .i64 x, .int .i64 y, .bool true]] w (Ret (.int .u64 (domSet ((x : Int), (y : Int), true) : Nat)) w) := fun w => domSetI_yes x y true w hdo
          obtain ⟨u1, u2⟩ := u64_bits hs (domSet_lt hdo)
          have Hdo := Lib.hid hdo; have HC2 := Lib.hid hc2
          clear hst hft hfit hc2 hdo hrt hdn HR Hc
          rcases hok : domOk ((x : Int), (y : Int), false) with _ | _
          · have Hok2 := Lib.hid hok; clear hok hg
            refine wp_region_held_drew (S := (fun w' => w'.cell? ⟨gD, 0, none⟩ = some (.int .i64 x) ∧ w'.cell? ⟨gD, 1, none⟩ = some (.int .i64 y) ∧ w'.cell? ⟨gD, 2, none⟩ = some (.bool false))) (by kernel_rfl) ?_ (fun hHeld => ?_)
            · (try dsimp only); (try go_keep)
            refine tk 0 oFirstI0 rfl (by kernel_rfl) (v := ?_) (fun _ _ _ h => h) (Or.inl ⟨by rfl, ?_⟩) (by assumption) ?_
            rotate_left 1
            · (intro wS hSw; (try dsimp only at hSw); dsimp only [oFirstI0]; go_simp; (all_goals with_reducible rfl))
            simp only [oFirstI0, putL, List.set]
            refine wpAnyH_ready (rs := [1]) (by kernel_rfl) (by simp) ?_
            refine AllReadyH.cons (o := oFirstI1) rfl (fun K hK => ?_) AllReadyH.nil
            dsimp only [oFirstI1]
            go_simp
            (first | (go_at_call 98; go_must (refine (domOkI_any x y false _).mono ?_; rintro e wX ⟨rfl, hbX⟩; rw [Hok2.out];obtain ⟨hcX, hfX, hzX⟩ := bkn hbX W.heap.size hz; have hz := hzX; have Bw := Bw.tr hbX); (try go_wp2_with fail)))
            refine hK.out _ _ ?_ (fun hHeld => ?_)
            · (try dsimp only); (try go_keep)
            clear hK K
            (try simp only [Act.put, List.setIfInBounds_toArray, List.set_cons_zero, List.set_cons_succ])
            refine tk 2 oFirstI2 rfl (by kernel_rfl) (v := ?_) (fun _ _ _ h => h) (Or.inl ⟨by rfl, ?_⟩) (by assumption) ?_
            rotate_left 1
            · (intro wS hSw; (try dsimp only at hSw); dsimp only [oFirstI2]; go_simp; (all_goals with_reducible rfl))
            simp only [oFirstI2, putL, List.set]
            refine tk 3 oFirstI3 rfl (by kernel_rfl) (v := ?_) (fun _ _ _ h => h) (Or.inl ⟨by rfl, ?_⟩) (by assumption) ?_
            rotate_left 1
            · (intro wS hSw; (try dsimp only at hSw); dsimp only [oFirstI3]; go_simp; (all_goals with_reducible rfl))
            simp only [oFirstI3, putL, List.set]
            refine tk 4 oFirstI4 rfl (by kernel_rfl) (v := undef) (fun _ _ _ h => h) (Or.inr ⟨by rfl, rfl⟩) (by assumption) ?_
            simp only [oFirstI4, putL, List.set]
            refine tk 5 oFirstI5 rfl (by kernel_rfl) (v := undef) (fun _ _ _ h => h) (Or.inr ⟨by rfl, rfl⟩) (by assumption) ?_
            simp only [oFirstI5, putL, List.set]
            refine tk 6 oFirstI6 rfl (by kernel_rfl) (v := undef) (fun _ _ _ h => h) (Or.inr ⟨by rfl, rfl⟩) (by assumption) ?_
            simp only [oFirstI6, putL, List.set]
            refine tk 7 oFirstI7 rfl (by kernel_rfl) (v := undef) (fun _ _ _ h => h) (Or.inr ⟨by rfl, rfl⟩) (by assumption) ?_
            simp only [oFirstI7, putL, List.set]
            refine tk 8 oFirstI8 rfl (by kernel_rfl) (v := undef) (fun _ _ _ h => h) (Or.inr ⟨by rfl, rfl⟩) (by assumption) ?_
            simp only [oFirstI8, putL, List.set]
            refine tk 9 oFirstI9 rfl (by kernel_rfl) (v := undef) (fun _ _ _ h => h) (Or.inr ⟨by rfl, rfl⟩) (by assumption) ?_
            simp only [oFirstI9, putL, List.set]
            refine tk 10 oFirstI10 rfl (by kernel_rfl) (v := undef) (fun _ _ _ h => h) (Or.inr ⟨by rfl, rfl⟩) (by assumption) ?_
            simp only [oFirstI10, putL, List.set]
            refine tk 11 oFirstI11 rfl (by kernel_rfl) (v := ?_) (fun _ _ _ h => h) (Or.inl ⟨by rfl, ?_⟩) (by assumption) ?_
            rotate_left 1
            · (intro wS hSw; (try dsimp only at hSw); dsimp only [oFirstI11]; go_simp; (all_goals with_reducible rfl))
            simp only [oFirstI11, putL, List.set]
            refine tk 12 oFirstI12 rfl (by kernel_rfl) (v := ?_) (fun _ _ _ h => h) (Or.inl ⟨by rfl, ?_⟩) (by assumption) ?_
            rotate_left 1
            · (intro wS hSw; (try dsimp only at hSw); dsimp only [oFirstI12]; go_simp; (all_goals with_reducible rfl))
            simp only [oFirstI12, putL, List.set]
            refine tk 13 oFirstI13 rfl (by kernel_rfl) (v := undef) (fun _ _ _ h => h) (Or.inr ⟨by rfl, rfl⟩) (by assumption) ?_
            simp only [oFirstI13, putL, List.set]
            refine tk 14 oFirstI14 rfl (by kernel_rfl) (v := undef) (fun _ _ _ h => h) (Or.inr ⟨by rfl, rfl⟩) (by assumption) ?_
            simp only [oFirstI14, putL, List.set]
            refine tk 15 oFirstI15 rfl (by kernel_rfl) (v := undef) (fun _ _ _ h => h) (Or.inr ⟨by rfl, rfl⟩) (by assumption) ?_
            simp only [oFirstI15, putL, List.set]
            refine tk 16 oFirstI16 rfl (by kernel_rfl) (v := undef) (fun _ _ _ h => h) (Or.inr ⟨by rfl, rfl⟩) (by assumption) ?_
            simp only [oFirstI16, putL, List.set]
            refine tk 17 oFirstI17 rfl (by kernel_rfl) (v := undef) (fun _ _ _ h => h) (Or.inr ⟨by rfl, rfl⟩) (by assumption) ?_
            simp only [oFirstI17, putL, List.set]
            refine tk 18 oFirstI18 rfl (by kernel_rfl) (v := undef) (fun _ _ _ h => h) (Or.inr ⟨by rfl, rfl⟩) (by assumption) ?_
            simp only [oFirstI18, putL, List.set]
            refine tk 19 oFirstI19 rfl (by kernel_rfl) (v := ?_) (fun _ _ _ h => h) (Or.inl ⟨by rfl, ?_⟩) (by assumption) ?_
            rotate_left 1
            · (intro wS hSw; (try dsimp only at hSw); dsimp only [oFirstI19]; go_simp; (all_goals with_reducible rfl))
            simp only [oFirstI19, putL, List.set]
            refine wpAnyH_done (by kernel_rfl) ?_ _
            obtain ⟨V, hV⟩ : ∃ V, V = wX := ⟨_, rfl⟩
            rw [← hV] at Bw ⊢
            clear hV hcX hfX hz d_0 d_1 d_2
            (try clear hHeld)
            have own4 := own3.below Bw
            have B4 := B3.tr Bw
            have bD4 := bD3.bl Bw
            clear own3 B3 bD3 Bw
            have fD := fun j => bD4.frozen j
            have f_0 := bD4.cell 0
            have f_1 := bD4.cell 1
            have f_2 := bD4.cell 2
            simp only [List.getElem?_toArray, List.getElem?_cons_zero, List.getElem?_cons_succ] at f_0 f_1 f_2
            have bD5 := bD4.st 2 (.bool true) #[.int .i64 x, .int .i64 y, .bool true] rfl
            have own5 := own4.far (a := ⟨gD, 2, none⟩) hap (.bool true)
            have B5 := B4.st ⟨gD, 2, none⟩ (.bool true) hDw
            have d_0 := bD5.cell 0
            have d_1 := bD5.cell 1
            have d_2 := bD5.cell 2
            simp only [List.getElem?_toArray, List.getElem?_cons_zero, List.getElem?_cons_succ] at d_0 d_1 d_2
            go_wp2_with (at_builtin; go_must (refine wpList_app1c (enc := eDom) rowDom lenDom oneDom B5 own5 (((x : Int), (y : Int), true) : Dm) H8.out HM.out (by simp) rfl _ _ rfl rfl rfl ?_); intro v8 w8 own8 hb8 hg8 hd8; obtain ⟨A8, c8, rfl, hc8, hm8⟩ := own8.form; have bD8 := (bD5.alloc (.cells (eDom ((x : Int), (y : Int), true)).toArray 66)).grown hg8 (fun e => hap e.symm); have e_0 := bD8.cell 0; have e_1 := bD8.cell 1; have e_2 := bD8.cell 2; simp only [List.getElem?_toArray, List.getElem?_cons_zero, List.getElem?_cons_succ] at e_0 e_1 e_2)
            refine (CD _).mono ?_
            rintro e w9 ⟨rfl, hb9⟩
            go_wp2
            go_roundw
            case rel => exact ⟨_, _, _, _, hnl, rfl, by simp, own8.below hb9, hb8.tr hb9, HC2, HR2⟩
            case measure => simp [intOf]; omega
          · have hdl := domSet_lt hok
            obtain ⟨D, hD⟩ : ∃ D, D = domSet ((x : Int), (y : Int), false) := ⟨_, rfl⟩
            have CDf : ∀ w, Calls Try.prog 83 #[.agg #[.int .i64 x, .int .i64 y, .bool false]] w (Ret (.int .u64 (D : Nat)) w) := fun w => by rw [hD]; exact domSetI_yes x y false w hok
            rw [← hD] at hdl hg
            obtain ⟨u1, u2⟩ := u64_bits hs hdl
            unfold fitsD at hg
            rw [hok, Bool.true_and, ← hD] at hg
            have Hok2 := Lib.hid hok; clear hok hD
            by_cases q : s &&& D = D
            · have hne : (((s &&& D : Nat) : Int) != (D : Int)) = false := by rw [q]; simp
              have hcz : cntSet (sDiff s D) = 0 := by
                rw [decide_eq_true q, Bool.true_and, decide_eq_false_iff_not] at hg; omega
              have CN : ∀ w, Calls Try.prog 117 #[.int .u64 (sDiff s D : Nat)] w (Ret (.int .i64 0) w) := fun w => by have := cntI_any (sDiff s D) w (sDiff_lt hs); rw [hcz] at this; exact this
              clear q hg hcz
              go_region_held3 (fun w' => w'.cell? ⟨gD, 0, none⟩ = some (.int .i64 x) ∧ w'.cell? ⟨gD, 1, none⟩ = some (.int .i64 y) ∧ w'.cell? ⟨gD, 2, none⟩ = some (.bool false)) (go_keep) (first | (go_at_call 98; go_must (refine (domOkI_any x y false _).mono ?_; rintro e wX ⟨rfl, hbX⟩; rw [Hok2.out];obtain ⟨hcX, hfX, hzX⟩ := bkn hbX W.heap.size hz; have hz := hzX; have Bw := Bw.tr hbX); (try go_wp2_with fail)) | (go_at_call 83; go_must (refine (CDf _).mono ?_; rintro e wX ⟨rfl, hbX⟩; obtain ⟨hcX, hfX, hzX⟩ := bkn hbX W.heap.size hz; have hz := hzX; have Bw := Bw.tr hbX); (try go_wp2_with fail)) | (go_at_call 117; go_must (refine (CN _).mono ?_; rintro e wX ⟨rfl, hbX⟩; obtain ⟨hcX, hfX, hzX⟩ := bkn hbX W.heap.size hz; have hz := hzX; have Bw := Bw.tr hbX); (try go_wp2_with fail)))
              obtain ⟨V, hV⟩ : ∃ V, V = wX := ⟨_, rfl⟩
              rw [← hV] at Bw ⊢
              clear hV hcX hfX hz d_0 d_1 d_2
              (try clear hHeld)
              have own4 := own3.below Bw
              have B4 := B3.tr Bw
              have bD4 := bD3.bl Bw
              clear own3 B3 bD3 Bw
              have fD := fun j => bD4.frozen j
              have f_0 := bD4.cell 0
              have f_1 := bD4.cell 1
              have f_2 := bD4.cell 2
              simp only [List.getElem?_toArray, List.getElem?_cons_zero, List.getElem?_cons_succ] at f_0 f_1 f_2
              have bD5 := bD4.st 2 (.bool true) #[.int .i64 x, .int .i64 y, .bool true] rfl
              have own5 := own4.far (a := ⟨gD, 2, none⟩) hap (.bool true)
              have B5 := B4.st ⟨gD, 2, none⟩ (.bool true) hDw
              have d_0 := bD5.cell 0
              have d_1 := bD5.cell 1
              have d_2 := bD5.cell 2
              simp only [List.getElem?_toArray, List.getElem?_cons_zero, List.getElem?_cons_succ] at d_0 d_1 d_2
              go_wp2_with (at_builtin; go_must (refine wpList_app1c (enc := eDom) rowDom lenDom oneDom B5 own5 (((x : Int), (y : Int), true) : Dm) H8.out HM.out (by simp) rfl _ _ rfl rfl rfl ?_); intro v8 w8 own8 hb8 hg8 hd8; obtain ⟨A8, c8, rfl, hc8, hm8⟩ := own8.form; have bD8 := (bD5.alloc (.cells (eDom ((x : Int), (y : Int), true)).toArray 66)).grown hg8 (fun e => hap e.symm); have e_0 := bD8.cell 0; have e_1 := bD8.cell 1; have e_2 := bD8.cell 2; simp only [List.getElem?_toArray, List.getElem?_cons_zero, List.getElem?_cons_succ] at e_0 e_1 e_2)
              refine (CD _).mono ?_
              rintro e w9 ⟨rfl, hb9⟩
              go_wp2
              go_roundw
              case rel => exact ⟨_, _, _, _, hnl, rfl, by simp, own8.below hb9, hb8.tr hb9, HC2, HR2⟩
              case measure => simp [intOf]; omega
            · have hne : (((s &&& D : Nat) : Int) != (D : Int)) = true := by rw [bne_iff_ne]; omega
              clear q hg
              refine wp_region_held_drew (S := (fun w' => w'.cell? ⟨gD, 0, none⟩ = some (.int .i64 x) ∧ w'.cell? ⟨gD, 1, none⟩ = some (.int .i64 y) ∧ w'.cell? ⟨gD, 2, none⟩ = some (.bool false))) (by kernel_rfl) ?_ (fun hHeld => ?_)
              · (try dsimp only); (try go_keep)
              refine tk 0 oFirstI0 rfl (by kernel_rfl) (v := ?_) (fun _ _ _ h => h) (Or.inl ⟨by rfl, ?_⟩) (by assumption) ?_
              rotate_left 1
              · (intro wS hSw; (try dsimp only at hSw); dsimp only [oFirstI0]; go_simp; (all_goals with_reducible rfl))
              simp only [oFirstI0, putL, List.set]
              refine wpAnyH_ready (rs := [1]) (by kernel_rfl) (by simp) ?_
              refine AllReadyH.cons (o := oFirstI1) rfl (fun K hK => ?_) AllReadyH.nil
              dsimp only [oFirstI1]
              go_simp
              (first | (go_at_call 98; go_must (refine (domOkI_any x y false _).mono ?_; rintro e wX ⟨rfl, hbX⟩; rw [Hok2.out];obtain ⟨hcX, hfX, hzX⟩ := bkn hbX W.heap.size hz; have hz := hzX; have Bw := Bw.tr hbX); (try go_wp2_with fail)) | (go_at_call 83; go_must (refine (CDf _).mono ?_; rintro e wX ⟨rfl, hbX⟩; obtain ⟨hcX, hfX, hzX⟩ := bkn hbX W.heap.size hz; have hz := hzX; have Bw := Bw.tr hbX); (try go_wp2_with fail)))
              refine hK.out _ _ ?_ (fun hHeld => ?_)
              · (try dsimp only); (try go_keep)
              clear hK K
              (try simp only [Act.put, List.setIfInBounds_toArray, List.set_cons_zero, List.set_cons_succ])
              refine tk 2 oFirstI2 rfl (by kernel_rfl) (v := ?_) (fun _ _ _ h => h) (Or.inl ⟨by rfl, ?_⟩) (by assumption) ?_
              rotate_left 1
              · (intro wS hSw; (try dsimp only at hSw); dsimp only [oFirstI2]; go_simp; (all_goals with_reducible rfl))
              simp only [oFirstI2, putL, List.set]
              refine tk 3 oFirstI3 rfl (by kernel_rfl) (v := ?_) (fun _ _ _ h => h) (Or.inl ⟨by rfl, ?_⟩) (by assumption) ?_
              rotate_left 1
              · (intro wS hSw; (try dsimp only at hSw); dsimp only [oFirstI3]; go_simp; (all_goals with_reducible rfl))
              simp only [oFirstI3, putL, List.set]
              refine tk 4 oFirstI4 rfl (by kernel_rfl) (v := ?_) (fun _ _ _ h => h) (Or.inl ⟨by rfl, ?_⟩) (by assumption) ?_
              rotate_left 1
              · (intro wS hSw; (try dsimp only at hSw); dsimp only [oFirstI4]; go_simp; (all_goals with_reducible rfl))
              simp only [oFirstI4, putL, List.set]
              refine tk 5 oFirstI5 rfl (by kernel_rfl) (v := ?_) (fun _ _ _ h => h) (Or.inl ⟨by rfl, ?_⟩) (by assumption) ?_
              rotate_left 1
              · (intro wS hSw; (try dsimp only at hSw); dsimp only [oFirstI5]; go_simp; (all_goals with_reducible rfl))
              simp only [oFirstI5, putL, List.set]
              refine tk 8 oFirstI8 rfl (by kernel_rfl) (v := ?_) (fun _ _ _ h => h) (Or.inl ⟨by rfl, ?_⟩) (by assumption) ?_
              rotate_left 1
              · (intro wS hSw; (try dsimp only at hSw); dsimp only [oFirstI8]; go_simp; (all_goals with_reducible rfl))
              simp only [oFirstI8, putL, List.set]
              refine wpAnyH_ready (rs := [6]) (by kernel_rfl) (by simp) ?_
              refine AllReadyH.cons (o := oFirstI6) rfl (fun K hK => ?_) AllReadyH.nil
              dsimp only [oFirstI6]
              go_simp
              (first | (go_at_call 98; go_must (refine (domOkI_any x y false _).mono ?_; rintro e wX ⟨rfl, hbX⟩; rw [Hok2.out];obtain ⟨hcX, hfX, hzX⟩ := bkn hbX W.heap.size hz; have hz := hzX; have Bw := Bw.tr hbX); (try go_wp2_with fail)) | (go_at_call 83; go_must (refine (CDf _).mono ?_; rintro e wX ⟨rfl, hbX⟩; obtain ⟨hcX, hfX, hzX⟩ := bkn hbX W.heap.size hz; have hz := hzX; have Bw := Bw.tr hbX); (try go_wp2_with fail)))
              refine hK.out _ _ ?_ (fun hHeld => ?_)
              · (try dsimp only); (try go_keep)
              clear hK K
              (try simp only [Act.put, List.setIfInBounds_toArray, List.set_cons_zero, List.set_cons_succ])
              refine tk 7 oFirstI7 rfl (by kernel_rfl) (v := ?_) (fun _ _ _ h => h) (Or.inl ⟨by rfl, ?_⟩) (by assumption) ?_
              rotate_left 1
              · (intro wS hSw; (try dsimp only at hSw); dsimp only [oFirstI7]; go_simp; (all_goals with_reducible rfl))
              simp only [oFirstI7, putL, List.set]
              refine wpAnyH_ready (rs := [9]) (by kernel_rfl) (by simp) ?_
              refine AllReadyH.cons (o := oFirstI9) rfl (fun K hK => ?_) AllReadyH.nil
              dsimp only [oFirstI9]
              go_simp
              (first | (go_at_call 98; go_must (refine (domOkI_any x y false _).mono ?_; rintro e wX ⟨rfl, hbX⟩; rw [Hok2.out];obtain ⟨hcX, hfX, hzX⟩ := bkn hbX W.heap.size hz; have hz := hzX; have Bw := Bw.tr hbX); (try go_wp2_with fail)) | (go_at_call 83; go_must (refine (CDf _).mono ?_; rintro e wX ⟨rfl, hbX⟩; obtain ⟨hcX, hfX, hzX⟩ := bkn hbX W.heap.size hz; have hz := hzX; have Bw := Bw.tr hbX); (try go_wp2_with fail)))
              refine hK.out _ _ ?_ (fun hHeld => ?_)
              · (try dsimp only); (try go_keep)
              clear hK K
              (try simp only [Act.put, List.setIfInBounds_toArray, List.set_cons_zero, List.set_cons_succ])
              refine tk 10 oFirstI10 rfl (by kernel_rfl) (v := ?_) (fun _ _ _ h => h) (Or.inl ⟨by rfl, ?_⟩) (by assumption) ?_
              rotate_left 1
              · (intro wS hSw; (try dsimp only at hSw); dsimp only [oFirstI10]; go_simp; (all_goals with_reducible rfl))
              simp only [oFirstI10, putL, List.set]
              refine tk 11 oFirstI11 rfl (by kernel_rfl) (v := ?_) (fun _ _ _ h => h) (Or.inl ⟨by rfl, ?_⟩) (by assumption) ?_
              rotate_left 1
              · (intro wS hSw; (try dsimp only at hSw); dsimp only [oFirstI11]; go_simp; (all_goals with_reducible rfl))
              simp only [oFirstI11, putL, List.set]
              refine tk 12 oFirstI12 rfl (by kernel_rfl) (v := ?_) (fun _ _ _ h => h) (Or.inl ⟨by rfl, ?_⟩) (by assumption) ?_
              rotate_left 1
              · (intro wS hSw; (try dsimp only at hSw); dsimp only [oFirstI12]; go_simp; (all_goals with_reducible rfl))
              simp only [oFirstI12, putL, List.set]
              refine tk 13 oFirstI13 rfl (by kernel_rfl) (v := undef) (fun _ _ _ h => h) (Or.inr ⟨by rfl, rfl⟩) (by assumption) ?_
              simp only [oFirstI13, putL, List.set]
              refine tk 14 oFirstI14 rfl (by kernel_rfl) (v := undef) (fun _ _ _ h => h) (Or.inr ⟨by rfl, rfl⟩) (by assumption) ?_
              simp only [oFirstI14, putL, List.set]
              refine tk 15 oFirstI15 rfl (by kernel_rfl) (v := undef) (fun _ _ _ h => h) (Or.inr ⟨by rfl, rfl⟩) (by assumption) ?_
              simp only [oFirstI15, putL, List.set]
              refine tk 16 oFirstI16 rfl (by kernel_rfl) (v := undef) (fun _ _ _ h => h) (Or.inr ⟨by rfl, rfl⟩) (by assumption) ?_
              simp only [oFirstI16, putL, List.set]
              refine tk 17 oFirstI17 rfl (by kernel_rfl) (v := undef) (fun _ _ _ h => h) (Or.inr ⟨by rfl, rfl⟩) (by assumption) ?_
              simp only [oFirstI17, putL, List.set]
              refine tk 18 oFirstI18 rfl (by kernel_rfl) (v := undef) (fun _ _ _ h => h) (Or.inr ⟨by rfl, rfl⟩) (by assumption) ?_
              simp only [oFirstI18, putL, List.set]
              refine tk 19 oFirstI19 rfl (by kernel_rfl) (v := ?_) (fun _ _ _ h => h) (Or.inl ⟨by rfl, ?_⟩) (by assumption) ?_
              rotate_left 1
              · (intro wS hSw; (try dsimp only at hSw); dsimp only [oFirstI19]; go_simp; (all_goals with_reducible rfl))
              simp only [oFirstI19, putL, List.set]
              refine wpAnyH_done (by kernel_rfl) ?_ _
              obtain ⟨V, hV⟩ : ∃ V, V = wX := ⟨_, rfl⟩
              rw [← hV] at Bw ⊢
              clear hV hcX hfX hz d_0 d_1 d_2
              (try clear hHeld)
              have own4 := own3.below Bw
              have B4 := B3.tr Bw
              have bD4 := bD3.bl Bw
              clear own3 B3 bD3 Bw
              have fD := fun j => bD4.frozen j
              have f_0 := bD4.cell 0
              have f_1 := bD4.cell 1
              have f_2 := bD4.cell 2
              simp only [List.getElem?_toArray, List.getElem?_cons_zero, List.getElem?_cons_succ] at f_0 f_1 f_2
              have bD5 := bD4.st 2 (.bool true) #[.int .i64 x, .int .i64 y, .bool true] rfl
              have own5 := own4.far (a := ⟨gD, 2, none⟩) hap (.bool true)
              have B5 := B4.st ⟨gD, 2, none⟩ (.bool true) hDw
              have d_0 := bD5.cell 0
              have d_1 := bD5.cell 1
              have d_2 := bD5.cell 2
              simp only [List.getElem?_toArray, List.getElem?_cons_zero, List.getElem?_cons_succ] at d_0 d_1 d_2
              go_wp2_with (at_builtin; go_must (refine wpList_app1c (enc := eDom) rowDom lenDom oneDom B5 own5 (((x : Int), (y : Int), true) : Dm) H8.out HM.out (by simp) rfl _ _ rfl rfl rfl ?_); intro v8 w8 own8 hb8 hg8 hd8; obtain ⟨A8, c8, rfl, hc8, hm8⟩ := own8.form; have bD8 := (bD5.alloc (.cells (eDom ((x : Int), (y : Int), true)).toArray 66)).grown hg8 (fun e => hap e.symm); have e_0 := bD8.cell 0; have e_1 := bD8.cell 1; have e_2 := bD8.cell 2; simp only [List.getElem?_toArray, List.getElem?_cons_zero, List.getElem?_cons_succ] at e_0 e_1 e_2)
              refine (CD _).mono ?_
              rintro e w9 ⟨rfl, hb9⟩
              go_wp2
              go_roundw
              case rel => exact ⟨_, _, _, _, hnl, rfl, by simp, own8.below hb9, hb8.tr hb9, HC2, HR2⟩
              case measure => simp [intOf]; omega
        · have hst : stepD s i = ((x : Int), (y : Int), false) := by unfold stepD; rw [hg, if_pos rfl, hrt]
          rw [hst] at hfit hc2 hft hless
          have hdo : domOk ((x : Int), (y : Int), false) = true := by unfold fitsD at hfit; rw [Bool.and_eq_true] at hfit; exact hfit.1
          have hq : s &&& domSet ((x : Int), (y : Int), false) = domSet ((x : Int), (y : Int), false) := by unfold fitsD at hfit; rw [Bool.and_eq_true, decide_eq_true_iff] at hfit; exact hfit.2
          clear hg
          have HR2 : Hid ((out ++ [((x : Int), (y : Int), false)]) ++ firstT (sDiff s (domSet ((x : Int), (y : Int), false))) = R) := Lib.hid (by rw [← HR.out, hft, List.append_assoc]; rfl)
          have hnl : sDiff s (domSet ((x : Int), (y : Int), false)) < U64 := sDiff_lt hs
          have CD : ∀ w, Calls Try.prog 83 #[.agg #[.int .i64 x, .int .i64 y, .bool false]] w (Ret (.int .u64 (domSet ((x : Int), (y : Int), false) : Nat)) w) := fun w => domSetI_yes x y false w hdo
          obtain ⟨u1, u2⟩ := u64_bits hs (domSet_lt hdo)
          have Hdo := Lib.hid hdo; have HC2 := Lib.hid hc2
          clear hst hft hfit hc2 hdo hrt hdn HR Hc
          obtain ⟨D, hD⟩ : ∃ D, D = domSet ((x : Int), (y : Int), false) := ⟨_, rfl⟩
          have hne : (((s &&& domSet ((x : Int), (y : Int), false) : Nat) : Int) != (domSet ((x : Int), (y : Int), false) : Int)) = false := by rw [hq]; simp
          rw [← hD] at hne
          have CN : ∀ w, Calls Try.prog 117 #[.int .u64 (sDiff s D : Nat)] w (Ret (.int .i64 (cntSet (sDiff s D))) w) := fun w => cntI_any (sDiff s D) w (sDiff_lt hs)
          have CD2 : ∀ w, Calls Try.prog 83 #[.agg #[.int .i64 x, .int .i64 y, .bool false]] w (Ret (.int .u64 (D : Nat)) w) := fun w => by rw [hD]; exact CD w
          have u1' := u1; have u2' := u2
          rw [← hD] at u1' u2'
          obtain ⟨n, hn⟩ : ∃ n, n = cntSet (sDiff s D) := ⟨_, rfl⟩
          have hn0 : (n == 0) = false := by rw [hn, hD]; simpa using HC2.out
          rw [← hn] at CN
          have HDD := Lib.hid hD
          clear hq hn hD u1 u2
          go_region_held3 (fun w' => w'.cell? ⟨gD, 0, none⟩ = some (.int .i64 x) ∧ w'.cell? ⟨gD, 1, none⟩ = some (.int .i64 y) ∧ w'.cell? ⟨gD, 2, none⟩ = some (.bool false)) (go_keep) (first | (go_at_call 98; go_must (refine (domOkI_any x y false _).mono ?_; rintro e wX ⟨rfl, hbX⟩; rw [Hdo.out];obtain ⟨hcX, hfX, hzX⟩ := bkn hbX W.heap.size hz; have hz := hzX; have Bw := Bw.tr hbX); (try go_wp2_with fail)) | (go_at_call 83; go_must (refine (CD2 _).mono ?_; rintro e wX ⟨rfl, hbX⟩; obtain ⟨hcX, hfX, hzX⟩ := bkn hbX W.heap.size hz; have hz := hzX; have Bw := Bw.tr hbX); (try go_wp2_with fail)) | (go_at_call 117; go_must (refine (CN _).mono ?_; rintro e wX ⟨rfl, hbX⟩; obtain ⟨hcX, hfX, hzX⟩ := bkn hbX W.heap.size hz; have hz := hzX; have Bw := Bw.tr hbX); (try go_wp2_with fail)))
          have u2 : bits .andNot .u64 (s : Int) (domSet ((x : Int), (y : Int), false) : Int) = ((sDiff s (domSet ((x : Int), (y : Int), false)) : Nat) : Int) := by rw [← HDD.out]; exact u2'
          clear u1' u2' hne CN CD2 hn0
          obtain ⟨V, hV⟩ : ∃ V, V = wX := ⟨_, rfl⟩
          rw [← hV] at Bw ⊢
          clear hV hcX hfX hz d_0 d_1 d_2
          (try clear hHeld)
          have own4 := own3.below Bw
          have B4 := B3.tr Bw
          have bD4 := bD3.bl Bw
          clear own3 B3 bD3 Bw
          have d_0 := bD4.cell 0
          have d_1 := bD4.cell 1
          have d_2 := bD4.cell 2
          simp only [List.getElem?_toArray, List.getElem?_cons_zero, List.getElem?_cons_succ] at d_0 d_1 d_2
          go_wp2_with (at_builtin; go_must (refine wpList_app1c (enc := eDom) rowDom lenDom oneDom B4 own4 (((x : Int), (y : Int), false) : Dm) H8.out HM.out (by simp) rfl _ _ rfl rfl rfl ?_); intro v8 w8 own8 hb8 hg8 hd8; obtain ⟨A8, c8, rfl, hc8, hm8⟩ := own8.form; have bD8 := (bD4.alloc (.cells (eDom ((x : Int), (y : Int), false)).toArray 66)).grown hg8 (fun e => hap e.symm); have e_0 := bD8.cell 0; have e_1 := bD8.cell 1; have e_2 := bD8.cell 2; simp only [List.getElem?_toArray, List.getElem?_cons_zero, List.getElem?_cons_succ] at e_0 e_1 e_2)
          refine (CD _).mono ?_
          rintro e w9 ⟨rfl, hb9⟩
          go_wp2
          go_roundw
          case rel => exact ⟨_, _, _, _, hnl, rfl, by simp, own8.below hb9, hb8.tr hb9, HC2, HR2⟩
          case measure => simp [intOf]; omega
end Go.Proofs.Ytmmeomjclfgljaa
