/- The law FnExactTurnPlace: the walk. No conditions. -/
import Derived.Test.YtnlljkdfapllpaaWkI
import Derived.Test.YtnlljkdfapllpaaWkS
import Derived.Test.YtnlljkdfapllpaaLawBase
namespace Go.Proofs.Ytnlljkdfapllpaa
open Go.ChangeShapes Go.WideShapes Go.ChangeAt Go.RowKit
set_option linter.unusedVariables false
set_option linter.unusedSimpArgs false

abbrev op_FnExactTurnPlaceW_lawsFnExactTurnPlace_5_0 : Oper := { dst := some 22, op := Go.Op.load 49 (Go.Operand.tmp 2), type := 49, pos := "exact.go:6811", after := #[], guard := none }
abbrev op_FnExactTurnPlaceW_lawsFnExactTurnPlace_5_2 : Oper := { dst := some 24, op := Go.Op.load 42 (Go.Operand.tmp 3), type := 42, pos := "exact.go:6811", after := #[], guard := none }
abbrev op_FnExactTurnPlaceW_lawsFnExactTurnPlace_5_1 : Oper := { dst := some 23, op := Go.Op.call { callee := Go.Callee.value (Go.Operand.func 29), args := #[Go.Operand.tmp 22], argTypes := #[49] }, type := 52, pos := "exact.go:6811", after := #[{ on := 0, ground := Go.Ground.data }], guard := none }
abbrev op_FnExactTurnPlaceW_lawsFnExactTurnPlace_5_3 : Oper := { dst := some 25, op := Go.Op.call { callee := Go.Callee.value (Go.Operand.func 23), args := #[Go.Operand.tmp 24], argTypes := #[42] }, type := 44, pos := "exact.go:6811", after := #[{ on := 2, ground := Go.Ground.data }, { on := 1, ground := Go.Ground.chain }], guard := none }
abbrev op_FnExactTurnPlaceW_lawsFnExactTurnPlace_5_4 : Oper := { dst := some 26, op := Go.Op.call { callee := Go.Callee.value (Go.Operand.func 28), args := #[Go.Operand.tmp 23, Go.Operand.tmp 25], argTypes := #[52, 44] }, type := 53, pos := "exact.go:6811", after := #[{ on := 1, ground := Go.Ground.data }, { on := 3, ground := Go.Ground.data }, { on := 3, ground := Go.Ground.chain }], guard := none }
abbrev op_FnExactTurnPlaceW_lawsFnExactTurnPlace_5_5 : Oper := { dst := some 21, op := Go.Op.move (Go.Operand.tmp 26), type := 53, pos := "exact.go:6811", after := #[{ on := 4, ground := Go.Ground.data }], guard := none }
abbrev op_FnExactTurnPlaceW_lawsFnExactTurnPlace_5_6 : Oper := { dst := some 27, op := Go.Op.extract (Go.Operand.tmp 21) 0, type := 52, pos := "exact.go:6811", after := #[{ on := 5, ground := Go.Ground.data }], guard := none }
abbrev op_FnExactTurnPlaceW_lawsFnExactTurnPlace_5_7 : Oper := { dst := some 28, op := Go.Op.extract (Go.Operand.tmp 21) 1, type := 4, pos := "exact.go:6811", after := #[{ on := 5, ground := Go.Ground.data }, { on := 9, ground := Go.Ground.gcOnly Go.Departure.lateStores }], guard := none }
abbrev op_FnExactTurnPlaceW_lawsFnExactTurnPlace_5_8 : Oper := { dst := some 6, op := Go.Op.alloc 52, type := 0, pos := "exact.go:6811", after := #[], guard := none }
abbrev op_FnExactTurnPlaceW_lawsFnExactTurnPlace_5_9 : Oper := { dst := none, op := Go.Op.store 52 (Go.Operand.tmp 6) (Go.Operand.tmp 27), type := 0, pos := "exact.go:6811", after := #[{ on := 8, ground := Go.Ground.data }, { on := 6, ground := Go.Ground.data }, { on := 4, ground := Go.Ground.chain }, { on := 0, ground := Go.Ground.phase }, { on := 1, ground := Go.Ground.phase }, { on := 2, ground := Go.Ground.phase }, { on := 3, ground := Go.Ground.phase }, { on := 4, ground := Go.Ground.phase }, { on := 5, ground := Go.Ground.phase }, { on := 6, ground := Go.Ground.phase }, { on := 7, ground := Go.Ground.textOnly Go.Departure.lateStores }, { on := 8, ground := Go.Ground.phase }], guard := none }
abbrev op_FnExactTurnPlaceW_lawsFnExactTurnPlace_5_10 : Oper := { dst := some 7, op := Go.Op.assign (Go.Operand.tmp 28), type := 4, pos := "exact.go:6811", after := #[{ on := 7, ground := Go.Ground.data }, { on := 9, ground := Go.Ground.chain }, { on := 0, ground := Go.Ground.phase }, { on := 1, ground := Go.Ground.phase }, { on := 2, ground := Go.Ground.phase }, { on := 3, ground := Go.Ground.phase }, { on := 4, ground := Go.Ground.phase }, { on := 5, ground := Go.Ground.phase }, { on := 6, ground := Go.Ground.phase }, { on := 7, ground := Go.Ground.phase }, { on := 8, ground := Go.Ground.phase }, { on := 9, ground := Go.Ground.phase }], guard := none }
abbrev op_FnExactTurnPlaceW_lawsFnExactTurnPlace_7_0 : Oper := { dst := some 32, op := Go.Op.load 52 (Go.Operand.tmp 8), type := 52, pos := "exact.go:6813", after := #[], guard := none }
abbrev op_FnExactTurnPlaceW_lawsFnExactTurnPlace_7_1 : Oper := { dst := some 33, op := Go.Op.load 42 (Go.Operand.tmp 3), type := 42, pos := "exact.go:6813", after := #[], guard := none }
abbrev op_FnExactTurnPlaceW_lawsFnExactTurnPlace_7_2 : Oper := { dst := some 34, op := Go.Op.call { callee := Go.Callee.value (Go.Operand.func 23), args := #[Go.Operand.tmp 33], argTypes := #[42] }, type := 44, pos := "exact.go:6813", after := #[{ on := 1, ground := Go.Ground.data }], guard := none }
abbrev op_FnExactTurnPlaceW_lawsFnExactTurnPlace_7_3 : Oper := { dst := some 35, op := Go.Op.call { callee := Go.Callee.value (Go.Operand.func 30), args := #[Go.Operand.tmp 32, Go.Operand.tmp 34], argTypes := #[52, 44] }, type := 53, pos := "exact.go:6813", after := #[{ on := 0, ground := Go.Ground.data }, { on := 2, ground := Go.Ground.data }, { on := 2, ground := Go.Ground.chain }], guard := none }
abbrev op_FnExactTurnPlaceW_lawsFnExactTurnPlace_7_4 : Oper := { dst := some 31, op := Go.Op.move (Go.Operand.tmp 35), type := 53, pos := "exact.go:6813", after := #[{ on := 3, ground := Go.Ground.data }], guard := none }
abbrev op_FnExactTurnPlaceW_lawsFnExactTurnPlace_7_5 : Oper := { dst := some 36, op := Go.Op.extract (Go.Operand.tmp 31) 0, type := 52, pos := "exact.go:6813", after := #[{ on := 4, ground := Go.Ground.data }], guard := none }
abbrev op_FnExactTurnPlaceW_lawsFnExactTurnPlace_7_6 : Oper := { dst := some 37, op := Go.Op.extract (Go.Operand.tmp 31) 1, type := 4, pos := "exact.go:6813", after := #[{ on := 4, ground := Go.Ground.data }, { on := 8, ground := Go.Ground.gcOnly Go.Departure.lateStores }], guard := none }
abbrev op_FnExactTurnPlaceW_lawsFnExactTurnPlace_7_7 : Oper := { dst := some 9, op := Go.Op.alloc 52, type := 0, pos := "exact.go:6813", after := #[], guard := none }
abbrev op_FnExactTurnPlaceW_lawsFnExactTurnPlace_7_8 : Oper := { dst := none, op := Go.Op.store 52 (Go.Operand.tmp 9) (Go.Operand.tmp 36), type := 0, pos := "exact.go:6813", after := #[{ on := 7, ground := Go.Ground.data }, { on := 5, ground := Go.Ground.data }, { on := 3, ground := Go.Ground.chain }, { on := 0, ground := Go.Ground.phase }, { on := 1, ground := Go.Ground.phase }, { on := 2, ground := Go.Ground.phase }, { on := 3, ground := Go.Ground.phase }, { on := 4, ground := Go.Ground.phase }, { on := 5, ground := Go.Ground.phase }, { on := 6, ground := Go.Ground.textOnly Go.Departure.lateStores }, { on := 7, ground := Go.Ground.phase }], guard := none }
abbrev op_FnExactTurnPlaceW_lawsFnExactTurnPlace_7_9 : Oper := { dst := some 10, op := Go.Op.assign (Go.Operand.tmp 37), type := 4, pos := "exact.go:6813", after := #[{ on := 6, ground := Go.Ground.data }, { on := 8, ground := Go.Ground.chain }, { on := 0, ground := Go.Ground.phase }, { on := 1, ground := Go.Ground.phase }, { on := 2, ground := Go.Ground.phase }, { on := 3, ground := Go.Ground.phase }, { on := 4, ground := Go.Ground.phase }, { on := 5, ground := Go.Ground.phase }, { on := 6, ground := Go.Ground.phase }, { on := 7, ground := Go.Ground.phase }, { on := 8, ground := Go.Ground.phase }], guard := none }
abbrev op_FnExactTurnPlaceW_lawsFnExactTurnPlace_10_0 : Oper := { dst := some 47, op := Go.Op.load 52 (Go.Operand.tmp 8), type := 52, pos := "exact.go:6817", after := #[], guard := none }
abbrev op_FnExactTurnPlaceW_lawsFnExactTurnPlace_10_1 : Oper := { dst := some 48, op := Go.Op.load 49 (Go.Operand.tmp 2), type := 49, pos := "exact.go:6817", after := #[], guard := none }
abbrev op_FnExactTurnPlaceW_lawsFnExactTurnPlace_10_2 : Oper := { dst := some 49, op := Go.Op.call { callee := Go.Callee.value (Go.Operand.func 29), args := #[Go.Operand.tmp 48], argTypes := #[49] }, type := 52, pos := "exact.go:6817", after := #[{ on := 1, ground := Go.Ground.data }], guard := none }
abbrev op_FnExactTurnPlaceW_lawsFnExactTurnPlace_10_3 : Oper := { dst := some 50, op := Go.Op.call { callee := Go.Callee.value (Go.Operand.func 31), args := #[Go.Operand.tmp 47, Go.Operand.tmp 49], argTypes := #[52, 52] }, type := 4, pos := "exact.go:6817", after := #[{ on := 0, ground := Go.Ground.data }, { on := 2, ground := Go.Ground.data }, { on := 2, ground := Go.Ground.chain }], guard := none }
abbrev op_FnExactTurnPlaceW_lawsFnExactTurnPlace_10_4 : Oper := { dst := some 51, op := Go.Op.unOp Go.UnOp.not 4 (Go.Operand.tmp 50), type := 4, pos := "exact.go:6817", after := #[{ on := 3, ground := Go.Ground.data }], guard := none }
abbrev op_FnExactTurnPlaceW_lawsFnExactTurnPlace_24_0 : Oper := { dst := some 80, op := Go.Op.load 49 (Go.Operand.tmp 2), type := 49, pos := "exact.go:6835", after := #[], guard := none }
abbrev op_FnExactTurnPlaceW_lawsFnExactTurnPlace_24_2 : Oper := { dst := some 82, op := Go.Op.load 42 (Go.Operand.tmp 3), type := 42, pos := "exact.go:6835", after := #[], guard := none }
abbrev op_FnExactTurnPlaceW_lawsFnExactTurnPlace_24_1 : Oper := { dst := some 81, op := Go.Op.call { callee := Go.Callee.value (Go.Operand.func 29), args := #[Go.Operand.tmp 80], argTypes := #[49] }, type := 52, pos := "exact.go:6835", after := #[{ on := 0, ground := Go.Ground.data }], guard := none }
abbrev op_FnExactTurnPlaceW_lawsFnExactTurnPlace_24_3 : Oper := { dst := some 83, op := Go.Op.call { callee := Go.Callee.value (Go.Operand.func 23), args := #[Go.Operand.tmp 82], argTypes := #[42] }, type := 44, pos := "exact.go:6835", after := #[{ on := 2, ground := Go.Ground.data }, { on := 1, ground := Go.Ground.chain }], guard := none }
abbrev op_FnExactTurnPlaceW_lawsFnExactTurnPlace_24_4 : Oper := { dst := some 84, op := Go.Op.call { callee := Go.Callee.value (Go.Operand.func 30), args := #[Go.Operand.tmp 81, Go.Operand.tmp 83], argTypes := #[52, 44] }, type := 53, pos := "exact.go:6835", after := #[{ on := 1, ground := Go.Ground.data }, { on := 3, ground := Go.Ground.data }, { on := 3, ground := Go.Ground.chain }], guard := none }
abbrev op_FnExactTurnPlaceW_lawsFnExactTurnPlace_24_5 : Oper := { dst := some 79, op := Go.Op.move (Go.Operand.tmp 84), type := 53, pos := "exact.go:6835", after := #[{ on := 4, ground := Go.Ground.data }], guard := none }
abbrev op_FnExactTurnPlaceW_lawsFnExactTurnPlace_24_6 : Oper := { dst := some 85, op := Go.Op.extract (Go.Operand.tmp 79) 0, type := 52, pos := "exact.go:6835", after := #[{ on := 5, ground := Go.Ground.data }], guard := none }
abbrev op_FnExactTurnPlaceW_lawsFnExactTurnPlace_24_7 : Oper := { dst := some 86, op := Go.Op.extract (Go.Operand.tmp 79) 1, type := 4, pos := "exact.go:6835", after := #[{ on := 5, ground := Go.Ground.data }, { on := 9, ground := Go.Ground.gcOnly Go.Departure.lateStores }], guard := none }
abbrev op_FnExactTurnPlaceW_lawsFnExactTurnPlace_24_8 : Oper := { dst := some 14, op := Go.Op.alloc 52, type := 0, pos := "exact.go:6835", after := #[], guard := none }
abbrev op_FnExactTurnPlaceW_lawsFnExactTurnPlace_24_9 : Oper := { dst := none, op := Go.Op.store 52 (Go.Operand.tmp 14) (Go.Operand.tmp 85), type := 0, pos := "exact.go:6835", after := #[{ on := 8, ground := Go.Ground.data }, { on := 6, ground := Go.Ground.data }, { on := 4, ground := Go.Ground.chain }, { on := 0, ground := Go.Ground.phase }, { on := 1, ground := Go.Ground.phase }, { on := 2, ground := Go.Ground.phase }, { on := 3, ground := Go.Ground.phase }, { on := 4, ground := Go.Ground.phase }, { on := 5, ground := Go.Ground.phase }, { on := 6, ground := Go.Ground.phase }, { on := 7, ground := Go.Ground.textOnly Go.Departure.lateStores }, { on := 8, ground := Go.Ground.phase }], guard := none }
abbrev op_FnExactTurnPlaceW_lawsFnExactTurnPlace_24_10 : Oper := { dst := some 15, op := Go.Op.assign (Go.Operand.tmp 86), type := 4, pos := "exact.go:6835", after := #[{ on := 7, ground := Go.Ground.data }, { on := 9, ground := Go.Ground.chain }, { on := 0, ground := Go.Ground.phase }, { on := 1, ground := Go.Ground.phase }, { on := 2, ground := Go.Ground.phase }, { on := 3, ground := Go.Ground.phase }, { on := 4, ground := Go.Ground.phase }, { on := 5, ground := Go.Ground.phase }, { on := 6, ground := Go.Ground.phase }, { on := 7, ground := Go.Ground.phase }, { on := 8, ground := Go.Ground.phase }, { on := 9, ground := Go.Ground.phase }], guard := none }
set_option maxHeartbeats 4000000 in
set_option maxRecDepth 100000 in
theorem FnExactTurnPlace_walk (w : World) (cs0 : List Value) (x0 : Wk) (h0 : RWork w cs0 x0) (okx0 : WorkIn x0) (csC : List Value) (xC : Int × Int) (hC : RPair w csC xC) (okC : I64 xC.1 ∧ I64 xC.2) : Calls Try.prog 6 #[.agg cs0.toArray, .agg csC.toArray] w (Ret (.bool true) w) := by
  obtain ⟨v1, v2, v3, v4, rfl, h1, h2, h3, h4⟩ := h0.form
  obtain ⟨⟨rows, f, n, fl⟩, s, p, r⟩ := x0
  simp only at h1 h2 h3 h4 ⊢
  obtain ⟨P1, q1, rfl, _, _⟩ := h1.form
  obtain ⟨P2, q2, rfl, _, _⟩ := h2.form
  obtain ⟨P3, q3, rfl, _, _⟩ := h3.form
  obtain ⟨P4, q4, rfl, _, _⟩ := h4.form
  change csC = _ at hC
  subst hC
  obtain ⟨cx, cy⟩ := xC
  have B := (((Below.refl w.heap.size w).al (.cells #[.slice P1 rows.length q1, .slice P2 f.length q2, .slice P3 n.length q3, .slice P4 fl.length q4, .int .i64 s, .int .i64 p, .int .i64 r] 49)).al (.cells #[.int .i64 cx, .int .i64 cy] 42))
  have bA0 := (Blk.new_ w 49 #[.slice P1 rows.length q1, .slice P2 f.length q2, .slice P3 n.length q3, .slice P4 fl.length q4, .int .i64 s, .int .i64 p, .int .i64 r]).alloc (.cells #[.int .i64 cx, .int .i64 cy] 42)
  have bA1 := Blk.new2 (w.alloc (.cells #[.slice P1 rows.length q1, .slice P2 f.length q2, .slice P3 n.length q3, .slice P4 fl.length q4, .int .i64 s, .int .i64 p, .int .i64 r] 49)) 42 #[.int .i64 cx, .int .i64 cy] (w.heap.size + 1) (by simp)
  by_cases hsz0 : (total (rows, f, n, fl) : Int) ≤ 1048576
  · skip
    have hs4 : Small4 (rows, f, n, fl) := by unfold total at hsz0; unfold Small4 Small; simp only at hsz0 ⊢; omega
    have hk0 : ¬ ((1048576 : Int) - rows.length - f.length - n.length - fl.length < 0) := by unfold total at hsz0; simp only at hsz0; omega
    obtain ⟨y, hy⟩ : ∃ y, y = turnFl ((rows, f, n, fl), s, p, r) (cx, cy) := ⟨_, rfl⟩
    obtain ⟨b, hb⟩ : ∃ b, b = turnOk ((rows, f, n, fl), s, p, r) (cx, cy) := ⟨_, rfl⟩
    obtain ⟨ys, hys⟩ : ∃ q, q = s := ⟨_, rfl⟩
    obtain ⟨yp, hyp⟩ : ∃ q, q = p := ⟨_, rfl⟩
    obtain ⟨yr, hyr⟩ : ∃ q, q = r := ⟨_, rfl⟩
    have hsy : Small4 y := by rw [hy]; exact turn_small _ hs4
    have HY4 := Lib.hid hsy; clear hsy
    have hbb : (b != b) = false := by simp
    have CS : ∀ (a1 a2 a3 a4 : Value) (w : World), Rd 1 RInt w a1 rows → Rd 3 RDom w a2 f → Rd 3 RDom w a3 n → Rd 2 RPair w a4 fl → Calls Try.prog 28 #[.agg #[a1, a2, a3, a4, .int .i64 s, .int .i64 p, .int .i64 r], .agg #[.int .i64 cx, .int .i64 cy]] w (RetWkB y ys yp yr b w) := fun a1 a2 a3 a4 w k1 k2 k3 k4 => by
      rw [hy, hb, hys, hyp, hyr]; exact turnS_any a1 a2 a3 a4 (rows, f, n, fl) s p r cx cy w k1 k2 k3 k4 hs4
    have CI : ∀ (a1 a2 a3 a4 : Value) (w : World), Rd 1 RInt w a1 rows → Rd 3 RDom w a2 f → Rd 3 RDom w a3 n → Rd 2 RPair w a4 fl → Calls Try.prog 30 #[.agg #[a1, a2, a3, a4, .int .i64 s, .int .i64 p, .int .i64 r], .agg #[.int .i64 cx, .int .i64 cy]] w (RetWkB y ys yp yr b w) := fun a1 a2 a3 a4 w k1 k2 k3 k4 => by
      rw [hy, hb, hys, hyp, hyr]; exact turnI_any a1 a2 a3 a4 (rows, f, n, fl) s p r cx cy w k1 k2 k3 k4 hs4
    clear hy hb hys hyp hyr
    have HS := Lib.hid hs4
    have HZ0 := Lib.hid hsz0
    clear hs4 hsz0
    go_enter Try.func6, Try.ntmps6
    go_wp2_with fail
    refine (szWork_ok _ _ _ _ (rows, f, n, fl) s p r _ (h1.below RE.stays B) (h2.below RE.stays B) (h3.below RE.stays B) (h4.below RE.stays B) HZ0.out).mono ?_
    rintro e w0 ⟨rfl, hb⟩
    replace B := B.tr hb
    replace bA0 := bA0.bl hb
    replace bA1 := bA1.bl hb
    clear hb
    go_upto_region 5 with (fail)
    obtain ⟨W, hW⟩ : ∃ W, W = w0 := ⟨_, rfl⟩
    rw [← hW] at B bA0 bA1 ⊢
    clear hW
    have z0_0 := bA0.cell 0
    have z0_1 := bA0.cell 1
    have z0_2 := bA0.cell 2
    have z0_3 := bA0.cell 3
    have z0_4 := bA0.cell 4
    have z0_5 := bA0.cell 5
    have z0_6 := bA0.cell 6
    simp only [List.getElem?_toArray, List.getElem?_cons_zero, List.getElem?_cons_succ] at z0_0 z0_1 z0_2 z0_3 z0_4 z0_5 z0_6
    have z1_0 := bA1.cell 0
    have z1_1 := bA1.cell 1
    simp only [List.getElem?_toArray, List.getElem?_cons_zero, List.getElem?_cons_succ] at z1_0 z1_1
    have hlA0 := bA0.lt
    have hlA1 := bA1.lt
    go_cut [6, 7] (fun s6 s7 wx => ∃ (gN : Nat) (W1 W2 W3 W4 : Option Addr) (cW1 cW2 cW3 cW4 : Nat), s6 = .pointer (some ⟨gN, 0, none⟩) ∧ s7 = .bool b ∧ Blk wx gN 52 #[.slice W1 y.1.length cW1, .slice W2 y.2.1.length cW2, .slice W3 y.2.2.1.length cW3, .slice W4 y.2.2.2.length cW4, .int .i64 ys, .int .i64 yp, .int .i64 yr] ∧ OwnFl W.heap.size wx (.slice W1 y.1.length cW1) (.slice W2 y.2.1.length cW2) (.slice W3 y.2.2.1.length cW3) (.slice W4 y.2.2.2.length cW4) y ∧ Below W.heap.size W wx)
    case first =>
      have Bw : Below W.heap.size W W.drew := (Below.refl _ _).drew
      have hz : W.heap.size ≤ W.drew.heap.size := by simp
      refine wp_region_held_drew (S := (fun w' => w'.cell? ⟨w.heap.size, 0, none⟩ = some (.slice P1 rows.length q1) ∧ w'.cell? ⟨w.heap.size, 1, none⟩ = some (.slice P2 f.length q2) ∧ w'.cell? ⟨w.heap.size, 2, none⟩ = some (.slice P3 n.length q3) ∧ w'.cell? ⟨w.heap.size, 3, none⟩ = some (.slice P4 fl.length q4) ∧ w'.cell? ⟨w.heap.size, 4, none⟩ = some (.int .i64 s) ∧ w'.cell? ⟨w.heap.size, 5, none⟩ = some (.int .i64 p) ∧ w'.cell? ⟨w.heap.size, 6, none⟩ = some (.int .i64 r) ∧ w'.cell? ⟨w.heap.size + 1, 0, none⟩ = some (.int .i64 cx) ∧ w'.cell? ⟨w.heap.size + 1, 1, none⟩ = some (.int .i64 cy))) (by kernel_rfl) ?_ (fun hHeld => ?_)
      · (try dsimp only); (try go_keep)
      refine wpAnyH_take (i := 0) (oi := op_FnExactTurnPlaceW_lawsFnExactTurnPlace_5_0) (v := ?_) rfl (by kernel_rfl) (by kernel_rfl) (by kernel_rfl) (fun _ _ _ h => h) (Or.inl ⟨by rfl, ?_⟩) (by assumption) ?_
      rotate_left 1
      · (intro wS hSw; (try dsimp only at hSw); dsimp only [op_FnExactTurnPlaceW_lawsFnExactTurnPlace_5_0]; go_simp; (all_goals with_reducible rfl))
      simp only [op_FnExactTurnPlaceW_lawsFnExactTurnPlace_5_0, Act.put, List.setIfInBounds_toArray, List.set_cons_zero, List.set_cons_succ]
      refine wpAnyH_take (i := 2) (oi := op_FnExactTurnPlaceW_lawsFnExactTurnPlace_5_2) (v := ?_) rfl (by kernel_rfl) (by kernel_rfl) (by kernel_rfl) (fun _ _ _ h => h) (Or.inl ⟨by rfl, ?_⟩) (by assumption) ?_
      rotate_left 1
      · (intro wS hSw; (try dsimp only at hSw); dsimp only [op_FnExactTurnPlaceW_lawsFnExactTurnPlace_5_2]; go_simp; (all_goals with_reducible rfl))
      simp only [op_FnExactTurnPlaceW_lawsFnExactTurnPlace_5_2, Act.put, List.setIfInBounds_toArray, List.set_cons_zero, List.set_cons_succ]
      refine wpAnyH_ready (rs := [1, 8]) (by kernel_rfl) (by simp) ?_
      refine AllReadyH.cons (o := op_FnExactTurnPlaceW_lawsFnExactTurnPlace_5_1) rfl (fun K hK => ?_) ?_
      dsimp only [op_FnExactTurnPlaceW_lawsFnExactTurnPlace_5_1]
      go_simp
      (first | (go_at_call 29; go_must (refine (toWork_any _ _ _ _ ((rows, f, n, fl), s, p, r) _ (h1.below RE.stays (B.tr Bw)) (h2.below RE.stays (B.tr Bw)) (h3.below RE.stays (B.tr Bw)) (h4.below RE.stays (B.tr Bw)) HS.out).mono ?_; rintro e wX ⟨T1, t1, T2, t2, T3, t3, T4, t4, rfl, oT, hbX⟩; (try replace bN := bN.bl hbX);obtain ⟨hcX, hfX, hzX⟩ := bkn hbX W.heap.size hz; have hz := hzX; have Bw := Bw.tr hbX); (try go_wp2_with fail)) | (go_at_call 23; go_must (refine (toCell_any (cx, cy) _).mono ?_; rintro e wX ⟨rfl, hbX⟩; (try replace oT := oT.below hbX); (try replace bN := bN.bl hbX);obtain ⟨hcX, hfX, hzX⟩ := bkn hbX W.heap.size hz; have hz := hzX; have Bw := Bw.tr hbX); (try go_wp2_with fail)) | (go_at_call 28; go_must (refine (CS _ _ _ _ _ oT.ra oT.rb oT.rc oT.rd).mono ?_; rintro e wX ⟨W1, cW1, W2, cW2, W3, cW3, W4, cW4, rfl, oR, hbX⟩; have hgR := hbX.size; replace oR := oR.mono (show W.heap.size ≤ _ by omega); (try replace bN := bN.bl hbX);obtain ⟨hcX, hfX, hzX⟩ := bkn hbX W.heap.size hz; have hz := hzX; have Bw := Bw.tr hbX); (try go_wp2_with fail)))
      refine hK.out _ _ ?_ (fun hHeld => ?_)
      · (try dsimp only); (try go_keep)
      clear hK K
      (try simp only [Act.put, List.setIfInBounds_toArray, List.set_cons_zero, List.set_cons_succ])
      refine wpAnyH_ready (rs := [3, 8]) (by kernel_rfl) (by simp) ?_
      refine AllReadyH.cons (o := op_FnExactTurnPlaceW_lawsFnExactTurnPlace_5_3) rfl (fun K hK => ?_) ?_
      dsimp only [op_FnExactTurnPlaceW_lawsFnExactTurnPlace_5_3]
      go_simp
      (first | (go_at_call 29; go_must (refine (toWork_any _ _ _ _ ((rows, f, n, fl), s, p, r) _ (h1.below RE.stays (B.tr Bw)) (h2.below RE.stays (B.tr Bw)) (h3.below RE.stays (B.tr Bw)) (h4.below RE.stays (B.tr Bw)) HS.out).mono ?_; rintro e wX ⟨T1, t1, T2, t2, T3, t3, T4, t4, rfl, oT, hbX⟩; (try replace bN := bN.bl hbX);obtain ⟨hcX, hfX, hzX⟩ := bkn hbX W.heap.size hz; have hz := hzX; have Bw := Bw.tr hbX); (try go_wp2_with fail)) | (go_at_call 23; go_must (refine (toCell_any (cx, cy) _).mono ?_; rintro e wX ⟨rfl, hbX⟩; (try replace oT := oT.below hbX); (try replace bN := bN.bl hbX);obtain ⟨hcX, hfX, hzX⟩ := bkn hbX W.heap.size hz; have hz := hzX; have Bw := Bw.tr hbX); (try go_wp2_with fail)) | (go_at_call 28; go_must (refine (CS _ _ _ _ _ oT.ra oT.rb oT.rc oT.rd).mono ?_; rintro e wX ⟨W1, cW1, W2, cW2, W3, cW3, W4, cW4, rfl, oR, hbX⟩; have hgR := hbX.size; replace oR := oR.mono (show W.heap.size ≤ _ by omega); (try replace bN := bN.bl hbX);obtain ⟨hcX, hfX, hzX⟩ := bkn hbX W.heap.size hz; have hz := hzX; have Bw := Bw.tr hbX); (try go_wp2_with fail)))
      refine hK.out _ _ ?_ (fun hHeld => ?_)
      · (try dsimp only); (try go_keep)
      clear hK K
      (try simp only [Act.put, List.setIfInBounds_toArray, List.set_cons_zero, List.set_cons_succ])
      refine wpAnyH_ready (rs := [4, 8]) (by kernel_rfl) (by simp) ?_
      refine AllReadyH.cons (o := op_FnExactTurnPlaceW_lawsFnExactTurnPlace_5_4) rfl (fun K hK => ?_) ?_
      dsimp only [op_FnExactTurnPlaceW_lawsFnExactTurnPlace_5_4]
      go_simp
      (first | (go_at_call 29; go_must (refine (toWork_any _ _ _ _ ((rows, f, n, fl), s, p, r) _ (h1.below RE.stays (B.tr Bw)) (h2.below RE.stays (B.tr Bw)) (h3.below RE.stays (B.tr Bw)) (h4.below RE.stays (B.tr Bw)) HS.out).mono ?_; rintro e wX ⟨T1, t1, T2, t2, T3, t3, T4, t4, rfl, oT, hbX⟩; (try replace bN := bN.bl hbX);obtain ⟨hcX, hfX, hzX⟩ := bkn hbX W.heap.size hz; have hz := hzX; have Bw := Bw.tr hbX); (try go_wp2_with fail)) | (go_at_call 23; go_must (refine (toCell_any (cx, cy) _).mono ?_; rintro e wX ⟨rfl, hbX⟩; (try replace oT := oT.below hbX); (try replace bN := bN.bl hbX);obtain ⟨hcX, hfX, hzX⟩ := bkn hbX W.heap.size hz; have hz := hzX; have Bw := Bw.tr hbX); (try go_wp2_with fail)) | (go_at_call 28; go_must (refine (CS _ _ _ _ _ oT.ra oT.rb oT.rc oT.rd).mono ?_; rintro e wX ⟨W1, cW1, W2, cW2, W3, cW3, W4, cW4, rfl, oR, hbX⟩; have hgR := hbX.size; replace oR := oR.mono (show W.heap.size ≤ _ by omega); (try replace bN := bN.bl hbX);obtain ⟨hcX, hfX, hzX⟩ := bkn hbX W.heap.size hz; have hz := hzX; have Bw := Bw.tr hbX); (try go_wp2_with fail)))
      refine hK.out _ _ ?_ (fun hHeld => ?_)
      · (try dsimp only); (try go_keep)
      clear hK K
      (try simp only [Act.put, List.setIfInBounds_toArray, List.set_cons_zero, List.set_cons_succ])
      refine wpAnyH_take (i := 5) (oi := op_FnExactTurnPlaceW_lawsFnExactTurnPlace_5_5) (v := ?_) rfl (by kernel_rfl) (by kernel_rfl) (by kernel_rfl) (fun _ _ _ h => h) (Or.inl ⟨by rfl, ?_⟩) (by assumption) ?_
      rotate_left 1
      · (intro wS hSw; (try dsimp only at hSw); dsimp only [op_FnExactTurnPlaceW_lawsFnExactTurnPlace_5_5]; go_simp; (all_goals with_reducible rfl))
      simp only [op_FnExactTurnPlaceW_lawsFnExactTurnPlace_5_5, Act.put, List.setIfInBounds_toArray, List.set_cons_zero, List.set_cons_succ]
      refine wpAnyH_take (i := 6) (oi := op_FnExactTurnPlaceW_lawsFnExactTurnPlace_5_6) (v := ?_) rfl (by kernel_rfl) (by kernel_rfl) (by kernel_rfl) (fun _ _ _ h => h) (Or.inl ⟨by rfl, ?_⟩) (by assumption) ?_
      rotate_left 1
      · (intro wS hSw; (try dsimp only at hSw); dsimp only [op_FnExactTurnPlaceW_lawsFnExactTurnPlace_5_6]; go_simp; (all_goals with_reducible rfl))
      simp only [op_FnExactTurnPlaceW_lawsFnExactTurnPlace_5_6, Act.put, List.setIfInBounds_toArray, List.set_cons_zero, List.set_cons_succ]
      refine wpAnyH_take (i := 7) (oi := op_FnExactTurnPlaceW_lawsFnExactTurnPlace_5_7) (v := ?_) rfl (by kernel_rfl) (by kernel_rfl) (by kernel_rfl) (fun _ _ _ h => h) (Or.inl ⟨by rfl, ?_⟩) (by assumption) ?_
      rotate_left 1
      · (intro wS hSw; (try dsimp only at hSw); dsimp only [op_FnExactTurnPlaceW_lawsFnExactTurnPlace_5_7]; go_simp; (all_goals with_reducible rfl))
      simp only [op_FnExactTurnPlaceW_lawsFnExactTurnPlace_5_7, Act.put, List.setIfInBounds_toArray, List.set_cons_zero, List.set_cons_succ]
      refine wpAnyH_ready (rs := [8]) (by kernel_rfl) (by simp) ?_
      refine AllReadyH.cons (o := op_FnExactTurnPlaceW_lawsFnExactTurnPlace_5_8) rfl (fun K hK => ?_) AllReadyH.nil
      (refine step_alloc rfl 52 _ rfl Try.zeroValue52 ?_; intro gN wX bN hbX hgN1 hgN2 hgN3; have hgN : W.heap.size ≤ gN := (by omega); obtain ⟨hcX, hfX, hzX⟩ := bkn hbX W.heap.size hz; replace hz := hzX; replace Bw := Bw.tr hbX; (try replace oT := oT.below hbX); (try replace oR := oR.below hbX))
      refine hK.out _ _ ?_ (fun hHeld => ?_)
      · (try dsimp only); (try go_keep)
      clear hK K
      (try simp only [Act.put, List.setIfInBounds_toArray, List.set_cons_zero, List.set_cons_succ])
      refine wpAnyH_ready (rs := [9]) (by kernel_rfl) (by simp) ?_
      refine AllReadyH.cons (o := op_FnExactTurnPlaceW_lawsFnExactTurnPlace_5_9) rfl (fun K hK => ?_) AllReadyH.nil
      (refine step_storeRow rfl 52 _ _ rfl gN #[.slice W1 y.1.length cW1, .slice W2 y.2.1.length cW2, .slice W3 y.2.2.1.length cW3, .slice W4 y.2.2.2.length cW4, .int .i64 ys, .int .i64 yp, .int .i64 yr] rfl rfl _ _ bN (by kernel_rfl) rfl (by simp [Value.oneCell']) ?_; intro wX bNX hgX; have oS := OwnFl.rowI oR bN (by decide) (by decide) (by decide) hgX; replace Bw := Bw.grown hgX hz (fun k hk => by injection hk with hk; subst hk; omega); obtain ⟨hcX, hfX, hzX⟩ := bk Bw)
      refine hK.out _ _ ?_ (fun hHeld => ?_)
      · (try dsimp only); (try go_keep)
      clear hK K
      (try simp only [Act.put, List.setIfInBounds_toArray, List.set_cons_zero, List.set_cons_succ])
      refine wpAnyH_take (i := 10) (oi := op_FnExactTurnPlaceW_lawsFnExactTurnPlace_5_10) (v := ?_) rfl (by kernel_rfl) (by kernel_rfl) (by kernel_rfl) (fun _ _ _ h => h) (Or.inl ⟨by rfl, ?_⟩) (by assumption) ?_
      rotate_left 1
      · (intro wS hSw; (try dsimp only at hSw); dsimp only [op_FnExactTurnPlaceW_lawsFnExactTurnPlace_5_10]; go_simp; (all_goals with_reducible rfl))
      simp only [op_FnExactTurnPlaceW_lawsFnExactTurnPlace_5_10, Act.put, List.setIfInBounds_toArray, List.set_cons_zero, List.set_cons_succ]
      refine wpAnyH_done (by kernel_rfl) ?_ _
      rotate_left 1
      refine AllReadyH.cons (o := op_FnExactTurnPlaceW_lawsFnExactTurnPlace_5_8) rfl (fun K hK => ?_) AllReadyH.nil
      (refine step_alloc rfl 52 _ rfl Try.zeroValue52 ?_; intro gN wX bN hbX hgN1 hgN2 hgN3; have hgN : W.heap.size ≤ gN := (by omega); obtain ⟨hcX, hfX, hzX⟩ := bkn hbX W.heap.size hz; replace hz := hzX; replace Bw := Bw.tr hbX; (try replace oT := oT.below hbX); (try replace oR := oR.below hbX))
      refine hK.out _ _ ?_ (fun hHeld => ?_)
      · (try dsimp only); (try go_keep)
      clear hK K
      (try simp only [Act.put, List.setIfInBounds_toArray, List.set_cons_zero, List.set_cons_succ])
      refine wpAnyH_ready (rs := [4]) (by kernel_rfl) (by simp) ?_
      refine AllReadyH.cons (o := op_FnExactTurnPlaceW_lawsFnExactTurnPlace_5_4) rfl (fun K hK => ?_) AllReadyH.nil
      dsimp only [op_FnExactTurnPlaceW_lawsFnExactTurnPlace_5_4]
      go_simp
      (first | (go_at_call 29; go_must (refine (toWork_any _ _ _ _ ((rows, f, n, fl), s, p, r) _ (h1.below RE.stays (B.tr Bw)) (h2.below RE.stays (B.tr Bw)) (h3.below RE.stays (B.tr Bw)) (h4.below RE.stays (B.tr Bw)) HS.out).mono ?_; rintro e wX ⟨T1, t1, T2, t2, T3, t3, T4, t4, rfl, oT, hbX⟩; (try replace bN := bN.bl hbX);obtain ⟨hcX, hfX, hzX⟩ := bkn hbX W.heap.size hz; have hz := hzX; have Bw := Bw.tr hbX); (try go_wp2_with fail)) | (go_at_call 23; go_must (refine (toCell_any (cx, cy) _).mono ?_; rintro e wX ⟨rfl, hbX⟩; (try replace oT := oT.below hbX); (try replace bN := bN.bl hbX);obtain ⟨hcX, hfX, hzX⟩ := bkn hbX W.heap.size hz; have hz := hzX; have Bw := Bw.tr hbX); (try go_wp2_with fail)) | (go_at_call 28; go_must (refine (CS _ _ _ _ _ oT.ra oT.rb oT.rc oT.rd).mono ?_; rintro e wX ⟨W1, cW1, W2, cW2, W3, cW3, W4, cW4, rfl, oR, hbX⟩; have hgR := hbX.size; replace oR := oR.mono (show W.heap.size ≤ _ by omega); (try replace bN := bN.bl hbX);obtain ⟨hcX, hfX, hzX⟩ := bkn hbX W.heap.size hz; have hz := hzX; have Bw := Bw.tr hbX); (try go_wp2_with fail)))
      refine hK.out _ _ ?_ (fun hHeld => ?_)
      · (try dsimp only); (try go_keep)
      clear hK K
      (try simp only [Act.put, List.setIfInBounds_toArray, List.set_cons_zero, List.set_cons_succ])
      refine wpAnyH_take (i := 5) (oi := op_FnExactTurnPlaceW_lawsFnExactTurnPlace_5_5) (v := ?_) rfl (by kernel_rfl) (by kernel_rfl) (by kernel_rfl) (fun _ _ _ h => h) (Or.inl ⟨by rfl, ?_⟩) (by assumption) ?_
      rotate_left 1
      · (intro wS hSw; (try dsimp only at hSw); dsimp only [op_FnExactTurnPlaceW_lawsFnExactTurnPlace_5_5]; go_simp; (all_goals with_reducible rfl))
      simp only [op_FnExactTurnPlaceW_lawsFnExactTurnPlace_5_5, Act.put, List.setIfInBounds_toArray, List.set_cons_zero, List.set_cons_succ]
      refine wpAnyH_take (i := 6) (oi := op_FnExactTurnPlaceW_lawsFnExactTurnPlace_5_6) (v := ?_) rfl (by kernel_rfl) (by kernel_rfl) (by kernel_rfl) (fun _ _ _ h => h) (Or.inl ⟨by rfl, ?_⟩) (by assumption) ?_
      rotate_left 1
      · (intro wS hSw; (try dsimp only at hSw); dsimp only [op_FnExactTurnPlaceW_lawsFnExactTurnPlace_5_6]; go_simp; (all_goals with_reducible rfl))
      simp only [op_FnExactTurnPlaceW_lawsFnExactTurnPlace_5_6, Act.put, List.setIfInBounds_toArray, List.set_cons_zero, List.set_cons_succ]
      refine wpAnyH_take (i := 7) (oi := op_FnExactTurnPlaceW_lawsFnExactTurnPlace_5_7) (v := ?_) rfl (by kernel_rfl) (by kernel_rfl) (by kernel_rfl) (fun _ _ _ h => h) (Or.inl ⟨by rfl, ?_⟩) (by assumption) ?_
      rotate_left 1
      · (intro wS hSw; (try dsimp only at hSw); dsimp only [op_FnExactTurnPlaceW_lawsFnExactTurnPlace_5_7]; go_simp; (all_goals with_reducible rfl))
      simp only [op_FnExactTurnPlaceW_lawsFnExactTurnPlace_5_7, Act.put, List.setIfInBounds_toArray, List.set_cons_zero, List.set_cons_succ]
      refine wpAnyH_ready (rs := [9]) (by kernel_rfl) (by simp) ?_
      refine AllReadyH.cons (o := op_FnExactTurnPlaceW_lawsFnExactTurnPlace_5_9) rfl (fun K hK => ?_) AllReadyH.nil
      (refine step_storeRow rfl 52 _ _ rfl gN #[.slice W1 y.1.length cW1, .slice W2 y.2.1.length cW2, .slice W3 y.2.2.1.length cW3, .slice W4 y.2.2.2.length cW4, .int .i64 ys, .int .i64 yp, .int .i64 yr] rfl rfl _ _ bN (by kernel_rfl) rfl (by simp [Value.oneCell']) ?_; intro wX bNX hgX; have oS := OwnFl.rowI oR bN (by decide) (by decide) (by decide) hgX; replace Bw := Bw.grown hgX hz (fun k hk => by injection hk with hk; subst hk; omega); obtain ⟨hcX, hfX, hzX⟩ := bk Bw)
      refine hK.out _ _ ?_ (fun hHeld => ?_)
      · (try dsimp only); (try go_keep)
      clear hK K
      (try simp only [Act.put, List.setIfInBounds_toArray, List.set_cons_zero, List.set_cons_succ])
      refine wpAnyH_take (i := 10) (oi := op_FnExactTurnPlaceW_lawsFnExactTurnPlace_5_10) (v := ?_) rfl (by kernel_rfl) (by kernel_rfl) (by kernel_rfl) (fun _ _ _ h => h) (Or.inl ⟨by rfl, ?_⟩) (by assumption) ?_
      rotate_left 1
      · (intro wS hSw; (try dsimp only at hSw); dsimp only [op_FnExactTurnPlaceW_lawsFnExactTurnPlace_5_10]; go_simp; (all_goals with_reducible rfl))
      simp only [op_FnExactTurnPlaceW_lawsFnExactTurnPlace_5_10, Act.put, List.setIfInBounds_toArray, List.set_cons_zero, List.set_cons_succ]
      refine wpAnyH_done (by kernel_rfl) ?_ _
      rotate_left 1
      refine AllReadyH.cons (o := op_FnExactTurnPlaceW_lawsFnExactTurnPlace_5_8) rfl (fun K hK => ?_) AllReadyH.nil
      (refine step_alloc rfl 52 _ rfl Try.zeroValue52 ?_; intro gN wX bN hbX hgN1 hgN2 hgN3; have hgN : W.heap.size ≤ gN := (by omega); obtain ⟨hcX, hfX, hzX⟩ := bkn hbX W.heap.size hz; replace hz := hzX; replace Bw := Bw.tr hbX; (try replace oT := oT.below hbX); (try replace oR := oR.below hbX))
      refine hK.out _ _ ?_ (fun hHeld => ?_)
      · (try dsimp only); (try go_keep)
      clear hK K
      (try simp only [Act.put, List.setIfInBounds_toArray, List.set_cons_zero, List.set_cons_succ])
      refine wpAnyH_ready (rs := [3]) (by kernel_rfl) (by simp) ?_
      refine AllReadyH.cons (o := op_FnExactTurnPlaceW_lawsFnExactTurnPlace_5_3) rfl (fun K hK => ?_) AllReadyH.nil
      dsimp only [op_FnExactTurnPlaceW_lawsFnExactTurnPlace_5_3]
      go_simp
      (first | (go_at_call 29; go_must (refine (toWork_any _ _ _ _ ((rows, f, n, fl), s, p, r) _ (h1.below RE.stays (B.tr Bw)) (h2.below RE.stays (B.tr Bw)) (h3.below RE.stays (B.tr Bw)) (h4.below RE.stays (B.tr Bw)) HS.out).mono ?_; rintro e wX ⟨T1, t1, T2, t2, T3, t3, T4, t4, rfl, oT, hbX⟩; (try replace bN := bN.bl hbX);obtain ⟨hcX, hfX, hzX⟩ := bkn hbX W.heap.size hz; have hz := hzX; have Bw := Bw.tr hbX); (try go_wp2_with fail)) | (go_at_call 23; go_must (refine (toCell_any (cx, cy) _).mono ?_; rintro e wX ⟨rfl, hbX⟩; (try replace oT := oT.below hbX); (try replace bN := bN.bl hbX);obtain ⟨hcX, hfX, hzX⟩ := bkn hbX W.heap.size hz; have hz := hzX; have Bw := Bw.tr hbX); (try go_wp2_with fail)) | (go_at_call 28; go_must (refine (CS _ _ _ _ _ oT.ra oT.rb oT.rc oT.rd).mono ?_; rintro e wX ⟨W1, cW1, W2, cW2, W3, cW3, W4, cW4, rfl, oR, hbX⟩; have hgR := hbX.size; replace oR := oR.mono (show W.heap.size ≤ _ by omega); (try replace bN := bN.bl hbX);obtain ⟨hcX, hfX, hzX⟩ := bkn hbX W.heap.size hz; have hz := hzX; have Bw := Bw.tr hbX); (try go_wp2_with fail)))
      refine hK.out _ _ ?_ (fun hHeld => ?_)
      · (try dsimp only); (try go_keep)
      clear hK K
      (try simp only [Act.put, List.setIfInBounds_toArray, List.set_cons_zero, List.set_cons_succ])
      refine wpAnyH_ready (rs := [4]) (by kernel_rfl) (by simp) ?_
      refine AllReadyH.cons (o := op_FnExactTurnPlaceW_lawsFnExactTurnPlace_5_4) rfl (fun K hK => ?_) AllReadyH.nil
      dsimp only [op_FnExactTurnPlaceW_lawsFnExactTurnPlace_5_4]
      go_simp
      (first | (go_at_call 29; go_must (refine (toWork_any _ _ _ _ ((rows, f, n, fl), s, p, r) _ (h1.below RE.stays (B.tr Bw)) (h2.below RE.stays (B.tr Bw)) (h3.below RE.stays (B.tr Bw)) (h4.below RE.stays (B.tr Bw)) HS.out).mono ?_; rintro e wX ⟨T1, t1, T2, t2, T3, t3, T4, t4, rfl, oT, hbX⟩; (try replace bN := bN.bl hbX);obtain ⟨hcX, hfX, hzX⟩ := bkn hbX W.heap.size hz; have hz := hzX; have Bw := Bw.tr hbX); (try go_wp2_with fail)) | (go_at_call 23; go_must (refine (toCell_any (cx, cy) _).mono ?_; rintro e wX ⟨rfl, hbX⟩; (try replace oT := oT.below hbX); (try replace bN := bN.bl hbX);obtain ⟨hcX, hfX, hzX⟩ := bkn hbX W.heap.size hz; have hz := hzX; have Bw := Bw.tr hbX); (try go_wp2_with fail)) | (go_at_call 28; go_must (refine (CS _ _ _ _ _ oT.ra oT.rb oT.rc oT.rd).mono ?_; rintro e wX ⟨W1, cW1, W2, cW2, W3, cW3, W4, cW4, rfl, oR, hbX⟩; have hgR := hbX.size; replace oR := oR.mono (show W.heap.size ≤ _ by omega); (try replace bN := bN.bl hbX);obtain ⟨hcX, hfX, hzX⟩ := bkn hbX W.heap.size hz; have hz := hzX; have Bw := Bw.tr hbX); (try go_wp2_with fail)))
      refine hK.out _ _ ?_ (fun hHeld => ?_)
      · (try dsimp only); (try go_keep)
      clear hK K
      (try simp only [Act.put, List.setIfInBounds_toArray, List.set_cons_zero, List.set_cons_succ])
      refine wpAnyH_take (i := 5) (oi := op_FnExactTurnPlaceW_lawsFnExactTurnPlace_5_5) (v := ?_) rfl (by kernel_rfl) (by kernel_rfl) (by kernel_rfl) (fun _ _ _ h => h) (Or.inl ⟨by rfl, ?_⟩) (by assumption) ?_
      rotate_left 1
      · (intro wS hSw; (try dsimp only at hSw); dsimp only [op_FnExactTurnPlaceW_lawsFnExactTurnPlace_5_5]; go_simp; (all_goals with_reducible rfl))
      simp only [op_FnExactTurnPlaceW_lawsFnExactTurnPlace_5_5, Act.put, List.setIfInBounds_toArray, List.set_cons_zero, List.set_cons_succ]
      refine wpAnyH_take (i := 6) (oi := op_FnExactTurnPlaceW_lawsFnExactTurnPlace_5_6) (v := ?_) rfl (by kernel_rfl) (by kernel_rfl) (by kernel_rfl) (fun _ _ _ h => h) (Or.inl ⟨by rfl, ?_⟩) (by assumption) ?_
      rotate_left 1
      · (intro wS hSw; (try dsimp only at hSw); dsimp only [op_FnExactTurnPlaceW_lawsFnExactTurnPlace_5_6]; go_simp; (all_goals with_reducible rfl))
      simp only [op_FnExactTurnPlaceW_lawsFnExactTurnPlace_5_6, Act.put, List.setIfInBounds_toArray, List.set_cons_zero, List.set_cons_succ]
      refine wpAnyH_take (i := 7) (oi := op_FnExactTurnPlaceW_lawsFnExactTurnPlace_5_7) (v := ?_) rfl (by kernel_rfl) (by kernel_rfl) (by kernel_rfl) (fun _ _ _ h => h) (Or.inl ⟨by rfl, ?_⟩) (by assumption) ?_
      rotate_left 1
      · (intro wS hSw; (try dsimp only at hSw); dsimp only [op_FnExactTurnPlaceW_lawsFnExactTurnPlace_5_7]; go_simp; (all_goals with_reducible rfl))
      simp only [op_FnExactTurnPlaceW_lawsFnExactTurnPlace_5_7, Act.put, List.setIfInBounds_toArray, List.set_cons_zero, List.set_cons_succ]
      refine wpAnyH_ready (rs := [9]) (by kernel_rfl) (by simp) ?_
      refine AllReadyH.cons (o := op_FnExactTurnPlaceW_lawsFnExactTurnPlace_5_9) rfl (fun K hK => ?_) AllReadyH.nil
      (refine step_storeRow rfl 52 _ _ rfl gN #[.slice W1 y.1.length cW1, .slice W2 y.2.1.length cW2, .slice W3 y.2.2.1.length cW3, .slice W4 y.2.2.2.length cW4, .int .i64 ys, .int .i64 yp, .int .i64 yr] rfl rfl _ _ bN (by kernel_rfl) rfl (by simp [Value.oneCell']) ?_; intro wX bNX hgX; have oS := OwnFl.rowI oR bN (by decide) (by decide) (by decide) hgX; replace Bw := Bw.grown hgX hz (fun k hk => by injection hk with hk; subst hk; omega); obtain ⟨hcX, hfX, hzX⟩ := bk Bw)
      refine hK.out _ _ ?_ (fun hHeld => ?_)
      · (try dsimp only); (try go_keep)
      clear hK K
      (try simp only [Act.put, List.setIfInBounds_toArray, List.set_cons_zero, List.set_cons_succ])
      refine wpAnyH_take (i := 10) (oi := op_FnExactTurnPlaceW_lawsFnExactTurnPlace_5_10) (v := ?_) rfl (by kernel_rfl) (by kernel_rfl) (by kernel_rfl) (fun _ _ _ h => h) (Or.inl ⟨by rfl, ?_⟩) (by assumption) ?_
      rotate_left 1
      · (intro wS hSw; (try dsimp only at hSw); dsimp only [op_FnExactTurnPlaceW_lawsFnExactTurnPlace_5_10]; go_simp; (all_goals with_reducible rfl))
      simp only [op_FnExactTurnPlaceW_lawsFnExactTurnPlace_5_10, Act.put, List.setIfInBounds_toArray, List.set_cons_zero, List.set_cons_succ]
      refine wpAnyH_done (by kernel_rfl) ?_ _
      rotate_left 1
      refine AllReadyH.cons (o := op_FnExactTurnPlaceW_lawsFnExactTurnPlace_5_8) rfl (fun K hK => ?_) AllReadyH.nil
      (refine step_alloc rfl 52 _ rfl Try.zeroValue52 ?_; intro gN wX bN hbX hgN1 hgN2 hgN3; have hgN : W.heap.size ≤ gN := (by omega); obtain ⟨hcX, hfX, hzX⟩ := bkn hbX W.heap.size hz; replace hz := hzX; replace Bw := Bw.tr hbX; (try replace oT := oT.below hbX); (try replace oR := oR.below hbX))
      refine hK.out _ _ ?_ (fun hHeld => ?_)
      · (try dsimp only); (try go_keep)
      clear hK K
      (try simp only [Act.put, List.setIfInBounds_toArray, List.set_cons_zero, List.set_cons_succ])
      refine wpAnyH_ready (rs := [1]) (by kernel_rfl) (by simp) ?_
      refine AllReadyH.cons (o := op_FnExactTurnPlaceW_lawsFnExactTurnPlace_5_1) rfl (fun K hK => ?_) AllReadyH.nil
      dsimp only [op_FnExactTurnPlaceW_lawsFnExactTurnPlace_5_1]
      go_simp
      (first | (go_at_call 29; go_must (refine (toWork_any _ _ _ _ ((rows, f, n, fl), s, p, r) _ (h1.below RE.stays (B.tr Bw)) (h2.below RE.stays (B.tr Bw)) (h3.below RE.stays (B.tr Bw)) (h4.below RE.stays (B.tr Bw)) HS.out).mono ?_; rintro e wX ⟨T1, t1, T2, t2, T3, t3, T4, t4, rfl, oT, hbX⟩; (try replace bN := bN.bl hbX);obtain ⟨hcX, hfX, hzX⟩ := bkn hbX W.heap.size hz; have hz := hzX; have Bw := Bw.tr hbX); (try go_wp2_with fail)) | (go_at_call 23; go_must (refine (toCell_any (cx, cy) _).mono ?_; rintro e wX ⟨rfl, hbX⟩; (try replace oT := oT.below hbX); (try replace bN := bN.bl hbX);obtain ⟨hcX, hfX, hzX⟩ := bkn hbX W.heap.size hz; have hz := hzX; have Bw := Bw.tr hbX); (try go_wp2_with fail)) | (go_at_call 28; go_must (refine (CS _ _ _ _ _ oT.ra oT.rb oT.rc oT.rd).mono ?_; rintro e wX ⟨W1, cW1, W2, cW2, W3, cW3, W4, cW4, rfl, oR, hbX⟩; have hgR := hbX.size; replace oR := oR.mono (show W.heap.size ≤ _ by omega); (try replace bN := bN.bl hbX);obtain ⟨hcX, hfX, hzX⟩ := bkn hbX W.heap.size hz; have hz := hzX; have Bw := Bw.tr hbX); (try go_wp2_with fail)))
      refine hK.out _ _ ?_ (fun hHeld => ?_)
      · (try dsimp only); (try go_keep)
      clear hK K
      (try simp only [Act.put, List.setIfInBounds_toArray, List.set_cons_zero, List.set_cons_succ])
      refine wpAnyH_ready (rs := [3]) (by kernel_rfl) (by simp) ?_
      refine AllReadyH.cons (o := op_FnExactTurnPlaceW_lawsFnExactTurnPlace_5_3) rfl (fun K hK => ?_) AllReadyH.nil
      dsimp only [op_FnExactTurnPlaceW_lawsFnExactTurnPlace_5_3]
      go_simp
      (first | (go_at_call 29; go_must (refine (toWork_any _ _ _ _ ((rows, f, n, fl), s, p, r) _ (h1.below RE.stays (B.tr Bw)) (h2.below RE.stays (B.tr Bw)) (h3.below RE.stays (B.tr Bw)) (h4.below RE.stays (B.tr Bw)) HS.out).mono ?_; rintro e wX ⟨T1, t1, T2, t2, T3, t3, T4, t4, rfl, oT, hbX⟩; (try replace bN := bN.bl hbX);obtain ⟨hcX, hfX, hzX⟩ := bkn hbX W.heap.size hz; have hz := hzX; have Bw := Bw.tr hbX); (try go_wp2_with fail)) | (go_at_call 23; go_must (refine (toCell_any (cx, cy) _).mono ?_; rintro e wX ⟨rfl, hbX⟩; (try replace oT := oT.below hbX); (try replace bN := bN.bl hbX);obtain ⟨hcX, hfX, hzX⟩ := bkn hbX W.heap.size hz; have hz := hzX; have Bw := Bw.tr hbX); (try go_wp2_with fail)) | (go_at_call 28; go_must (refine (CS _ _ _ _ _ oT.ra oT.rb oT.rc oT.rd).mono ?_; rintro e wX ⟨W1, cW1, W2, cW2, W3, cW3, W4, cW4, rfl, oR, hbX⟩; have hgR := hbX.size; replace oR := oR.mono (show W.heap.size ≤ _ by omega); (try replace bN := bN.bl hbX);obtain ⟨hcX, hfX, hzX⟩ := bkn hbX W.heap.size hz; have hz := hzX; have Bw := Bw.tr hbX); (try go_wp2_with fail)))
      refine hK.out _ _ ?_ (fun hHeld => ?_)
      · (try dsimp only); (try go_keep)
      clear hK K
      (try simp only [Act.put, List.setIfInBounds_toArray, List.set_cons_zero, List.set_cons_succ])
      refine wpAnyH_ready (rs := [4]) (by kernel_rfl) (by simp) ?_
      refine AllReadyH.cons (o := op_FnExactTurnPlaceW_lawsFnExactTurnPlace_5_4) rfl (fun K hK => ?_) AllReadyH.nil
      dsimp only [op_FnExactTurnPlaceW_lawsFnExactTurnPlace_5_4]
      go_simp
      (first | (go_at_call 29; go_must (refine (toWork_any _ _ _ _ ((rows, f, n, fl), s, p, r) _ (h1.below RE.stays (B.tr Bw)) (h2.below RE.stays (B.tr Bw)) (h3.below RE.stays (B.tr Bw)) (h4.below RE.stays (B.tr Bw)) HS.out).mono ?_; rintro e wX ⟨T1, t1, T2, t2, T3, t3, T4, t4, rfl, oT, hbX⟩; (try replace bN := bN.bl hbX);obtain ⟨hcX, hfX, hzX⟩ := bkn hbX W.heap.size hz; have hz := hzX; have Bw := Bw.tr hbX); (try go_wp2_with fail)) | (go_at_call 23; go_must (refine (toCell_any (cx, cy) _).mono ?_; rintro e wX ⟨rfl, hbX⟩; (try replace oT := oT.below hbX); (try replace bN := bN.bl hbX);obtain ⟨hcX, hfX, hzX⟩ := bkn hbX W.heap.size hz; have hz := hzX; have Bw := Bw.tr hbX); (try go_wp2_with fail)) | (go_at_call 28; go_must (refine (CS _ _ _ _ _ oT.ra oT.rb oT.rc oT.rd).mono ?_; rintro e wX ⟨W1, cW1, W2, cW2, W3, cW3, W4, cW4, rfl, oR, hbX⟩; have hgR := hbX.size; replace oR := oR.mono (show W.heap.size ≤ _ by omega); (try replace bN := bN.bl hbX);obtain ⟨hcX, hfX, hzX⟩ := bkn hbX W.heap.size hz; have hz := hzX; have Bw := Bw.tr hbX); (try go_wp2_with fail)))
      refine hK.out _ _ ?_ (fun hHeld => ?_)
      · (try dsimp only); (try go_keep)
      clear hK K
      (try simp only [Act.put, List.setIfInBounds_toArray, List.set_cons_zero, List.set_cons_succ])
      refine wpAnyH_take (i := 5) (oi := op_FnExactTurnPlaceW_lawsFnExactTurnPlace_5_5) (v := ?_) rfl (by kernel_rfl) (by kernel_rfl) (by kernel_rfl) (fun _ _ _ h => h) (Or.inl ⟨by rfl, ?_⟩) (by assumption) ?_
      rotate_left 1
      · (intro wS hSw; (try dsimp only at hSw); dsimp only [op_FnExactTurnPlaceW_lawsFnExactTurnPlace_5_5]; go_simp; (all_goals with_reducible rfl))
      simp only [op_FnExactTurnPlaceW_lawsFnExactTurnPlace_5_5, Act.put, List.setIfInBounds_toArray, List.set_cons_zero, List.set_cons_succ]
      refine wpAnyH_take (i := 6) (oi := op_FnExactTurnPlaceW_lawsFnExactTurnPlace_5_6) (v := ?_) rfl (by kernel_rfl) (by kernel_rfl) (by kernel_rfl) (fun _ _ _ h => h) (Or.inl ⟨by rfl, ?_⟩) (by assumption) ?_
      rotate_left 1
      · (intro wS hSw; (try dsimp only at hSw); dsimp only [op_FnExactTurnPlaceW_lawsFnExactTurnPlace_5_6]; go_simp; (all_goals with_reducible rfl))
      simp only [op_FnExactTurnPlaceW_lawsFnExactTurnPlace_5_6, Act.put, List.setIfInBounds_toArray, List.set_cons_zero, List.set_cons_succ]
      refine wpAnyH_take (i := 7) (oi := op_FnExactTurnPlaceW_lawsFnExactTurnPlace_5_7) (v := ?_) rfl (by kernel_rfl) (by kernel_rfl) (by kernel_rfl) (fun _ _ _ h => h) (Or.inl ⟨by rfl, ?_⟩) (by assumption) ?_
      rotate_left 1
      · (intro wS hSw; (try dsimp only at hSw); dsimp only [op_FnExactTurnPlaceW_lawsFnExactTurnPlace_5_7]; go_simp; (all_goals with_reducible rfl))
      simp only [op_FnExactTurnPlaceW_lawsFnExactTurnPlace_5_7, Act.put, List.setIfInBounds_toArray, List.set_cons_zero, List.set_cons_succ]
      refine wpAnyH_ready (rs := [9]) (by kernel_rfl) (by simp) ?_
      refine AllReadyH.cons (o := op_FnExactTurnPlaceW_lawsFnExactTurnPlace_5_9) rfl (fun K hK => ?_) AllReadyH.nil
      (refine step_storeRow rfl 52 _ _ rfl gN #[.slice W1 y.1.length cW1, .slice W2 y.2.1.length cW2, .slice W3 y.2.2.1.length cW3, .slice W4 y.2.2.2.length cW4, .int .i64 ys, .int .i64 yp, .int .i64 yr] rfl rfl _ _ bN (by kernel_rfl) rfl (by simp [Value.oneCell']) ?_; intro wX bNX hgX; have oS := OwnFl.rowI oR bN (by decide) (by decide) (by decide) hgX; replace Bw := Bw.grown hgX hz (fun k hk => by injection hk with hk; subst hk; omega); obtain ⟨hcX, hfX, hzX⟩ := bk Bw)
      refine hK.out _ _ ?_ (fun hHeld => ?_)
      · (try dsimp only); (try go_keep)
      clear hK K
      (try simp only [Act.put, List.setIfInBounds_toArray, List.set_cons_zero, List.set_cons_succ])
      refine wpAnyH_take (i := 10) (oi := op_FnExactTurnPlaceW_lawsFnExactTurnPlace_5_10) (v := ?_) rfl (by kernel_rfl) (by kernel_rfl) (by kernel_rfl) (fun _ _ _ h => h) (Or.inl ⟨by rfl, ?_⟩) (by assumption) ?_
      rotate_left 1
      · (intro wS hSw; (try dsimp only at hSw); dsimp only [op_FnExactTurnPlaceW_lawsFnExactTurnPlace_5_10]; go_simp; (all_goals with_reducible rfl))
      simp only [op_FnExactTurnPlaceW_lawsFnExactTurnPlace_5_10, Act.put, List.setIfInBounds_toArray, List.set_cons_zero, List.set_cons_succ]
      refine wpAnyH_done (by kernel_rfl) ?_ _
      all_goals
        go_wp2_with fail
        go_meet
        exact ⟨_, _, _, _, _, _, _, _, _, rfl, rfl, bNX, oS, Bw⟩
    case rest =>
      obtain ⟨gW, W1, W2, W3, W4, cW1, cW2, cW3, cW4, rfl, rfl, bW, oW, hb⟩ := hcut
      clear z0_0 z0_1 z0_2 z0_3 z0_4 z0_5 z0_6 z1_0 z1_1
      replace oW := oW.mono B.size
      replace B := B.tr hb
      replace bA0 := bA0.bl hb
      replace bA1 := bA1.bl hb
      clear hb
      obtain ⟨w1, hw1⟩ : ∃ v, v = wc := ⟨_, rfl⟩
      rw [← hw1] at B bA0 bA1 oW bW ⊢
      clear hw1
      have z0_0 := bA0.cell 0
      have z0_1 := bA0.cell 1
      have z0_2 := bA0.cell 2
      have z0_3 := bA0.cell 3
      have z0_4 := bA0.cell 4
      have z0_5 := bA0.cell 5
      have z0_6 := bA0.cell 6
      simp only [List.getElem?_toArray, List.getElem?_cons_zero, List.getElem?_cons_succ] at z0_0 z0_1 z0_2 z0_3 z0_4 z0_5 z0_6
      go_wp2_with fail
      refine (toWork_any _ _ _ _ ((rows, f, n, fl), s, p, r) _ (h1.below RE.stays B) (h2.below RE.stays B) (h3.below RE.stays B) (h4.below RE.stays B) HS.out).mono ?_
      rintro e w2 ⟨X1, x1, X2, x2, X3, x3, X4, x4, rfl, oX, hb⟩
      clear z0_0 z0_1 z0_2 z0_3 z0_4 z0_5 z0_6
      have ap_oW_oX := apart_of (fun k hk => (oW.lt hk).2) (fun k hk => (oX.lt hk).1) (Nat.le_refl _)
      replace oX := oX.mono B.size
      replace B := B.tr hb
      replace bA0 := bA0.bl hb
      replace bA1 := bA1.bl hb
      replace bW := bW.bl hb
      replace oW := oW.below hb
      clear hb
      replace B := B.al (.cells #[.slice X1 rows.length x1, .slice X2 f.length x2, .slice X3 n.length x3, .slice X4 fl.length x4, .int .i64 s, .int .i64 p, .int .i64 r] 52)
      replace bA0 := bA0.alloc (.cells #[.slice X1 rows.length x1, .slice X2 f.length x2, .slice X3 n.length x3, .slice X4 fl.length x4, .int .i64 s, .int .i64 p, .int .i64 r] 52)
      replace bA1 := bA1.alloc (.cells #[.slice X1 rows.length x1, .slice X2 f.length x2, .slice X3 n.length x3, .slice X4 fl.length x4, .int .i64 s, .int .i64 p, .int .i64 r] 52)
      replace bW := bW.alloc (.cells #[.slice X1 rows.length x1, .slice X2 f.length x2, .slice X3 n.length x3, .slice X4 fl.length x4, .int .i64 s, .int .i64 p, .int .i64 r] 52)
      replace oW := oW.alloc (.cells #[.slice X1 rows.length x1, .slice X2 f.length x2, .slice X3 n.length x3, .slice X4 fl.length x4, .int .i64 s, .int .i64 p, .int .i64 r] 52)
      replace oX := oX.alloc (.cells #[.slice X1 rows.length x1, .slice X2 f.length x2, .slice X3 n.length x3, .slice X4 fl.length x4, .int .i64 s, .int .i64 p, .int .i64 r] 52)
      have bX := Blk.new_ w2 52 #[.slice X1 rows.length x1, .slice X2 f.length x2, .slice X3 n.length x3, .slice X4 fl.length x4, .int .i64 s, .int .i64 p, .int .i64 r]
      go_upto_region 7 with (fail)
      obtain ⟨gX, hgX⟩ : ∃ g, g = w2.heap.size := ⟨_, rfl⟩
      rw [← hgX] at bX ⊢
      clear hgX
      obtain ⟨W, hW⟩ : ∃ W, W = w2.alloc (.cells #[.slice X1 rows.length x1, .slice X2 f.length x2, .slice X3 n.length x3, .slice X4 fl.length x4, .int .i64 s, .int .i64 p, .int .i64 r] 52) := ⟨_, rfl⟩
      rw [← hW] at B bA0 bA1 bW oW oX bX ⊢
      clear hW
      have z1_0 := bA1.cell 0
      have z1_1 := bA1.cell 1
      simp only [List.getElem?_toArray, List.getElem?_cons_zero, List.getElem?_cons_succ] at z1_0 z1_1
      have x_0 := bX.cell 0
      have x_1 := bX.cell 1
      have x_2 := bX.cell 2
      have x_3 := bX.cell 3
      have x_4 := bX.cell 4
      have x_5 := bX.cell 5
      have x_6 := bX.cell 6
      simp only [List.getElem?_toArray, List.getElem?_cons_zero, List.getElem?_cons_succ] at x_0 x_1 x_2 x_3 x_4 x_5 x_6
      have hlA1 := bA1.lt
      have hlX := bX.lt
      go_cut [9, 10] (fun s9 s10 wx => ∃ (gN : Nat) (G1 G2 G3 G4 : Option Addr) (cG1 cG2 cG3 cG4 : Nat), s9 = .pointer (some ⟨gN, 0, none⟩) ∧ s10 = .bool b ∧ Blk wx gN 52 #[.slice G1 y.1.length cG1, .slice G2 y.2.1.length cG2, .slice G3 y.2.2.1.length cG3, .slice G4 y.2.2.2.length cG4, .int .i64 ys, .int .i64 yp, .int .i64 yr] ∧ OwnFl W.heap.size wx (.slice G1 y.1.length cG1) (.slice G2 y.2.1.length cG2) (.slice G3 y.2.2.1.length cG3) (.slice G4 y.2.2.2.length cG4) y ∧ Below W.heap.size W wx)
      case first =>
        have Bw : Below W.heap.size W W.drew := (Below.refl _ _).drew
        have hz : W.heap.size ≤ W.drew.heap.size := by simp
        refine wp_region_held_drew (S := (fun w' => w'.cell? ⟨w.heap.size + 1, 0, none⟩ = some (.int .i64 cx) ∧ w'.cell? ⟨w.heap.size + 1, 1, none⟩ = some (.int .i64 cy) ∧ w'.cell? ⟨gX, 0, none⟩ = some (.slice X1 rows.length x1) ∧ w'.cell? ⟨gX, 1, none⟩ = some (.slice X2 f.length x2) ∧ w'.cell? ⟨gX, 2, none⟩ = some (.slice X3 n.length x3) ∧ w'.cell? ⟨gX, 3, none⟩ = some (.slice X4 fl.length x4) ∧ w'.cell? ⟨gX, 4, none⟩ = some (.int .i64 s) ∧ w'.cell? ⟨gX, 5, none⟩ = some (.int .i64 p) ∧ w'.cell? ⟨gX, 6, none⟩ = some (.int .i64 r))) (by kernel_rfl) ?_ (fun hHeld => ?_)
        · (try dsimp only); (try go_keep)
        refine wpAnyH_take (i := 0) (oi := op_FnExactTurnPlaceW_lawsFnExactTurnPlace_7_0) (v := ?_) rfl (by kernel_rfl) (by kernel_rfl) (by kernel_rfl) (fun _ _ _ h => h) (Or.inl ⟨by rfl, ?_⟩) (by assumption) ?_
        rotate_left 1
        · (intro wS hSw; (try dsimp only at hSw); dsimp only [op_FnExactTurnPlaceW_lawsFnExactTurnPlace_7_0]; go_simp; (all_goals with_reducible rfl))
        simp only [op_FnExactTurnPlaceW_lawsFnExactTurnPlace_7_0, Act.put, List.setIfInBounds_toArray, List.set_cons_zero, List.set_cons_succ]
        refine wpAnyH_take (i := 1) (oi := op_FnExactTurnPlaceW_lawsFnExactTurnPlace_7_1) (v := ?_) rfl (by kernel_rfl) (by kernel_rfl) (by kernel_rfl) (fun _ _ _ h => h) (Or.inl ⟨by rfl, ?_⟩) (by assumption) ?_
        rotate_left 1
        · (intro wS hSw; (try dsimp only at hSw); dsimp only [op_FnExactTurnPlaceW_lawsFnExactTurnPlace_7_1]; go_simp; (all_goals with_reducible rfl))
        simp only [op_FnExactTurnPlaceW_lawsFnExactTurnPlace_7_1, Act.put, List.setIfInBounds_toArray, List.set_cons_zero, List.set_cons_succ]
        refine wpAnyH_ready (rs := [2, 7]) (by kernel_rfl) (by simp) ?_
        refine AllReadyH.cons (o := op_FnExactTurnPlaceW_lawsFnExactTurnPlace_7_2) rfl (fun K hK => ?_) ?_
        dsimp only [op_FnExactTurnPlaceW_lawsFnExactTurnPlace_7_2]
        go_simp
        (first | (go_at_call 23; go_must (refine (toCell_any (cx, cy) _).mono ?_; rintro e wX ⟨rfl, hbX⟩; (try replace oT := oT.below hbX); (try replace bN := bN.bl hbX);obtain ⟨hcX, hfX, hzX⟩ := bkn hbX W.heap.size hz; have hz := hzX; have Bw := Bw.tr hbX); (try go_wp2_with fail)) | (go_at_call 30; go_must (refine (CI _ _ _ _ _ (oX.below Bw).ra (oX.below Bw).rb (oX.below Bw).rc (oX.below Bw).rd).mono ?_; rintro e wX ⟨G1, cG1, G2, cG2, G3, cG3, G4, cG4, rfl, oR, hbX⟩; have hgR := hbX.size; replace oR := oR.mono (show W.heap.size ≤ _ by omega); (try replace bN := bN.bl hbX);obtain ⟨hcX, hfX, hzX⟩ := bkn hbX W.heap.size hz; have hz := hzX; have Bw := Bw.tr hbX); (try go_wp2_with fail)))
        refine hK.out _ _ ?_ (fun hHeld => ?_)
        · (try dsimp only); (try go_keep)
        clear hK K
        (try simp only [Act.put, List.setIfInBounds_toArray, List.set_cons_zero, List.set_cons_succ])
        refine wpAnyH_ready (rs := [3, 7]) (by kernel_rfl) (by simp) ?_
        refine AllReadyH.cons (o := op_FnExactTurnPlaceW_lawsFnExactTurnPlace_7_3) rfl (fun K hK => ?_) ?_
        dsimp only [op_FnExactTurnPlaceW_lawsFnExactTurnPlace_7_3]
        go_simp
        (first | (go_at_call 23; go_must (refine (toCell_any (cx, cy) _).mono ?_; rintro e wX ⟨rfl, hbX⟩; (try replace oT := oT.below hbX); (try replace bN := bN.bl hbX);obtain ⟨hcX, hfX, hzX⟩ := bkn hbX W.heap.size hz; have hz := hzX; have Bw := Bw.tr hbX); (try go_wp2_with fail)) | (go_at_call 30; go_must (refine (CI _ _ _ _ _ (oX.below Bw).ra (oX.below Bw).rb (oX.below Bw).rc (oX.below Bw).rd).mono ?_; rintro e wX ⟨G1, cG1, G2, cG2, G3, cG3, G4, cG4, rfl, oR, hbX⟩; have hgR := hbX.size; replace oR := oR.mono (show W.heap.size ≤ _ by omega); (try replace bN := bN.bl hbX);obtain ⟨hcX, hfX, hzX⟩ := bkn hbX W.heap.size hz; have hz := hzX; have Bw := Bw.tr hbX); (try go_wp2_with fail)))
        refine hK.out _ _ ?_ (fun hHeld => ?_)
        · (try dsimp only); (try go_keep)
        clear hK K
        (try simp only [Act.put, List.setIfInBounds_toArray, List.set_cons_zero, List.set_cons_succ])
        refine wpAnyH_take (i := 4) (oi := op_FnExactTurnPlaceW_lawsFnExactTurnPlace_7_4) (v := ?_) rfl (by kernel_rfl) (by kernel_rfl) (by kernel_rfl) (fun _ _ _ h => h) (Or.inl ⟨by rfl, ?_⟩) (by assumption) ?_
        rotate_left 1
        · (intro wS hSw; (try dsimp only at hSw); dsimp only [op_FnExactTurnPlaceW_lawsFnExactTurnPlace_7_4]; go_simp; (all_goals with_reducible rfl))
        simp only [op_FnExactTurnPlaceW_lawsFnExactTurnPlace_7_4, Act.put, List.setIfInBounds_toArray, List.set_cons_zero, List.set_cons_succ]
        refine wpAnyH_take (i := 5) (oi := op_FnExactTurnPlaceW_lawsFnExactTurnPlace_7_5) (v := ?_) rfl (by kernel_rfl) (by kernel_rfl) (by kernel_rfl) (fun _ _ _ h => h) (Or.inl ⟨by rfl, ?_⟩) (by assumption) ?_
        rotate_left 1
        · (intro wS hSw; (try dsimp only at hSw); dsimp only [op_FnExactTurnPlaceW_lawsFnExactTurnPlace_7_5]; go_simp; (all_goals with_reducible rfl))
        simp only [op_FnExactTurnPlaceW_lawsFnExactTurnPlace_7_5, Act.put, List.setIfInBounds_toArray, List.set_cons_zero, List.set_cons_succ]
        refine wpAnyH_take (i := 6) (oi := op_FnExactTurnPlaceW_lawsFnExactTurnPlace_7_6) (v := ?_) rfl (by kernel_rfl) (by kernel_rfl) (by kernel_rfl) (fun _ _ _ h => h) (Or.inl ⟨by rfl, ?_⟩) (by assumption) ?_
        rotate_left 1
        · (intro wS hSw; (try dsimp only at hSw); dsimp only [op_FnExactTurnPlaceW_lawsFnExactTurnPlace_7_6]; go_simp; (all_goals with_reducible rfl))
        simp only [op_FnExactTurnPlaceW_lawsFnExactTurnPlace_7_6, Act.put, List.setIfInBounds_toArray, List.set_cons_zero, List.set_cons_succ]
        refine wpAnyH_ready (rs := [7]) (by kernel_rfl) (by simp) ?_
        refine AllReadyH.cons (o := op_FnExactTurnPlaceW_lawsFnExactTurnPlace_7_7) rfl (fun K hK => ?_) AllReadyH.nil
        (refine step_alloc rfl 52 _ rfl Try.zeroValue52 ?_; intro gN wX bN hbX hgN1 hgN2 hgN3; have hgN : W.heap.size ≤ gN := (by omega); obtain ⟨hcX, hfX, hzX⟩ := bkn hbX W.heap.size hz; replace hz := hzX; replace Bw := Bw.tr hbX; (try replace oT := oT.below hbX); (try replace oR := oR.below hbX))
        refine hK.out _ _ ?_ (fun hHeld => ?_)
        · (try dsimp only); (try go_keep)
        clear hK K
        (try simp only [Act.put, List.setIfInBounds_toArray, List.set_cons_zero, List.set_cons_succ])
        refine wpAnyH_ready (rs := [8]) (by kernel_rfl) (by simp) ?_
        refine AllReadyH.cons (o := op_FnExactTurnPlaceW_lawsFnExactTurnPlace_7_8) rfl (fun K hK => ?_) AllReadyH.nil
        (refine step_storeRow rfl 52 _ _ rfl gN #[.slice G1 y.1.length cG1, .slice G2 y.2.1.length cG2, .slice G3 y.2.2.1.length cG3, .slice G4 y.2.2.2.length cG4, .int .i64 ys, .int .i64 yp, .int .i64 yr] rfl rfl _ _ bN (by kernel_rfl) rfl (by simp [Value.oneCell']) ?_; intro wX bNX hgX; have oS := OwnFl.rowI oR bN (by decide) (by decide) (by decide) hgX; replace Bw := Bw.grown hgX hz (fun k hk => by injection hk with hk; subst hk; omega); obtain ⟨hcX, hfX, hzX⟩ := bk Bw)
        refine hK.out _ _ ?_ (fun hHeld => ?_)
        · (try dsimp only); (try go_keep)
        clear hK K
        (try simp only [Act.put, List.setIfInBounds_toArray, List.set_cons_zero, List.set_cons_succ])
        refine wpAnyH_take (i := 9) (oi := op_FnExactTurnPlaceW_lawsFnExactTurnPlace_7_9) (v := ?_) rfl (by kernel_rfl) (by kernel_rfl) (by kernel_rfl) (fun _ _ _ h => h) (Or.inl ⟨by rfl, ?_⟩) (by assumption) ?_
        rotate_left 1
        · (intro wS hSw; (try dsimp only at hSw); dsimp only [op_FnExactTurnPlaceW_lawsFnExactTurnPlace_7_9]; go_simp; (all_goals with_reducible rfl))
        simp only [op_FnExactTurnPlaceW_lawsFnExactTurnPlace_7_9, Act.put, List.setIfInBounds_toArray, List.set_cons_zero, List.set_cons_succ]
        refine wpAnyH_done (by kernel_rfl) ?_ _
        rotate_left 1
        refine AllReadyH.cons (o := op_FnExactTurnPlaceW_lawsFnExactTurnPlace_7_7) rfl (fun K hK => ?_) AllReadyH.nil
        (refine step_alloc rfl 52 _ rfl Try.zeroValue52 ?_; intro gN wX bN hbX hgN1 hgN2 hgN3; have hgN : W.heap.size ≤ gN := (by omega); obtain ⟨hcX, hfX, hzX⟩ := bkn hbX W.heap.size hz; replace hz := hzX; replace Bw := Bw.tr hbX; (try replace oT := oT.below hbX); (try replace oR := oR.below hbX))
        refine hK.out _ _ ?_ (fun hHeld => ?_)
        · (try dsimp only); (try go_keep)
        clear hK K
        (try simp only [Act.put, List.setIfInBounds_toArray, List.set_cons_zero, List.set_cons_succ])
        refine wpAnyH_ready (rs := [3]) (by kernel_rfl) (by simp) ?_
        refine AllReadyH.cons (o := op_FnExactTurnPlaceW_lawsFnExactTurnPlace_7_3) rfl (fun K hK => ?_) AllReadyH.nil
        dsimp only [op_FnExactTurnPlaceW_lawsFnExactTurnPlace_7_3]
        go_simp
        (first | (go_at_call 23; go_must (refine (toCell_any (cx, cy) _).mono ?_; rintro e wX ⟨rfl, hbX⟩; (try replace oT := oT.below hbX); (try replace bN := bN.bl hbX);obtain ⟨hcX, hfX, hzX⟩ := bkn hbX W.heap.size hz; have hz := hzX; have Bw := Bw.tr hbX); (try go_wp2_with fail)) | (go_at_call 30; go_must (refine (CI _ _ _ _ _ (oX.below Bw).ra (oX.below Bw).rb (oX.below Bw).rc (oX.below Bw).rd).mono ?_; rintro e wX ⟨G1, cG1, G2, cG2, G3, cG3, G4, cG4, rfl, oR, hbX⟩; have hgR := hbX.size; replace oR := oR.mono (show W.heap.size ≤ _ by omega); (try replace bN := bN.bl hbX);obtain ⟨hcX, hfX, hzX⟩ := bkn hbX W.heap.size hz; have hz := hzX; have Bw := Bw.tr hbX); (try go_wp2_with fail)))
        refine hK.out _ _ ?_ (fun hHeld => ?_)
        · (try dsimp only); (try go_keep)
        clear hK K
        (try simp only [Act.put, List.setIfInBounds_toArray, List.set_cons_zero, List.set_cons_succ])
        refine wpAnyH_take (i := 4) (oi := op_FnExactTurnPlaceW_lawsFnExactTurnPlace_7_4) (v := ?_) rfl (by kernel_rfl) (by kernel_rfl) (by kernel_rfl) (fun _ _ _ h => h) (Or.inl ⟨by rfl, ?_⟩) (by assumption) ?_
        rotate_left 1
        · (intro wS hSw; (try dsimp only at hSw); dsimp only [op_FnExactTurnPlaceW_lawsFnExactTurnPlace_7_4]; go_simp; (all_goals with_reducible rfl))
        simp only [op_FnExactTurnPlaceW_lawsFnExactTurnPlace_7_4, Act.put, List.setIfInBounds_toArray, List.set_cons_zero, List.set_cons_succ]
        refine wpAnyH_take (i := 5) (oi := op_FnExactTurnPlaceW_lawsFnExactTurnPlace_7_5) (v := ?_) rfl (by kernel_rfl) (by kernel_rfl) (by kernel_rfl) (fun _ _ _ h => h) (Or.inl ⟨by rfl, ?_⟩) (by assumption) ?_
        rotate_left 1
        · (intro wS hSw; (try dsimp only at hSw); dsimp only [op_FnExactTurnPlaceW_lawsFnExactTurnPlace_7_5]; go_simp; (all_goals with_reducible rfl))
        simp only [op_FnExactTurnPlaceW_lawsFnExactTurnPlace_7_5, Act.put, List.setIfInBounds_toArray, List.set_cons_zero, List.set_cons_succ]
        refine wpAnyH_take (i := 6) (oi := op_FnExactTurnPlaceW_lawsFnExactTurnPlace_7_6) (v := ?_) rfl (by kernel_rfl) (by kernel_rfl) (by kernel_rfl) (fun _ _ _ h => h) (Or.inl ⟨by rfl, ?_⟩) (by assumption) ?_
        rotate_left 1
        · (intro wS hSw; (try dsimp only at hSw); dsimp only [op_FnExactTurnPlaceW_lawsFnExactTurnPlace_7_6]; go_simp; (all_goals with_reducible rfl))
        simp only [op_FnExactTurnPlaceW_lawsFnExactTurnPlace_7_6, Act.put, List.setIfInBounds_toArray, List.set_cons_zero, List.set_cons_succ]
        refine wpAnyH_ready (rs := [8]) (by kernel_rfl) (by simp) ?_
        refine AllReadyH.cons (o := op_FnExactTurnPlaceW_lawsFnExactTurnPlace_7_8) rfl (fun K hK => ?_) AllReadyH.nil
        (refine step_storeRow rfl 52 _ _ rfl gN #[.slice G1 y.1.length cG1, .slice G2 y.2.1.length cG2, .slice G3 y.2.2.1.length cG3, .slice G4 y.2.2.2.length cG4, .int .i64 ys, .int .i64 yp, .int .i64 yr] rfl rfl _ _ bN (by kernel_rfl) rfl (by simp [Value.oneCell']) ?_; intro wX bNX hgX; have oS := OwnFl.rowI oR bN (by decide) (by decide) (by decide) hgX; replace Bw := Bw.grown hgX hz (fun k hk => by injection hk with hk; subst hk; omega); obtain ⟨hcX, hfX, hzX⟩ := bk Bw)
        refine hK.out _ _ ?_ (fun hHeld => ?_)
        · (try dsimp only); (try go_keep)
        clear hK K
        (try simp only [Act.put, List.setIfInBounds_toArray, List.set_cons_zero, List.set_cons_succ])
        refine wpAnyH_take (i := 9) (oi := op_FnExactTurnPlaceW_lawsFnExactTurnPlace_7_9) (v := ?_) rfl (by kernel_rfl) (by kernel_rfl) (by kernel_rfl) (fun _ _ _ h => h) (Or.inl ⟨by rfl, ?_⟩) (by assumption) ?_
        rotate_left 1
        · (intro wS hSw; (try dsimp only at hSw); dsimp only [op_FnExactTurnPlaceW_lawsFnExactTurnPlace_7_9]; go_simp; (all_goals with_reducible rfl))
        simp only [op_FnExactTurnPlaceW_lawsFnExactTurnPlace_7_9, Act.put, List.setIfInBounds_toArray, List.set_cons_zero, List.set_cons_succ]
        refine wpAnyH_done (by kernel_rfl) ?_ _
        rotate_left 1
        refine AllReadyH.cons (o := op_FnExactTurnPlaceW_lawsFnExactTurnPlace_7_7) rfl (fun K hK => ?_) AllReadyH.nil
        (refine step_alloc rfl 52 _ rfl Try.zeroValue52 ?_; intro gN wX bN hbX hgN1 hgN2 hgN3; have hgN : W.heap.size ≤ gN := (by omega); obtain ⟨hcX, hfX, hzX⟩ := bkn hbX W.heap.size hz; replace hz := hzX; replace Bw := Bw.tr hbX; (try replace oT := oT.below hbX); (try replace oR := oR.below hbX))
        refine hK.out _ _ ?_ (fun hHeld => ?_)
        · (try dsimp only); (try go_keep)
        clear hK K
        (try simp only [Act.put, List.setIfInBounds_toArray, List.set_cons_zero, List.set_cons_succ])
        refine wpAnyH_ready (rs := [2]) (by kernel_rfl) (by simp) ?_
        refine AllReadyH.cons (o := op_FnExactTurnPlaceW_lawsFnExactTurnPlace_7_2) rfl (fun K hK => ?_) AllReadyH.nil
        dsimp only [op_FnExactTurnPlaceW_lawsFnExactTurnPlace_7_2]
        go_simp
        (first | (go_at_call 23; go_must (refine (toCell_any (cx, cy) _).mono ?_; rintro e wX ⟨rfl, hbX⟩; (try replace oT := oT.below hbX); (try replace bN := bN.bl hbX);obtain ⟨hcX, hfX, hzX⟩ := bkn hbX W.heap.size hz; have hz := hzX; have Bw := Bw.tr hbX); (try go_wp2_with fail)) | (go_at_call 30; go_must (refine (CI _ _ _ _ _ (oX.below Bw).ra (oX.below Bw).rb (oX.below Bw).rc (oX.below Bw).rd).mono ?_; rintro e wX ⟨G1, cG1, G2, cG2, G3, cG3, G4, cG4, rfl, oR, hbX⟩; have hgR := hbX.size; replace oR := oR.mono (show W.heap.size ≤ _ by omega); (try replace bN := bN.bl hbX);obtain ⟨hcX, hfX, hzX⟩ := bkn hbX W.heap.size hz; have hz := hzX; have Bw := Bw.tr hbX); (try go_wp2_with fail)))
        refine hK.out _ _ ?_ (fun hHeld => ?_)
        · (try dsimp only); (try go_keep)
        clear hK K
        (try simp only [Act.put, List.setIfInBounds_toArray, List.set_cons_zero, List.set_cons_succ])
        refine wpAnyH_ready (rs := [3]) (by kernel_rfl) (by simp) ?_
        refine AllReadyH.cons (o := op_FnExactTurnPlaceW_lawsFnExactTurnPlace_7_3) rfl (fun K hK => ?_) AllReadyH.nil
        dsimp only [op_FnExactTurnPlaceW_lawsFnExactTurnPlace_7_3]
        go_simp
        (first | (go_at_call 23; go_must (refine (toCell_any (cx, cy) _).mono ?_; rintro e wX ⟨rfl, hbX⟩; (try replace oT := oT.below hbX); (try replace bN := bN.bl hbX);obtain ⟨hcX, hfX, hzX⟩ := bkn hbX W.heap.size hz; have hz := hzX; have Bw := Bw.tr hbX); (try go_wp2_with fail)) | (go_at_call 30; go_must (refine (CI _ _ _ _ _ (oX.below Bw).ra (oX.below Bw).rb (oX.below Bw).rc (oX.below Bw).rd).mono ?_; rintro e wX ⟨G1, cG1, G2, cG2, G3, cG3, G4, cG4, rfl, oR, hbX⟩; have hgR := hbX.size; replace oR := oR.mono (show W.heap.size ≤ _ by omega); (try replace bN := bN.bl hbX);obtain ⟨hcX, hfX, hzX⟩ := bkn hbX W.heap.size hz; have hz := hzX; have Bw := Bw.tr hbX); (try go_wp2_with fail)))
        refine hK.out _ _ ?_ (fun hHeld => ?_)
        · (try dsimp only); (try go_keep)
        clear hK K
        (try simp only [Act.put, List.setIfInBounds_toArray, List.set_cons_zero, List.set_cons_succ])
        refine wpAnyH_take (i := 4) (oi := op_FnExactTurnPlaceW_lawsFnExactTurnPlace_7_4) (v := ?_) rfl (by kernel_rfl) (by kernel_rfl) (by kernel_rfl) (fun _ _ _ h => h) (Or.inl ⟨by rfl, ?_⟩) (by assumption) ?_
        rotate_left 1
        · (intro wS hSw; (try dsimp only at hSw); dsimp only [op_FnExactTurnPlaceW_lawsFnExactTurnPlace_7_4]; go_simp; (all_goals with_reducible rfl))
        simp only [op_FnExactTurnPlaceW_lawsFnExactTurnPlace_7_4, Act.put, List.setIfInBounds_toArray, List.set_cons_zero, List.set_cons_succ]
        refine wpAnyH_take (i := 5) (oi := op_FnExactTurnPlaceW_lawsFnExactTurnPlace_7_5) (v := ?_) rfl (by kernel_rfl) (by kernel_rfl) (by kernel_rfl) (fun _ _ _ h => h) (Or.inl ⟨by rfl, ?_⟩) (by assumption) ?_
        rotate_left 1
        · (intro wS hSw; (try dsimp only at hSw); dsimp only [op_FnExactTurnPlaceW_lawsFnExactTurnPlace_7_5]; go_simp; (all_goals with_reducible rfl))
        simp only [op_FnExactTurnPlaceW_lawsFnExactTurnPlace_7_5, Act.put, List.setIfInBounds_toArray, List.set_cons_zero, List.set_cons_succ]
        refine wpAnyH_take (i := 6) (oi := op_FnExactTurnPlaceW_lawsFnExactTurnPlace_7_6) (v := ?_) rfl (by kernel_rfl) (by kernel_rfl) (by kernel_rfl) (fun _ _ _ h => h) (Or.inl ⟨by rfl, ?_⟩) (by assumption) ?_
        rotate_left 1
        · (intro wS hSw; (try dsimp only at hSw); dsimp only [op_FnExactTurnPlaceW_lawsFnExactTurnPlace_7_6]; go_simp; (all_goals with_reducible rfl))
        simp only [op_FnExactTurnPlaceW_lawsFnExactTurnPlace_7_6, Act.put, List.setIfInBounds_toArray, List.set_cons_zero, List.set_cons_succ]
        refine wpAnyH_ready (rs := [8]) (by kernel_rfl) (by simp) ?_
        refine AllReadyH.cons (o := op_FnExactTurnPlaceW_lawsFnExactTurnPlace_7_8) rfl (fun K hK => ?_) AllReadyH.nil
        (refine step_storeRow rfl 52 _ _ rfl gN #[.slice G1 y.1.length cG1, .slice G2 y.2.1.length cG2, .slice G3 y.2.2.1.length cG3, .slice G4 y.2.2.2.length cG4, .int .i64 ys, .int .i64 yp, .int .i64 yr] rfl rfl _ _ bN (by kernel_rfl) rfl (by simp [Value.oneCell']) ?_; intro wX bNX hgX; have oS := OwnFl.rowI oR bN (by decide) (by decide) (by decide) hgX; replace Bw := Bw.grown hgX hz (fun k hk => by injection hk with hk; subst hk; omega); obtain ⟨hcX, hfX, hzX⟩ := bk Bw)
        refine hK.out _ _ ?_ (fun hHeld => ?_)
        · (try dsimp only); (try go_keep)
        clear hK K
        (try simp only [Act.put, List.setIfInBounds_toArray, List.set_cons_zero, List.set_cons_succ])
        refine wpAnyH_take (i := 9) (oi := op_FnExactTurnPlaceW_lawsFnExactTurnPlace_7_9) (v := ?_) rfl (by kernel_rfl) (by kernel_rfl) (by kernel_rfl) (fun _ _ _ h => h) (Or.inl ⟨by rfl, ?_⟩) (by assumption) ?_
        rotate_left 1
        · (intro wS hSw; (try dsimp only at hSw); dsimp only [op_FnExactTurnPlaceW_lawsFnExactTurnPlace_7_9]; go_simp; (all_goals with_reducible rfl))
        simp only [op_FnExactTurnPlaceW_lawsFnExactTurnPlace_7_9, Act.put, List.setIfInBounds_toArray, List.set_cons_zero, List.set_cons_succ]
        refine wpAnyH_done (by kernel_rfl) ?_ _
        all_goals
          go_wp2_with fail
          go_meet
          exact ⟨_, _, _, _, _, _, _, _, _, rfl, rfl, bNX, oS, Bw⟩
      case rest =>
        obtain ⟨gG, G1, G2, G3, G4, cG1, cG2, cG3, cG4, rfl, rfl, bG, oG, hb⟩ := hcut
        clear z1_0 z1_1 x_0 x_1 x_2 x_3 x_4 x_5 x_6
        have ap_oX_oG := apart_of (fun k hk => (oX.lt hk).2) (fun k hk => (oG.lt hk).1) (Nat.le_refl _)
        have ap_oW_oG := apart_of (fun k hk => (oW.lt hk).2) (fun k hk => (oG.lt hk).1) (Nat.le_refl _)
        replace oG := oG.mono B.size
        replace B := B.tr hb
        replace bA0 := bA0.bl hb
        replace bA1 := bA1.bl hb
        replace bW := bW.bl hb
        replace oW := oW.below hb
        replace oX := oX.below hb
        replace bX := bX.bl hb
        clear hb
        obtain ⟨w3, hw3⟩ : ∃ v, v = wc := ⟨_, rfl⟩
        rw [← hw3] at B bA0 bA1 bW oW oX bX oG bG ⊢
        clear hw3
        have u_0 := bG.cell 0
        have u_1 := bG.cell 1
        have u_2 := bG.cell 2
        have u_3 := bG.cell 3
        have u_4 := bG.cell 4
        have u_5 := bG.cell 5
        have u_6 := bG.cell 6
        simp only [List.getElem?_toArray, List.getElem?_cons_zero, List.getElem?_cons_succ] at u_0 u_1 u_2 u_3 u_4 u_5 u_6
        have v_0 := bW.cell 0
        have v_1 := bW.cell 1
        have v_2 := bW.cell 2
        have v_3 := bW.cell 3
        have v_4 := bW.cell 4
        have v_5 := bW.cell 5
        have v_6 := bW.cell 6
        simp only [List.getElem?_toArray, List.getElem?_cons_zero, List.getElem?_cons_succ] at v_0 v_1 v_2 v_3 v_4 v_5 v_6
        go_wp2_with fail
        refine (eqWork_same _ _ _ _ _ _ _ _ y ys yp yr _ oG.ra oG.rb oG.rc oG.rd oW.ra oW.rb oW.rc oW.rd).mono ?_
        rintro e w4 ⟨rfl, hb⟩
        clear u_0 u_1 u_2 u_3 u_4 u_5 u_6 v_0 v_1 v_2 v_3 v_4 v_5 v_6
        replace B := B.tr hb
        replace bA0 := bA0.bl hb
        replace bA1 := bA1.bl hb
        replace bW := bW.bl hb
        replace oW := oW.below hb
        replace oX := oX.below hb
        replace bX := bX.bl hb
        replace bG := bG.bl hb
        replace oG := oG.below hb
        clear hb
        go_upto_region 10 with (fail)
        obtain ⟨W, hW⟩ : ∃ W, W = w4 := ⟨_, rfl⟩
        rw [← hW] at B bA0 bA1 bW oW oX bX bG oG ⊢
        clear hW
        have z_0 := bA0.cell 0
        have z_1 := bA0.cell 1
        have z_2 := bA0.cell 2
        have z_3 := bA0.cell 3
        have z_4 := bA0.cell 4
        have z_5 := bA0.cell 5
        have z_6 := bA0.cell 6
        simp only [List.getElem?_toArray, List.getElem?_cons_zero, List.getElem?_cons_succ] at z_0 z_1 z_2 z_3 z_4 z_5 z_6
        have x_0 := bX.cell 0
        have x_1 := bX.cell 1
        have x_2 := bX.cell 2
        have x_3 := bX.cell 3
        have x_4 := bX.cell 4
        have x_5 := bX.cell 5
        have x_6 := bX.cell 6
        simp only [List.getElem?_toArray, List.getElem?_cons_zero, List.getElem?_cons_succ] at x_0 x_1 x_2 x_3 x_4 x_5 x_6
        have hlA0 := bA0.lt
        have hlX := bX.lt
        have Bw : Below W.heap.size W W.drew := (Below.refl _ _).drew
        have hz : W.heap.size ≤ W.drew.heap.size := by simp
        refine wp_region_held_drew (S := (fun w' => w'.cell? ⟨gX, 0, none⟩ = some (.slice X1 rows.length x1) ∧ w'.cell? ⟨gX, 1, none⟩ = some (.slice X2 f.length x2) ∧ w'.cell? ⟨gX, 2, none⟩ = some (.slice X3 n.length x3) ∧ w'.cell? ⟨gX, 3, none⟩ = some (.slice X4 fl.length x4) ∧ w'.cell? ⟨gX, 4, none⟩ = some (.int .i64 s) ∧ w'.cell? ⟨gX, 5, none⟩ = some (.int .i64 p) ∧ w'.cell? ⟨gX, 6, none⟩ = some (.int .i64 r) ∧ w'.cell? ⟨w.heap.size, 0, none⟩ = some (.slice P1 rows.length q1) ∧ w'.cell? ⟨w.heap.size, 1, none⟩ = some (.slice P2 f.length q2) ∧ w'.cell? ⟨w.heap.size, 2, none⟩ = some (.slice P3 n.length q3) ∧ w'.cell? ⟨w.heap.size, 3, none⟩ = some (.slice P4 fl.length q4) ∧ w'.cell? ⟨w.heap.size, 4, none⟩ = some (.int .i64 s) ∧ w'.cell? ⟨w.heap.size, 5, none⟩ = some (.int .i64 p) ∧ w'.cell? ⟨w.heap.size, 6, none⟩ = some (.int .i64 r))) (by kernel_rfl) ?_ (fun hHeld => ?_)
        · (try dsimp only); (try go_keep)
        refine wpAnyH_take (i := 0) (oi := op_FnExactTurnPlaceW_lawsFnExactTurnPlace_10_0) (v := ?_) rfl (by kernel_rfl) (by kernel_rfl) (by kernel_rfl) (fun _ _ _ h => h) (Or.inl ⟨by rfl, ?_⟩) (by assumption) ?_
        rotate_left 1
        · (intro wS hSw; (try dsimp only at hSw); dsimp only [op_FnExactTurnPlaceW_lawsFnExactTurnPlace_10_0]; go_simp; (all_goals with_reducible rfl))
        simp only [op_FnExactTurnPlaceW_lawsFnExactTurnPlace_10_0, Act.put, List.setIfInBounds_toArray, List.set_cons_zero, List.set_cons_succ]
        refine wpAnyH_take (i := 1) (oi := op_FnExactTurnPlaceW_lawsFnExactTurnPlace_10_1) (v := ?_) rfl (by kernel_rfl) (by kernel_rfl) (by kernel_rfl) (fun _ _ _ h => h) (Or.inl ⟨by rfl, ?_⟩) (by assumption) ?_
        rotate_left 1
        · (intro wS hSw; (try dsimp only at hSw); dsimp only [op_FnExactTurnPlaceW_lawsFnExactTurnPlace_10_1]; go_simp; (all_goals with_reducible rfl))
        simp only [op_FnExactTurnPlaceW_lawsFnExactTurnPlace_10_1, Act.put, List.setIfInBounds_toArray, List.set_cons_zero, List.set_cons_succ]
        refine wpAnyH_ready (rs := [2]) (by kernel_rfl) (by simp) ?_
        refine AllReadyH.cons (o := op_FnExactTurnPlaceW_lawsFnExactTurnPlace_10_2) rfl (fun K hK => ?_) AllReadyH.nil
        dsimp only [op_FnExactTurnPlaceW_lawsFnExactTurnPlace_10_2]
        go_simp
        (first | (go_at_call 29; go_must (refine (toWork_any _ _ _ _ ((rows, f, n, fl), s, p, r) _ (h1.below RE.stays (B.tr Bw)) (h2.below RE.stays (B.tr Bw)) (h3.below RE.stays (B.tr Bw)) (h4.below RE.stays (B.tr Bw)) HS.out).mono ?_; rintro e wX ⟨T1, t1, T2, t2, T3, t3, T4, t4, rfl, oT, hbX⟩; obtain ⟨hcX, hfX, hzX⟩ := bkn hbX W.heap.size hz; have hz := hzX; have Bw := Bw.tr hbX); (try go_wp2_with fail)) | (go_at_call 31; go_must (refine (eqWork_same _ _ _ _ _ _ _ _ (rows, f, n, fl) s p r _ (oX.below Bw).ra (oX.below Bw).rb (oX.below Bw).rc (oX.below Bw).rd oT.ra oT.rb oT.rc oT.rd).mono ?_; rintro e wX ⟨rfl, hbX⟩; obtain ⟨hcX, hfX, hzX⟩ := bkn hbX W.heap.size hz; have hz := hzX; have Bw := Bw.tr hbX); (try go_wp2_with fail)))
        refine hK.out _ _ ?_ (fun hHeld => ?_)
        · (try dsimp only); (try go_keep)
        clear hK K
        (try simp only [Act.put, List.setIfInBounds_toArray, List.set_cons_zero, List.set_cons_succ])
        refine wpAnyH_ready (rs := [3]) (by kernel_rfl) (by simp) ?_
        refine AllReadyH.cons (o := op_FnExactTurnPlaceW_lawsFnExactTurnPlace_10_3) rfl (fun K hK => ?_) AllReadyH.nil
        dsimp only [op_FnExactTurnPlaceW_lawsFnExactTurnPlace_10_3]
        go_simp
        (first | (go_at_call 29; go_must (refine (toWork_any _ _ _ _ ((rows, f, n, fl), s, p, r) _ (h1.below RE.stays (B.tr Bw)) (h2.below RE.stays (B.tr Bw)) (h3.below RE.stays (B.tr Bw)) (h4.below RE.stays (B.tr Bw)) HS.out).mono ?_; rintro e wX ⟨T1, t1, T2, t2, T3, t3, T4, t4, rfl, oT, hbX⟩; obtain ⟨hcX, hfX, hzX⟩ := bkn hbX W.heap.size hz; have hz := hzX; have Bw := Bw.tr hbX); (try go_wp2_with fail)) | (go_at_call 31; go_must (refine (eqWork_same _ _ _ _ _ _ _ _ (rows, f, n, fl) s p r _ (oX.below Bw).ra (oX.below Bw).rb (oX.below Bw).rc (oX.below Bw).rd oT.ra oT.rb oT.rc oT.rd).mono ?_; rintro e wX ⟨rfl, hbX⟩; obtain ⟨hcX, hfX, hzX⟩ := bkn hbX W.heap.size hz; have hz := hzX; have Bw := Bw.tr hbX); (try go_wp2_with fail)))
        refine hK.out _ _ ?_ (fun hHeld => ?_)
        · (try dsimp only); (try go_keep)
        clear hK K
        (try simp only [Act.put, List.setIfInBounds_toArray, List.set_cons_zero, List.set_cons_succ])
        refine wpAnyH_take (i := 4) (oi := op_FnExactTurnPlaceW_lawsFnExactTurnPlace_10_4) (v := ?_) rfl (by kernel_rfl) (by kernel_rfl) (by kernel_rfl) (fun _ _ _ h => h) (Or.inl ⟨by rfl, ?_⟩) (by assumption) ?_
        rotate_left 1
        · (intro wS hSw; (try dsimp only at hSw); dsimp only [op_FnExactTurnPlaceW_lawsFnExactTurnPlace_10_4]; go_simp; (all_goals with_reducible rfl))
        simp only [op_FnExactTurnPlaceW_lawsFnExactTurnPlace_10_4, Act.put, List.setIfInBounds_toArray, List.set_cons_zero, List.set_cons_succ]
        refine wpAnyH_done (by kernel_rfl) ?_ _
        clear z_0 z_1 z_2 z_3 z_4 z_5 z_6 x_0 x_1 x_2 x_3 x_4 x_5 x_6
        replace B := B.tr Bw
        replace bA0 := bA0.bl Bw
        replace bA1 := bA1.bl Bw
        replace bW := bW.bl Bw
        replace oW := oW.below Bw
        replace oX := oX.below Bw
        replace bX := bX.bl Bw
        replace bG := bG.bl Bw
        replace oG := oG.below Bw
        clear Bw hz oT
        have x_0 := bX.cell 0
        have x_1 := bX.cell 1
        have x_2 := bX.cell 2
        have x_3 := bX.cell 3
        have x_4 := bX.cell 4
        have x_5 := bX.cell 5
        have x_6 := bX.cell 6
        simp only [List.getElem?_toArray, List.getElem?_cons_zero, List.getElem?_cons_succ] at x_0 x_1 x_2 x_3 x_4 x_5 x_6
        have hmx := mkEnd_pos (rows, f, n, fl)
        have hmy := mkEnd_pos y
        go_wp2_with fail
        refine (markWork_any _ _ _ _ (rows, f, n, fl) s p r _ _ oX HS.out).mono ?_
        rintro e w6 ⟨rfl, oM, hG⟩
        clear x_0 x_1 x_2 x_3 x_4 x_5 x_6
        replace bA0 := bA0.grownS hG (oX.apart bA0 (by decide) (by decide) (by decide))
        replace bA1 := bA1.grownS hG (oX.apart bA1 (by decide) (by decide) (by decide))
        replace bW := bW.grownS hG (oX.apart bW (by decide) (by decide) (by decide))
        replace oW := oW.grownS hG (ap_oW_oX)
        replace bX := bX.grownS hG (oX.apart bX (by decide) (by decide) (by decide))
        replace bG := bG.grownS hG (oX.apart bG (by decide) (by decide) (by decide))
        replace oG := oG.grownS hG (fun k hk hx => ap_oX_oG k hx hk)
        replace B := Below.grownS B hG B.size (fun k hk => (oX.lt hk).1)
        clear hG oM
        clear oX bX
        have u_0 := bG.cell 0
        have u_1 := bG.cell 1
        have u_2 := bG.cell 2
        have u_3 := bG.cell 3
        have u_4 := bG.cell 4
        have u_5 := bG.cell 5
        have u_6 := bG.cell 6
        simp only [List.getElem?_toArray, List.getElem?_cons_zero, List.getElem?_cons_succ] at u_0 u_1 u_2 u_3 u_4 u_5 u_6
        have v_0 := bW.cell 0
        have v_1 := bW.cell 1
        have v_2 := bW.cell 2
        have v_3 := bW.cell 3
        have v_4 := bW.cell 4
        have v_5 := bW.cell 5
        have v_6 := bW.cell 6
        simp only [List.getElem?_toArray, List.getElem?_cons_zero, List.getElem?_cons_succ] at v_0 v_1 v_2 v_3 v_4 v_5 v_6
        go_wp2_with fail
        refine (eqWork_same _ _ _ _ _ _ _ _ y ys yp yr _ oG.ra oG.rb oG.rc oG.rd oW.ra oW.rb oW.rc oW.rd).mono ?_
        rintro e w7 ⟨rfl, hb⟩
        clear u_0 u_1 u_2 u_3 u_4 u_5 u_6 v_0 v_1 v_2 v_3 v_4 v_5 v_6
        replace B := B.tr hb
        replace bA0 := bA0.bl hb
        replace bA1 := bA1.bl hb
        replace bW := bW.bl hb
        replace oW := oW.below hb
        replace bG := bG.bl hb
        replace oG := oG.below hb
        clear hb
        have u_0 := bG.cell 0
        have u_1 := bG.cell 1
        have u_2 := bG.cell 2
        have u_3 := bG.cell 3
        have u_4 := bG.cell 4
        have u_5 := bG.cell 5
        have u_6 := bG.cell 6
        simp only [List.getElem?_toArray, List.getElem?_cons_zero, List.getElem?_cons_succ] at u_0 u_1 u_2 u_3 u_4 u_5 u_6
        go_wp2_with fail
        refine (markWork_any _ _ _ _ y ys yp yr _ _ oG HY4.out).mono ?_
        rintro e w8 ⟨rfl, oM, hG⟩
        clear u_0 u_1 u_2 u_3 u_4 u_5 u_6
        replace bA0 := bA0.grownS hG (oG.apart bA0 (by decide) (by decide) (by decide))
        replace bA1 := bA1.grownS hG (oG.apart bA1 (by decide) (by decide) (by decide))
        replace bW := bW.grownS hG (oG.apart bW (by decide) (by decide) (by decide))
        replace oW := oW.grownS hG (ap_oW_oG)
        replace bG := bG.grownS hG (oG.apart bG (by decide) (by decide) (by decide))
        replace B := Below.grownS B hG B.size (fun k hk => (oG.lt hk).1)
        clear hG oG
        have oG := oM
        clear oM
        have u_0 := bG.cell 0
        have u_1 := bG.cell 1
        have u_2 := bG.cell 2
        have u_3 := bG.cell 3
        have u_4 := bG.cell 4
        have u_5 := bG.cell 5
        have u_6 := bG.cell 6
        simp only [List.getElem?_toArray, List.getElem?_cons_zero, List.getElem?_cons_succ] at u_0 u_1 u_2 u_3 u_4 u_5 u_6
        go_wp2_with fail
        refine (heldWork_any _ _ _ _ y ys yp yr _ _ oG HY4.out).mono ?_
        rintro e w9 ⟨rfl, hb⟩
        clear u_0 u_1 u_2 u_3 u_4 u_5 u_6
        replace B := B.tr hb
        replace bA0 := bA0.bl hb
        replace bA1 := bA1.bl hb
        replace bW := bW.bl hb
        replace oW := oW.below hb
        replace bG := bG.bl hb
        replace oG := oG.below hb
        clear hb
        go_upto_region 24 with (fail)
        obtain ⟨W, hW⟩ : ∃ W, W = w9 := ⟨_, rfl⟩
        rw [← hW] at B bA0 bA1 bW oW bG oG ⊢
        clear hW
        have z0_0 := bA0.cell 0
        have z0_1 := bA0.cell 1
        have z0_2 := bA0.cell 2
        have z0_3 := bA0.cell 3
        have z0_4 := bA0.cell 4
        have z0_5 := bA0.cell 5
        have z0_6 := bA0.cell 6
        simp only [List.getElem?_toArray, List.getElem?_cons_zero, List.getElem?_cons_succ] at z0_0 z0_1 z0_2 z0_3 z0_4 z0_5 z0_6
        have z1_0 := bA1.cell 0
        have z1_1 := bA1.cell 1
        simp only [List.getElem?_toArray, List.getElem?_cons_zero, List.getElem?_cons_succ] at z1_0 z1_1
        have hlA0 := bA0.lt
        have hlA1 := bA1.lt
        go_cut [14, 15] (fun s14 s15 wx => ∃ (gN : Nat) (H1 H2 H3 H4 : Option Addr) (cH1 cH2 cH3 cH4 : Nat), s14 = .pointer (some ⟨gN, 0, none⟩) ∧ s15 = .bool b ∧ Blk wx gN 52 #[.slice H1 y.1.length cH1, .slice H2 y.2.1.length cH2, .slice H3 y.2.2.1.length cH3, .slice H4 y.2.2.2.length cH4, .int .i64 ys, .int .i64 yp, .int .i64 yr] ∧ OwnFl W.heap.size wx (.slice H1 y.1.length cH1) (.slice H2 y.2.1.length cH2) (.slice H3 y.2.2.1.length cH3) (.slice H4 y.2.2.2.length cH4) y ∧ Below W.heap.size W wx)
        case first =>
          have Bw : Below W.heap.size W W.drew := (Below.refl _ _).drew
          have hz : W.heap.size ≤ W.drew.heap.size := by simp
          refine wp_region_held_drew (S := (fun w' => w'.cell? ⟨w.heap.size, 0, none⟩ = some (.slice P1 rows.length q1) ∧ w'.cell? ⟨w.heap.size, 1, none⟩ = some (.slice P2 f.length q2) ∧ w'.cell? ⟨w.heap.size, 2, none⟩ = some (.slice P3 n.length q3) ∧ w'.cell? ⟨w.heap.size, 3, none⟩ = some (.slice P4 fl.length q4) ∧ w'.cell? ⟨w.heap.size, 4, none⟩ = some (.int .i64 s) ∧ w'.cell? ⟨w.heap.size, 5, none⟩ = some (.int .i64 p) ∧ w'.cell? ⟨w.heap.size, 6, none⟩ = some (.int .i64 r) ∧ w'.cell? ⟨w.heap.size + 1, 0, none⟩ = some (.int .i64 cx) ∧ w'.cell? ⟨w.heap.size + 1, 1, none⟩ = some (.int .i64 cy))) (by kernel_rfl) ?_ (fun hHeld => ?_)
          · (try dsimp only); (try go_keep)
          refine wpAnyH_take (i := 0) (oi := op_FnExactTurnPlaceW_lawsFnExactTurnPlace_24_0) (v := ?_) rfl (by kernel_rfl) (by kernel_rfl) (by kernel_rfl) (fun _ _ _ h => h) (Or.inl ⟨by rfl, ?_⟩) (by assumption) ?_
          rotate_left 1
          · (intro wS hSw; (try dsimp only at hSw); dsimp only [op_FnExactTurnPlaceW_lawsFnExactTurnPlace_24_0]; go_simp; (all_goals with_reducible rfl))
          simp only [op_FnExactTurnPlaceW_lawsFnExactTurnPlace_24_0, Act.put, List.setIfInBounds_toArray, List.set_cons_zero, List.set_cons_succ]
          refine wpAnyH_take (i := 2) (oi := op_FnExactTurnPlaceW_lawsFnExactTurnPlace_24_2) (v := ?_) rfl (by kernel_rfl) (by kernel_rfl) (by kernel_rfl) (fun _ _ _ h => h) (Or.inl ⟨by rfl, ?_⟩) (by assumption) ?_
          rotate_left 1
          · (intro wS hSw; (try dsimp only at hSw); dsimp only [op_FnExactTurnPlaceW_lawsFnExactTurnPlace_24_2]; go_simp; (all_goals with_reducible rfl))
          simp only [op_FnExactTurnPlaceW_lawsFnExactTurnPlace_24_2, Act.put, List.setIfInBounds_toArray, List.set_cons_zero, List.set_cons_succ]
          refine wpAnyH_ready (rs := [1, 8]) (by kernel_rfl) (by simp) ?_
          refine AllReadyH.cons (o := op_FnExactTurnPlaceW_lawsFnExactTurnPlace_24_1) rfl (fun K hK => ?_) ?_
          dsimp only [op_FnExactTurnPlaceW_lawsFnExactTurnPlace_24_1]
          go_simp
          (first | (go_at_call 29; go_must (refine (toWork_any _ _ _ _ ((rows, f, n, fl), s, p, r) _ (h1.below RE.stays (B.tr Bw)) (h2.below RE.stays (B.tr Bw)) (h3.below RE.stays (B.tr Bw)) (h4.below RE.stays (B.tr Bw)) HS.out).mono ?_; rintro e wX ⟨T1, t1, T2, t2, T3, t3, T4, t4, rfl, oT, hbX⟩; (try replace bN := bN.bl hbX);obtain ⟨hcX, hfX, hzX⟩ := bkn hbX W.heap.size hz; have hz := hzX; have Bw := Bw.tr hbX); (try go_wp2_with fail)) | (go_at_call 23; go_must (refine (toCell_any (cx, cy) _).mono ?_; rintro e wX ⟨rfl, hbX⟩; (try replace oT := oT.below hbX); (try replace bN := bN.bl hbX);obtain ⟨hcX, hfX, hzX⟩ := bkn hbX W.heap.size hz; have hz := hzX; have Bw := Bw.tr hbX); (try go_wp2_with fail)) | (go_at_call 30; go_must (refine (CI _ _ _ _ _ oT.ra oT.rb oT.rc oT.rd).mono ?_; rintro e wX ⟨H1, cH1, H2, cH2, H3, cH3, H4, cH4, rfl, oR, hbX⟩; have hgR := hbX.size; replace oR := oR.mono (show W.heap.size ≤ _ by omega); (try replace bN := bN.bl hbX);obtain ⟨hcX, hfX, hzX⟩ := bkn hbX W.heap.size hz; have hz := hzX; have Bw := Bw.tr hbX); (try go_wp2_with fail)))
          refine hK.out _ _ ?_ (fun hHeld => ?_)
          · (try dsimp only); (try go_keep)
          clear hK K
          (try simp only [Act.put, List.setIfInBounds_toArray, List.set_cons_zero, List.set_cons_succ])
          refine wpAnyH_ready (rs := [3, 8]) (by kernel_rfl) (by simp) ?_
          refine AllReadyH.cons (o := op_FnExactTurnPlaceW_lawsFnExactTurnPlace_24_3) rfl (fun K hK => ?_) ?_
          dsimp only [op_FnExactTurnPlaceW_lawsFnExactTurnPlace_24_3]
          go_simp
          (first | (go_at_call 29; go_must (refine (toWork_any _ _ _ _ ((rows, f, n, fl), s, p, r) _ (h1.below RE.stays (B.tr Bw)) (h2.below RE.stays (B.tr Bw)) (h3.below RE.stays (B.tr Bw)) (h4.below RE.stays (B.tr Bw)) HS.out).mono ?_; rintro e wX ⟨T1, t1, T2, t2, T3, t3, T4, t4, rfl, oT, hbX⟩; (try replace bN := bN.bl hbX);obtain ⟨hcX, hfX, hzX⟩ := bkn hbX W.heap.size hz; have hz := hzX; have Bw := Bw.tr hbX); (try go_wp2_with fail)) | (go_at_call 23; go_must (refine (toCell_any (cx, cy) _).mono ?_; rintro e wX ⟨rfl, hbX⟩; (try replace oT := oT.below hbX); (try replace bN := bN.bl hbX);obtain ⟨hcX, hfX, hzX⟩ := bkn hbX W.heap.size hz; have hz := hzX; have Bw := Bw.tr hbX); (try go_wp2_with fail)) | (go_at_call 30; go_must (refine (CI _ _ _ _ _ oT.ra oT.rb oT.rc oT.rd).mono ?_; rintro e wX ⟨H1, cH1, H2, cH2, H3, cH3, H4, cH4, rfl, oR, hbX⟩; have hgR := hbX.size; replace oR := oR.mono (show W.heap.size ≤ _ by omega); (try replace bN := bN.bl hbX);obtain ⟨hcX, hfX, hzX⟩ := bkn hbX W.heap.size hz; have hz := hzX; have Bw := Bw.tr hbX); (try go_wp2_with fail)))
          refine hK.out _ _ ?_ (fun hHeld => ?_)
          · (try dsimp only); (try go_keep)
          clear hK K
          (try simp only [Act.put, List.setIfInBounds_toArray, List.set_cons_zero, List.set_cons_succ])
          refine wpAnyH_ready (rs := [4, 8]) (by kernel_rfl) (by simp) ?_
          refine AllReadyH.cons (o := op_FnExactTurnPlaceW_lawsFnExactTurnPlace_24_4) rfl (fun K hK => ?_) ?_
          dsimp only [op_FnExactTurnPlaceW_lawsFnExactTurnPlace_24_4]
          go_simp
          (first | (go_at_call 29; go_must (refine (toWork_any _ _ _ _ ((rows, f, n, fl), s, p, r) _ (h1.below RE.stays (B.tr Bw)) (h2.below RE.stays (B.tr Bw)) (h3.below RE.stays (B.tr Bw)) (h4.below RE.stays (B.tr Bw)) HS.out).mono ?_; rintro e wX ⟨T1, t1, T2, t2, T3, t3, T4, t4, rfl, oT, hbX⟩; (try replace bN := bN.bl hbX);obtain ⟨hcX, hfX, hzX⟩ := bkn hbX W.heap.size hz; have hz := hzX; have Bw := Bw.tr hbX); (try go_wp2_with fail)) | (go_at_call 23; go_must (refine (toCell_any (cx, cy) _).mono ?_; rintro e wX ⟨rfl, hbX⟩; (try replace oT := oT.below hbX); (try replace bN := bN.bl hbX);obtain ⟨hcX, hfX, hzX⟩ := bkn hbX W.heap.size hz; have hz := hzX; have Bw := Bw.tr hbX); (try go_wp2_with fail)) | (go_at_call 30; go_must (refine (CI _ _ _ _ _ oT.ra oT.rb oT.rc oT.rd).mono ?_; rintro e wX ⟨H1, cH1, H2, cH2, H3, cH3, H4, cH4, rfl, oR, hbX⟩; have hgR := hbX.size; replace oR := oR.mono (show W.heap.size ≤ _ by omega); (try replace bN := bN.bl hbX);obtain ⟨hcX, hfX, hzX⟩ := bkn hbX W.heap.size hz; have hz := hzX; have Bw := Bw.tr hbX); (try go_wp2_with fail)))
          refine hK.out _ _ ?_ (fun hHeld => ?_)
          · (try dsimp only); (try go_keep)
          clear hK K
          (try simp only [Act.put, List.setIfInBounds_toArray, List.set_cons_zero, List.set_cons_succ])
          refine wpAnyH_take (i := 5) (oi := op_FnExactTurnPlaceW_lawsFnExactTurnPlace_24_5) (v := ?_) rfl (by kernel_rfl) (by kernel_rfl) (by kernel_rfl) (fun _ _ _ h => h) (Or.inl ⟨by rfl, ?_⟩) (by assumption) ?_
          rotate_left 1
          · (intro wS hSw; (try dsimp only at hSw); dsimp only [op_FnExactTurnPlaceW_lawsFnExactTurnPlace_24_5]; go_simp; (all_goals with_reducible rfl))
          simp only [op_FnExactTurnPlaceW_lawsFnExactTurnPlace_24_5, Act.put, List.setIfInBounds_toArray, List.set_cons_zero, List.set_cons_succ]
          refine wpAnyH_take (i := 6) (oi := op_FnExactTurnPlaceW_lawsFnExactTurnPlace_24_6) (v := ?_) rfl (by kernel_rfl) (by kernel_rfl) (by kernel_rfl) (fun _ _ _ h => h) (Or.inl ⟨by rfl, ?_⟩) (by assumption) ?_
          rotate_left 1
          · (intro wS hSw; (try dsimp only at hSw); dsimp only [op_FnExactTurnPlaceW_lawsFnExactTurnPlace_24_6]; go_simp; (all_goals with_reducible rfl))
          simp only [op_FnExactTurnPlaceW_lawsFnExactTurnPlace_24_6, Act.put, List.setIfInBounds_toArray, List.set_cons_zero, List.set_cons_succ]
          refine wpAnyH_take (i := 7) (oi := op_FnExactTurnPlaceW_lawsFnExactTurnPlace_24_7) (v := ?_) rfl (by kernel_rfl) (by kernel_rfl) (by kernel_rfl) (fun _ _ _ h => h) (Or.inl ⟨by rfl, ?_⟩) (by assumption) ?_
          rotate_left 1
          · (intro wS hSw; (try dsimp only at hSw); dsimp only [op_FnExactTurnPlaceW_lawsFnExactTurnPlace_24_7]; go_simp; (all_goals with_reducible rfl))
          simp only [op_FnExactTurnPlaceW_lawsFnExactTurnPlace_24_7, Act.put, List.setIfInBounds_toArray, List.set_cons_zero, List.set_cons_succ]
          refine wpAnyH_ready (rs := [8]) (by kernel_rfl) (by simp) ?_
          refine AllReadyH.cons (o := op_FnExactTurnPlaceW_lawsFnExactTurnPlace_24_8) rfl (fun K hK => ?_) AllReadyH.nil
          (refine step_alloc rfl 52 _ rfl Try.zeroValue52 ?_; intro gN wX bN hbX hgN1 hgN2 hgN3; have hgN : W.heap.size ≤ gN := (by omega); obtain ⟨hcX, hfX, hzX⟩ := bkn hbX W.heap.size hz; replace hz := hzX; replace Bw := Bw.tr hbX; (try replace oT := oT.below hbX); (try replace oR := oR.below hbX))
          refine hK.out _ _ ?_ (fun hHeld => ?_)
          · (try dsimp only); (try go_keep)
          clear hK K
          (try simp only [Act.put, List.setIfInBounds_toArray, List.set_cons_zero, List.set_cons_succ])
          refine wpAnyH_ready (rs := [9]) (by kernel_rfl) (by simp) ?_
          refine AllReadyH.cons (o := op_FnExactTurnPlaceW_lawsFnExactTurnPlace_24_9) rfl (fun K hK => ?_) AllReadyH.nil
          (refine step_storeRow rfl 52 _ _ rfl gN #[.slice H1 y.1.length cH1, .slice H2 y.2.1.length cH2, .slice H3 y.2.2.1.length cH3, .slice H4 y.2.2.2.length cH4, .int .i64 ys, .int .i64 yp, .int .i64 yr] rfl rfl _ _ bN (by kernel_rfl) rfl (by simp [Value.oneCell']) ?_; intro wX bNX hgX; have oS := OwnFl.rowI oR bN (by decide) (by decide) (by decide) hgX; replace Bw := Bw.grown hgX hz (fun k hk => by injection hk with hk; subst hk; omega); obtain ⟨hcX, hfX, hzX⟩ := bk Bw)
          refine hK.out _ _ ?_ (fun hHeld => ?_)
          · (try dsimp only); (try go_keep)
          clear hK K
          (try simp only [Act.put, List.setIfInBounds_toArray, List.set_cons_zero, List.set_cons_succ])
          refine wpAnyH_take (i := 10) (oi := op_FnExactTurnPlaceW_lawsFnExactTurnPlace_24_10) (v := ?_) rfl (by kernel_rfl) (by kernel_rfl) (by kernel_rfl) (fun _ _ _ h => h) (Or.inl ⟨by rfl, ?_⟩) (by assumption) ?_
          rotate_left 1
          · (intro wS hSw; (try dsimp only at hSw); dsimp only [op_FnExactTurnPlaceW_lawsFnExactTurnPlace_24_10]; go_simp; (all_goals with_reducible rfl))
          simp only [op_FnExactTurnPlaceW_lawsFnExactTurnPlace_24_10, Act.put, List.setIfInBounds_toArray, List.set_cons_zero, List.set_cons_succ]
          refine wpAnyH_done (by kernel_rfl) ?_ _
          rotate_left 1
          refine AllReadyH.cons (o := op_FnExactTurnPlaceW_lawsFnExactTurnPlace_24_8) rfl (fun K hK => ?_) AllReadyH.nil
          (refine step_alloc rfl 52 _ rfl Try.zeroValue52 ?_; intro gN wX bN hbX hgN1 hgN2 hgN3; have hgN : W.heap.size ≤ gN := (by omega); obtain ⟨hcX, hfX, hzX⟩ := bkn hbX W.heap.size hz; replace hz := hzX; replace Bw := Bw.tr hbX; (try replace oT := oT.below hbX); (try replace oR := oR.below hbX))
          refine hK.out _ _ ?_ (fun hHeld => ?_)
          · (try dsimp only); (try go_keep)
          clear hK K
          (try simp only [Act.put, List.setIfInBounds_toArray, List.set_cons_zero, List.set_cons_succ])
          refine wpAnyH_ready (rs := [4]) (by kernel_rfl) (by simp) ?_
          refine AllReadyH.cons (o := op_FnExactTurnPlaceW_lawsFnExactTurnPlace_24_4) rfl (fun K hK => ?_) AllReadyH.nil
          dsimp only [op_FnExactTurnPlaceW_lawsFnExactTurnPlace_24_4]
          go_simp
          (first | (go_at_call 29; go_must (refine (toWork_any _ _ _ _ ((rows, f, n, fl), s, p, r) _ (h1.below RE.stays (B.tr Bw)) (h2.below RE.stays (B.tr Bw)) (h3.below RE.stays (B.tr Bw)) (h4.below RE.stays (B.tr Bw)) HS.out).mono ?_; rintro e wX ⟨T1, t1, T2, t2, T3, t3, T4, t4, rfl, oT, hbX⟩; (try replace bN := bN.bl hbX);obtain ⟨hcX, hfX, hzX⟩ := bkn hbX W.heap.size hz; have hz := hzX; have Bw := Bw.tr hbX); (try go_wp2_with fail)) | (go_at_call 23; go_must (refine (toCell_any (cx, cy) _).mono ?_; rintro e wX ⟨rfl, hbX⟩; (try replace oT := oT.below hbX); (try replace bN := bN.bl hbX);obtain ⟨hcX, hfX, hzX⟩ := bkn hbX W.heap.size hz; have hz := hzX; have Bw := Bw.tr hbX); (try go_wp2_with fail)) | (go_at_call 30; go_must (refine (CI _ _ _ _ _ oT.ra oT.rb oT.rc oT.rd).mono ?_; rintro e wX ⟨H1, cH1, H2, cH2, H3, cH3, H4, cH4, rfl, oR, hbX⟩; have hgR := hbX.size; replace oR := oR.mono (show W.heap.size ≤ _ by omega); (try replace bN := bN.bl hbX);obtain ⟨hcX, hfX, hzX⟩ := bkn hbX W.heap.size hz; have hz := hzX; have Bw := Bw.tr hbX); (try go_wp2_with fail)))
          refine hK.out _ _ ?_ (fun hHeld => ?_)
          · (try dsimp only); (try go_keep)
          clear hK K
          (try simp only [Act.put, List.setIfInBounds_toArray, List.set_cons_zero, List.set_cons_succ])
          refine wpAnyH_take (i := 5) (oi := op_FnExactTurnPlaceW_lawsFnExactTurnPlace_24_5) (v := ?_) rfl (by kernel_rfl) (by kernel_rfl) (by kernel_rfl) (fun _ _ _ h => h) (Or.inl ⟨by rfl, ?_⟩) (by assumption) ?_
          rotate_left 1
          · (intro wS hSw; (try dsimp only at hSw); dsimp only [op_FnExactTurnPlaceW_lawsFnExactTurnPlace_24_5]; go_simp; (all_goals with_reducible rfl))
          simp only [op_FnExactTurnPlaceW_lawsFnExactTurnPlace_24_5, Act.put, List.setIfInBounds_toArray, List.set_cons_zero, List.set_cons_succ]
          refine wpAnyH_take (i := 6) (oi := op_FnExactTurnPlaceW_lawsFnExactTurnPlace_24_6) (v := ?_) rfl (by kernel_rfl) (by kernel_rfl) (by kernel_rfl) (fun _ _ _ h => h) (Or.inl ⟨by rfl, ?_⟩) (by assumption) ?_
          rotate_left 1
          · (intro wS hSw; (try dsimp only at hSw); dsimp only [op_FnExactTurnPlaceW_lawsFnExactTurnPlace_24_6]; go_simp; (all_goals with_reducible rfl))
          simp only [op_FnExactTurnPlaceW_lawsFnExactTurnPlace_24_6, Act.put, List.setIfInBounds_toArray, List.set_cons_zero, List.set_cons_succ]
          refine wpAnyH_take (i := 7) (oi := op_FnExactTurnPlaceW_lawsFnExactTurnPlace_24_7) (v := ?_) rfl (by kernel_rfl) (by kernel_rfl) (by kernel_rfl) (fun _ _ _ h => h) (Or.inl ⟨by rfl, ?_⟩) (by assumption) ?_
          rotate_left 1
          · (intro wS hSw; (try dsimp only at hSw); dsimp only [op_FnExactTurnPlaceW_lawsFnExactTurnPlace_24_7]; go_simp; (all_goals with_reducible rfl))
          simp only [op_FnExactTurnPlaceW_lawsFnExactTurnPlace_24_7, Act.put, List.setIfInBounds_toArray, List.set_cons_zero, List.set_cons_succ]
          refine wpAnyH_ready (rs := [9]) (by kernel_rfl) (by simp) ?_
          refine AllReadyH.cons (o := op_FnExactTurnPlaceW_lawsFnExactTurnPlace_24_9) rfl (fun K hK => ?_) AllReadyH.nil
          (refine step_storeRow rfl 52 _ _ rfl gN #[.slice H1 y.1.length cH1, .slice H2 y.2.1.length cH2, .slice H3 y.2.2.1.length cH3, .slice H4 y.2.2.2.length cH4, .int .i64 ys, .int .i64 yp, .int .i64 yr] rfl rfl _ _ bN (by kernel_rfl) rfl (by simp [Value.oneCell']) ?_; intro wX bNX hgX; have oS := OwnFl.rowI oR bN (by decide) (by decide) (by decide) hgX; replace Bw := Bw.grown hgX hz (fun k hk => by injection hk with hk; subst hk; omega); obtain ⟨hcX, hfX, hzX⟩ := bk Bw)
          refine hK.out _ _ ?_ (fun hHeld => ?_)
          · (try dsimp only); (try go_keep)
          clear hK K
          (try simp only [Act.put, List.setIfInBounds_toArray, List.set_cons_zero, List.set_cons_succ])
          refine wpAnyH_take (i := 10) (oi := op_FnExactTurnPlaceW_lawsFnExactTurnPlace_24_10) (v := ?_) rfl (by kernel_rfl) (by kernel_rfl) (by kernel_rfl) (fun _ _ _ h => h) (Or.inl ⟨by rfl, ?_⟩) (by assumption) ?_
          rotate_left 1
          · (intro wS hSw; (try dsimp only at hSw); dsimp only [op_FnExactTurnPlaceW_lawsFnExactTurnPlace_24_10]; go_simp; (all_goals with_reducible rfl))
          simp only [op_FnExactTurnPlaceW_lawsFnExactTurnPlace_24_10, Act.put, List.setIfInBounds_toArray, List.set_cons_zero, List.set_cons_succ]
          refine wpAnyH_done (by kernel_rfl) ?_ _
          rotate_left 1
          refine AllReadyH.cons (o := op_FnExactTurnPlaceW_lawsFnExactTurnPlace_24_8) rfl (fun K hK => ?_) AllReadyH.nil
          (refine step_alloc rfl 52 _ rfl Try.zeroValue52 ?_; intro gN wX bN hbX hgN1 hgN2 hgN3; have hgN : W.heap.size ≤ gN := (by omega); obtain ⟨hcX, hfX, hzX⟩ := bkn hbX W.heap.size hz; replace hz := hzX; replace Bw := Bw.tr hbX; (try replace oT := oT.below hbX); (try replace oR := oR.below hbX))
          refine hK.out _ _ ?_ (fun hHeld => ?_)
          · (try dsimp only); (try go_keep)
          clear hK K
          (try simp only [Act.put, List.setIfInBounds_toArray, List.set_cons_zero, List.set_cons_succ])
          refine wpAnyH_ready (rs := [3]) (by kernel_rfl) (by simp) ?_
          refine AllReadyH.cons (o := op_FnExactTurnPlaceW_lawsFnExactTurnPlace_24_3) rfl (fun K hK => ?_) AllReadyH.nil
          dsimp only [op_FnExactTurnPlaceW_lawsFnExactTurnPlace_24_3]
          go_simp
          (first | (go_at_call 29; go_must (refine (toWork_any _ _ _ _ ((rows, f, n, fl), s, p, r) _ (h1.below RE.stays (B.tr Bw)) (h2.below RE.stays (B.tr Bw)) (h3.below RE.stays (B.tr Bw)) (h4.below RE.stays (B.tr Bw)) HS.out).mono ?_; rintro e wX ⟨T1, t1, T2, t2, T3, t3, T4, t4, rfl, oT, hbX⟩; (try replace bN := bN.bl hbX);obtain ⟨hcX, hfX, hzX⟩ := bkn hbX W.heap.size hz; have hz := hzX; have Bw := Bw.tr hbX); (try go_wp2_with fail)) | (go_at_call 23; go_must (refine (toCell_any (cx, cy) _).mono ?_; rintro e wX ⟨rfl, hbX⟩; (try replace oT := oT.below hbX); (try replace bN := bN.bl hbX);obtain ⟨hcX, hfX, hzX⟩ := bkn hbX W.heap.size hz; have hz := hzX; have Bw := Bw.tr hbX); (try go_wp2_with fail)) | (go_at_call 30; go_must (refine (CI _ _ _ _ _ oT.ra oT.rb oT.rc oT.rd).mono ?_; rintro e wX ⟨H1, cH1, H2, cH2, H3, cH3, H4, cH4, rfl, oR, hbX⟩; have hgR := hbX.size; replace oR := oR.mono (show W.heap.size ≤ _ by omega); (try replace bN := bN.bl hbX);obtain ⟨hcX, hfX, hzX⟩ := bkn hbX W.heap.size hz; have hz := hzX; have Bw := Bw.tr hbX); (try go_wp2_with fail)))
          refine hK.out _ _ ?_ (fun hHeld => ?_)
          · (try dsimp only); (try go_keep)
          clear hK K
          (try simp only [Act.put, List.setIfInBounds_toArray, List.set_cons_zero, List.set_cons_succ])
          refine wpAnyH_ready (rs := [4]) (by kernel_rfl) (by simp) ?_
          refine AllReadyH.cons (o := op_FnExactTurnPlaceW_lawsFnExactTurnPlace_24_4) rfl (fun K hK => ?_) AllReadyH.nil
          dsimp only [op_FnExactTurnPlaceW_lawsFnExactTurnPlace_24_4]
          go_simp
          (first | (go_at_call 29; go_must (refine (toWork_any _ _ _ _ ((rows, f, n, fl), s, p, r) _ (h1.below RE.stays (B.tr Bw)) (h2.below RE.stays (B.tr Bw)) (h3.below RE.stays (B.tr Bw)) (h4.below RE.stays (B.tr Bw)) HS.out).mono ?_; rintro e wX ⟨T1, t1, T2, t2, T3, t3, T4, t4, rfl, oT, hbX⟩; (try replace bN := bN.bl hbX);obtain ⟨hcX, hfX, hzX⟩ := bkn hbX W.heap.size hz; have hz := hzX; have Bw := Bw.tr hbX); (try go_wp2_with fail)) | (go_at_call 23; go_must (refine (toCell_any (cx, cy) _).mono ?_; rintro e wX ⟨rfl, hbX⟩; (try replace oT := oT.below hbX); (try replace bN := bN.bl hbX);obtain ⟨hcX, hfX, hzX⟩ := bkn hbX W.heap.size hz; have hz := hzX; have Bw := Bw.tr hbX); (try go_wp2_with fail)) | (go_at_call 30; go_must (refine (CI _ _ _ _ _ oT.ra oT.rb oT.rc oT.rd).mono ?_; rintro e wX ⟨H1, cH1, H2, cH2, H3, cH3, H4, cH4, rfl, oR, hbX⟩; have hgR := hbX.size; replace oR := oR.mono (show W.heap.size ≤ _ by omega); (try replace bN := bN.bl hbX);obtain ⟨hcX, hfX, hzX⟩ := bkn hbX W.heap.size hz; have hz := hzX; have Bw := Bw.tr hbX); (try go_wp2_with fail)))
          refine hK.out _ _ ?_ (fun hHeld => ?_)
          · (try dsimp only); (try go_keep)
          clear hK K
          (try simp only [Act.put, List.setIfInBounds_toArray, List.set_cons_zero, List.set_cons_succ])
          refine wpAnyH_take (i := 5) (oi := op_FnExactTurnPlaceW_lawsFnExactTurnPlace_24_5) (v := ?_) rfl (by kernel_rfl) (by kernel_rfl) (by kernel_rfl) (fun _ _ _ h => h) (Or.inl ⟨by rfl, ?_⟩) (by assumption) ?_
          rotate_left 1
          · (intro wS hSw; (try dsimp only at hSw); dsimp only [op_FnExactTurnPlaceW_lawsFnExactTurnPlace_24_5]; go_simp; (all_goals with_reducible rfl))
          simp only [op_FnExactTurnPlaceW_lawsFnExactTurnPlace_24_5, Act.put, List.setIfInBounds_toArray, List.set_cons_zero, List.set_cons_succ]
          refine wpAnyH_take (i := 6) (oi := op_FnExactTurnPlaceW_lawsFnExactTurnPlace_24_6) (v := ?_) rfl (by kernel_rfl) (by kernel_rfl) (by kernel_rfl) (fun _ _ _ h => h) (Or.inl ⟨by rfl, ?_⟩) (by assumption) ?_
          rotate_left 1
          · (intro wS hSw; (try dsimp only at hSw); dsimp only [op_FnExactTurnPlaceW_lawsFnExactTurnPlace_24_6]; go_simp; (all_goals with_reducible rfl))
          simp only [op_FnExactTurnPlaceW_lawsFnExactTurnPlace_24_6, Act.put, List.setIfInBounds_toArray, List.set_cons_zero, List.set_cons_succ]
          refine wpAnyH_take (i := 7) (oi := op_FnExactTurnPlaceW_lawsFnExactTurnPlace_24_7) (v := ?_) rfl (by kernel_rfl) (by kernel_rfl) (by kernel_rfl) (fun _ _ _ h => h) (Or.inl ⟨by rfl, ?_⟩) (by assumption) ?_
          rotate_left 1
          · (intro wS hSw; (try dsimp only at hSw); dsimp only [op_FnExactTurnPlaceW_lawsFnExactTurnPlace_24_7]; go_simp; (all_goals with_reducible rfl))
          simp only [op_FnExactTurnPlaceW_lawsFnExactTurnPlace_24_7, Act.put, List.setIfInBounds_toArray, List.set_cons_zero, List.set_cons_succ]
          refine wpAnyH_ready (rs := [9]) (by kernel_rfl) (by simp) ?_
          refine AllReadyH.cons (o := op_FnExactTurnPlaceW_lawsFnExactTurnPlace_24_9) rfl (fun K hK => ?_) AllReadyH.nil
          (refine step_storeRow rfl 52 _ _ rfl gN #[.slice H1 y.1.length cH1, .slice H2 y.2.1.length cH2, .slice H3 y.2.2.1.length cH3, .slice H4 y.2.2.2.length cH4, .int .i64 ys, .int .i64 yp, .int .i64 yr] rfl rfl _ _ bN (by kernel_rfl) rfl (by simp [Value.oneCell']) ?_; intro wX bNX hgX; have oS := OwnFl.rowI oR bN (by decide) (by decide) (by decide) hgX; replace Bw := Bw.grown hgX hz (fun k hk => by injection hk with hk; subst hk; omega); obtain ⟨hcX, hfX, hzX⟩ := bk Bw)
          refine hK.out _ _ ?_ (fun hHeld => ?_)
          · (try dsimp only); (try go_keep)
          clear hK K
          (try simp only [Act.put, List.setIfInBounds_toArray, List.set_cons_zero, List.set_cons_succ])
          refine wpAnyH_take (i := 10) (oi := op_FnExactTurnPlaceW_lawsFnExactTurnPlace_24_10) (v := ?_) rfl (by kernel_rfl) (by kernel_rfl) (by kernel_rfl) (fun _ _ _ h => h) (Or.inl ⟨by rfl, ?_⟩) (by assumption) ?_
          rotate_left 1
          · (intro wS hSw; (try dsimp only at hSw); dsimp only [op_FnExactTurnPlaceW_lawsFnExactTurnPlace_24_10]; go_simp; (all_goals with_reducible rfl))
          simp only [op_FnExactTurnPlaceW_lawsFnExactTurnPlace_24_10, Act.put, List.setIfInBounds_toArray, List.set_cons_zero, List.set_cons_succ]
          refine wpAnyH_done (by kernel_rfl) ?_ _
          rotate_left 1
          refine AllReadyH.cons (o := op_FnExactTurnPlaceW_lawsFnExactTurnPlace_24_8) rfl (fun K hK => ?_) AllReadyH.nil
          (refine step_alloc rfl 52 _ rfl Try.zeroValue52 ?_; intro gN wX bN hbX hgN1 hgN2 hgN3; have hgN : W.heap.size ≤ gN := (by omega); obtain ⟨hcX, hfX, hzX⟩ := bkn hbX W.heap.size hz; replace hz := hzX; replace Bw := Bw.tr hbX; (try replace oT := oT.below hbX); (try replace oR := oR.below hbX))
          refine hK.out _ _ ?_ (fun hHeld => ?_)
          · (try dsimp only); (try go_keep)
          clear hK K
          (try simp only [Act.put, List.setIfInBounds_toArray, List.set_cons_zero, List.set_cons_succ])
          refine wpAnyH_ready (rs := [1]) (by kernel_rfl) (by simp) ?_
          refine AllReadyH.cons (o := op_FnExactTurnPlaceW_lawsFnExactTurnPlace_24_1) rfl (fun K hK => ?_) AllReadyH.nil
          dsimp only [op_FnExactTurnPlaceW_lawsFnExactTurnPlace_24_1]
          go_simp
          (first | (go_at_call 29; go_must (refine (toWork_any _ _ _ _ ((rows, f, n, fl), s, p, r) _ (h1.below RE.stays (B.tr Bw)) (h2.below RE.stays (B.tr Bw)) (h3.below RE.stays (B.tr Bw)) (h4.below RE.stays (B.tr Bw)) HS.out).mono ?_; rintro e wX ⟨T1, t1, T2, t2, T3, t3, T4, t4, rfl, oT, hbX⟩; (try replace bN := bN.bl hbX);obtain ⟨hcX, hfX, hzX⟩ := bkn hbX W.heap.size hz; have hz := hzX; have Bw := Bw.tr hbX); (try go_wp2_with fail)) | (go_at_call 23; go_must (refine (toCell_any (cx, cy) _).mono ?_; rintro e wX ⟨rfl, hbX⟩; (try replace oT := oT.below hbX); (try replace bN := bN.bl hbX);obtain ⟨hcX, hfX, hzX⟩ := bkn hbX W.heap.size hz; have hz := hzX; have Bw := Bw.tr hbX); (try go_wp2_with fail)) | (go_at_call 30; go_must (refine (CI _ _ _ _ _ oT.ra oT.rb oT.rc oT.rd).mono ?_; rintro e wX ⟨H1, cH1, H2, cH2, H3, cH3, H4, cH4, rfl, oR, hbX⟩; have hgR := hbX.size; replace oR := oR.mono (show W.heap.size ≤ _ by omega); (try replace bN := bN.bl hbX);obtain ⟨hcX, hfX, hzX⟩ := bkn hbX W.heap.size hz; have hz := hzX; have Bw := Bw.tr hbX); (try go_wp2_with fail)))
          refine hK.out _ _ ?_ (fun hHeld => ?_)
          · (try dsimp only); (try go_keep)
          clear hK K
          (try simp only [Act.put, List.setIfInBounds_toArray, List.set_cons_zero, List.set_cons_succ])
          refine wpAnyH_ready (rs := [3]) (by kernel_rfl) (by simp) ?_
          refine AllReadyH.cons (o := op_FnExactTurnPlaceW_lawsFnExactTurnPlace_24_3) rfl (fun K hK => ?_) AllReadyH.nil
          dsimp only [op_FnExactTurnPlaceW_lawsFnExactTurnPlace_24_3]
          go_simp
          (first | (go_at_call 29; go_must (refine (toWork_any _ _ _ _ ((rows, f, n, fl), s, p, r) _ (h1.below RE.stays (B.tr Bw)) (h2.below RE.stays (B.tr Bw)) (h3.below RE.stays (B.tr Bw)) (h4.below RE.stays (B.tr Bw)) HS.out).mono ?_; rintro e wX ⟨T1, t1, T2, t2, T3, t3, T4, t4, rfl, oT, hbX⟩; (try replace bN := bN.bl hbX);obtain ⟨hcX, hfX, hzX⟩ := bkn hbX W.heap.size hz; have hz := hzX; have Bw := Bw.tr hbX); (try go_wp2_with fail)) | (go_at_call 23; go_must (refine (toCell_any (cx, cy) _).mono ?_; rintro e wX ⟨rfl, hbX⟩; (try replace oT := oT.below hbX); (try replace bN := bN.bl hbX);obtain ⟨hcX, hfX, hzX⟩ := bkn hbX W.heap.size hz; have hz := hzX; have Bw := Bw.tr hbX); (try go_wp2_with fail)) | (go_at_call 30; go_must (refine (CI _ _ _ _ _ oT.ra oT.rb oT.rc oT.rd).mono ?_; rintro e wX ⟨H1, cH1, H2, cH2, H3, cH3, H4, cH4, rfl, oR, hbX⟩; have hgR := hbX.size; replace oR := oR.mono (show W.heap.size ≤ _ by omega); (try replace bN := bN.bl hbX);obtain ⟨hcX, hfX, hzX⟩ := bkn hbX W.heap.size hz; have hz := hzX; have Bw := Bw.tr hbX); (try go_wp2_with fail)))
          refine hK.out _ _ ?_ (fun hHeld => ?_)
          · (try dsimp only); (try go_keep)
          clear hK K
          (try simp only [Act.put, List.setIfInBounds_toArray, List.set_cons_zero, List.set_cons_succ])
          refine wpAnyH_ready (rs := [4]) (by kernel_rfl) (by simp) ?_
          refine AllReadyH.cons (o := op_FnExactTurnPlaceW_lawsFnExactTurnPlace_24_4) rfl (fun K hK => ?_) AllReadyH.nil
          dsimp only [op_FnExactTurnPlaceW_lawsFnExactTurnPlace_24_4]
          go_simp
          (first | (go_at_call 29; go_must (refine (toWork_any _ _ _ _ ((rows, f, n, fl), s, p, r) _ (h1.below RE.stays (B.tr Bw)) (h2.below RE.stays (B.tr Bw)) (h3.below RE.stays (B.tr Bw)) (h4.below RE.stays (B.tr Bw)) HS.out).mono ?_; rintro e wX ⟨T1, t1, T2, t2, T3, t3, T4, t4, rfl, oT, hbX⟩; (try replace bN := bN.bl hbX);obtain ⟨hcX, hfX, hzX⟩ := bkn hbX W.heap.size hz; have hz := hzX; have Bw := Bw.tr hbX); (try go_wp2_with fail)) | (go_at_call 23; go_must (refine (toCell_any (cx, cy) _).mono ?_; rintro e wX ⟨rfl, hbX⟩; (try replace oT := oT.below hbX); (try replace bN := bN.bl hbX);obtain ⟨hcX, hfX, hzX⟩ := bkn hbX W.heap.size hz; have hz := hzX; have Bw := Bw.tr hbX); (try go_wp2_with fail)) | (go_at_call 30; go_must (refine (CI _ _ _ _ _ oT.ra oT.rb oT.rc oT.rd).mono ?_; rintro e wX ⟨H1, cH1, H2, cH2, H3, cH3, H4, cH4, rfl, oR, hbX⟩; have hgR := hbX.size; replace oR := oR.mono (show W.heap.size ≤ _ by omega); (try replace bN := bN.bl hbX);obtain ⟨hcX, hfX, hzX⟩ := bkn hbX W.heap.size hz; have hz := hzX; have Bw := Bw.tr hbX); (try go_wp2_with fail)))
          refine hK.out _ _ ?_ (fun hHeld => ?_)
          · (try dsimp only); (try go_keep)
          clear hK K
          (try simp only [Act.put, List.setIfInBounds_toArray, List.set_cons_zero, List.set_cons_succ])
          refine wpAnyH_take (i := 5) (oi := op_FnExactTurnPlaceW_lawsFnExactTurnPlace_24_5) (v := ?_) rfl (by kernel_rfl) (by kernel_rfl) (by kernel_rfl) (fun _ _ _ h => h) (Or.inl ⟨by rfl, ?_⟩) (by assumption) ?_
          rotate_left 1
          · (intro wS hSw; (try dsimp only at hSw); dsimp only [op_FnExactTurnPlaceW_lawsFnExactTurnPlace_24_5]; go_simp; (all_goals with_reducible rfl))
          simp only [op_FnExactTurnPlaceW_lawsFnExactTurnPlace_24_5, Act.put, List.setIfInBounds_toArray, List.set_cons_zero, List.set_cons_succ]
          refine wpAnyH_take (i := 6) (oi := op_FnExactTurnPlaceW_lawsFnExactTurnPlace_24_6) (v := ?_) rfl (by kernel_rfl) (by kernel_rfl) (by kernel_rfl) (fun _ _ _ h => h) (Or.inl ⟨by rfl, ?_⟩) (by assumption) ?_
          rotate_left 1
          · (intro wS hSw; (try dsimp only at hSw); dsimp only [op_FnExactTurnPlaceW_lawsFnExactTurnPlace_24_6]; go_simp; (all_goals with_reducible rfl))
          simp only [op_FnExactTurnPlaceW_lawsFnExactTurnPlace_24_6, Act.put, List.setIfInBounds_toArray, List.set_cons_zero, List.set_cons_succ]
          refine wpAnyH_take (i := 7) (oi := op_FnExactTurnPlaceW_lawsFnExactTurnPlace_24_7) (v := ?_) rfl (by kernel_rfl) (by kernel_rfl) (by kernel_rfl) (fun _ _ _ h => h) (Or.inl ⟨by rfl, ?_⟩) (by assumption) ?_
          rotate_left 1
          · (intro wS hSw; (try dsimp only at hSw); dsimp only [op_FnExactTurnPlaceW_lawsFnExactTurnPlace_24_7]; go_simp; (all_goals with_reducible rfl))
          simp only [op_FnExactTurnPlaceW_lawsFnExactTurnPlace_24_7, Act.put, List.setIfInBounds_toArray, List.set_cons_zero, List.set_cons_succ]
          refine wpAnyH_ready (rs := [9]) (by kernel_rfl) (by simp) ?_
          refine AllReadyH.cons (o := op_FnExactTurnPlaceW_lawsFnExactTurnPlace_24_9) rfl (fun K hK => ?_) AllReadyH.nil
          (refine step_storeRow rfl 52 _ _ rfl gN #[.slice H1 y.1.length cH1, .slice H2 y.2.1.length cH2, .slice H3 y.2.2.1.length cH3, .slice H4 y.2.2.2.length cH4, .int .i64 ys, .int .i64 yp, .int .i64 yr] rfl rfl _ _ bN (by kernel_rfl) rfl (by simp [Value.oneCell']) ?_; intro wX bNX hgX; have oS := OwnFl.rowI oR bN (by decide) (by decide) (by decide) hgX; replace Bw := Bw.grown hgX hz (fun k hk => by injection hk with hk; subst hk; omega); obtain ⟨hcX, hfX, hzX⟩ := bk Bw)
          refine hK.out _ _ ?_ (fun hHeld => ?_)
          · (try dsimp only); (try go_keep)
          clear hK K
          (try simp only [Act.put, List.setIfInBounds_toArray, List.set_cons_zero, List.set_cons_succ])
          refine wpAnyH_take (i := 10) (oi := op_FnExactTurnPlaceW_lawsFnExactTurnPlace_24_10) (v := ?_) rfl (by kernel_rfl) (by kernel_rfl) (by kernel_rfl) (fun _ _ _ h => h) (Or.inl ⟨by rfl, ?_⟩) (by assumption) ?_
          rotate_left 1
          · (intro wS hSw; (try dsimp only at hSw); dsimp only [op_FnExactTurnPlaceW_lawsFnExactTurnPlace_24_10]; go_simp; (all_goals with_reducible rfl))
          simp only [op_FnExactTurnPlaceW_lawsFnExactTurnPlace_24_10, Act.put, List.setIfInBounds_toArray, List.set_cons_zero, List.set_cons_succ]
          refine wpAnyH_done (by kernel_rfl) ?_ _
          all_goals
            go_wp2_with fail
            go_meet
            exact ⟨_, _, _, _, _, _, _, _, _, rfl, rfl, bNX, oS, Bw⟩
        case rest =>
          obtain ⟨gH, H1, H2, H3, H4, cH1, cH2, cH3, cH4, rfl, rfl, bH, oH, hb⟩ := hcut
          clear z0_0 z0_1 z0_2 z0_3 z0_4 z0_5 z0_6 z1_0 z1_1
          replace oH := oH.mono B.size
          replace B := B.tr hb
          replace bA0 := bA0.bl hb
          replace bA1 := bA1.bl hb
          replace bW := bW.bl hb
          replace oW := oW.below hb
          replace bG := bG.bl hb
          replace oG := oG.below hb
          clear hb
          obtain ⟨w10, hw10⟩ : ∃ v, v = wc := ⟨_, rfl⟩
          rw [← hw10] at B bA0 bA1 bW oW bG oG oH bH ⊢
          clear hw10
          have u_0 := bH.cell 0
          have u_1 := bH.cell 1
          have u_2 := bH.cell 2
          have u_3 := bH.cell 3
          have u_4 := bH.cell 4
          have u_5 := bH.cell 5
          have u_6 := bH.cell 6
          simp only [List.getElem?_toArray, List.getElem?_cons_zero, List.getElem?_cons_succ] at u_0 u_1 u_2 u_3 u_4 u_5 u_6
          have v_0 := bW.cell 0
          have v_1 := bW.cell 1
          have v_2 := bW.cell 2
          have v_3 := bW.cell 3
          have v_4 := bW.cell 4
          have v_5 := bW.cell 5
          have v_6 := bW.cell 6
          simp only [List.getElem?_toArray, List.getElem?_cons_zero, List.getElem?_cons_succ] at v_0 v_1 v_2 v_3 v_4 v_5 v_6
          go_wp2_with fail
          refine (eqWork_same _ _ _ _ _ _ _ _ y ys yp yr _ oH.ra oH.rb oH.rc oH.rd oW.ra oW.rb oW.rc oW.rd).mono ?_
          rintro e w11 ⟨rfl, hb⟩
          clear u_0 u_1 u_2 u_3 u_4 u_5 u_6 v_0 v_1 v_2 v_3 v_4 v_5 v_6
          replace B := B.tr hb
          replace bA0 := bA0.bl hb
          replace bA1 := bA1.bl hb
          replace bW := bW.bl hb
          replace oW := oW.below hb
          replace bG := bG.bl hb
          replace oG := oG.below hb
          replace bH := bH.bl hb
          replace oH := oH.below hb
          clear hb
          have u_0 := bG.cell 0
          have u_1 := bG.cell 1
          have u_2 := bG.cell 2
          have u_3 := bG.cell 3
          have u_4 := bG.cell 4
          have u_5 := bG.cell 5
          have u_6 := bG.cell 6
          simp only [List.getElem?_toArray, List.getElem?_cons_zero, List.getElem?_cons_succ] at u_0 u_1 u_2 u_3 u_4 u_5 u_6
          go_wp2_with fail
          refine (heldWork_any _ _ _ _ y ys yp yr _ _ oG HY4.out).mono ?_
          rintro e w12 ⟨rfl, hb⟩
          clear u_0 u_1 u_2 u_3 u_4 u_5 u_6
          replace B := B.tr hb
          replace bA0 := bA0.bl hb
          replace bA1 := bA1.bl hb
          replace bW := bW.bl hb
          replace oW := oW.below hb
          replace bG := bG.bl hb
          replace oG := oG.below hb
          replace bH := bH.bl hb
          replace oH := oH.below hb
          clear hb
          go_wp2
          go_ret
          exact ⟨rfl, B⟩
  · skip
    have HZ0 := Lib.hid hsz0
    clear hsz0
    go_enter Try.func6, Try.ntmps6
    go_wp2_with fail
    refine (szWork_no _ _ _ _ (rows, f, n, fl) s p r _ (h1.below RE.stays B) (h2.below RE.stays B) (h3.below RE.stays B) (h4.below RE.stays B) (by have := HZ0.out; omega)).mono ?_
    rintro e w0 ⟨rfl, hb⟩
    go_wp2
    go_ret
    exact ⟨rfl, B.tr hb⟩
end Go.Proofs.Ytnlljkdfapllpaa
