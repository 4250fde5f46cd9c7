/- A flip taken back by the reference: the walk. Conditions: sizes. -/
import Derived.Test.YtnlljkdfapllpaaFlDo1
import Derived.Test.YtnlljkdfapllpaaFlCopy
import Derived.Test.YtnlljkdfapllpaaK7
namespace Go.Proofs.Ytnlljkdfapllpaa
open Go.ChangeShapes Go.WideShapes Go.ChangeAt Go.RowKit
set_option linter.unusedVariables false
set_option linter.unusedSimpArgs false

set_option maxHeartbeats 4000000 in
set_option maxRecDepth 100000 in
theorem undoS_no (v1 v2 v3 v4 : Value) (x : Fl) (w : World) (h1 : Rd 1 RInt w v1 x.1) (h2 : Rd 3 RDom w v2 x.2.1) (h3 : Rd 3 RDom w v3 x.2.2.1) (h4 : Rd 2 RPair w v4 x.2.2.2) (hs : Small4 x) (hno : flOk x = false ∨ (flOk x = true ∧ x.2.2.2.length = 0)) :
    Calls Try.prog 16 #[.agg #[v1, v2, v3, v4]] w (RetFlB x false w) := by
  have hs4 := hs
  obtain ⟨rows, f, n, cs⟩ := x
  simp only at h1 h2 h3 h4
  obtain ⟨s1, s2, s3, s4⟩ := hs
  simp only at s1 s2 s3 s4
  obtain ⟨A1, c1, rfl, hc1, hm1⟩ := h1.form
  obtain ⟨A2, c2, rfl, hc2, hm2⟩ := h2.form
  obtain ⟨A3, c3, rfl, hc3, hm3⟩ := h3.form
  obtain ⟨A4, c4, rfl, hc4, hm4⟩ := h4.form
  have B0 := ((Below.refl w.heap.size w).al (.cells #[.slice A1 rows.length c1, .slice A2 f.length c2, .slice A3 n.length c3, .slice A4 cs.length c4] 34)).al (.cells #[.slice none 0 0, .slice none 0 0, .slice none 0 0, .slice none 0 0] 34)
  have bP := (Blk.new_ w 34 #[.slice A1 rows.length c1, .slice A2 f.length c2, .slice A3 n.length c3, .slice A4 cs.length c4]).alloc (.cells #[.slice none 0 0, .slice none 0 0, .slice none 0 0, .slice none 0 0] 34)
  have bR := Blk.new2 (w.alloc (.cells #[.slice A1 rows.length c1, .slice A2 f.length c2, .slice A3 n.length c3, .slice A4 cs.length c4] 34)) 34 #[.slice none 0 0, .slice none 0 0, .slice none 0 0, .slice none 0 0] (w.heap.size + 1) (by simp)
  go_enter Try.func16, Try.ntmps16
  go_wp2_with fail
  obtain ⟨W0, hW0⟩ : ∃ W0, W0 = (w.alloc (.cells #[.slice A1 rows.length c1, .slice A2 f.length c2, .slice A3 n.length c3, .slice A4 cs.length c4] 34)).alloc (.cells #[.slice none 0 0, .slice none 0 0, .slice none 0 0, .slice none 0 0] 34) := ⟨_, rfl⟩
  obtain ⟨gP, hgP⟩ : ∃ g, g = w.heap.size := ⟨_, rfl⟩
  obtain ⟨gR, hgR'⟩ : ∃ g, g = w.heap.size + 1 := ⟨_, rfl⟩
  rw [← hW0] at B0 bP bR ⊢
  rw [← hgR'] at bR ⊢
  rw [← hgP] at bP ⊢
  have hgR : w.heap.size ≤ gR := by omega
  have hPR : gP ≠ gR := by omega
  have hw0 : w.heap.size ≤ W0.heap.size := B0.size
  clear hW0 hgP hgR'
  have z_0 := bP.cell 0
  have z_1 := bP.cell 1
  have z_2 := bP.cell 2
  have z_3 := bP.cell 3
  simp only [List.getElem?_toArray, List.getElem?_cons_zero, List.getElem?_cons_succ] at z_0 z_1 z_2 z_3
  have hp0 := bP.lt
  have hr0 := bR.lt
  go_wp2_with fail
  refine (copyFlS_any _ _ _ _ (rows, f, n, cs) _ (h1.below RE.stays B0) (h2.below RE.stays B0) (h3.below RE.stays B0) (h4.below RE.stays B0) hs4).mono ?_
  rintro e w1 ⟨C1, e1, C2, e2, C3, e3, C4, e4, rfl, oF, hb1⟩
  have B1 := B0.tr hb1
  have bP1 := bP.bl hb1
  have bR1 := bR.bl hb1
  have oF := oF.mono hw0
  have bO := Blk.new_ w1 34 #[.slice none 0 0, .slice none 0 0, .slice none 0 0, .slice none 0 0]
  have oFa := oF.alloc (.cells #[.slice none 0 0, .slice none 0 0, .slice none 0 0, .slice none 0 0] 34)
  have bRa := bR1.alloc (.cells #[.slice none 0 0, .slice none 0 0, .slice none 0 0, .slice none 0 0] 34)
  have bPa := bP1.alloc (.cells #[.slice none 0 0, .slice none 0 0, .slice none 0 0, .slice none 0 0] 34)
  have Ba := B1.al (.cells #[.slice none 0 0, .slice none 0 0, .slice none 0 0, .slice none 0 0] 34)
  have hgO : w.heap.size ≤ w1.heap.size := B1.size
  have hRO : gR < w1.heap.size := bR1.lt
  have hPO : gP < w1.heap.size := bP1.lt
  clear z_0 z_1 z_2 z_3
  go_wp2_with (refine wpList_storeRow rfl 34 _ _ rfl w1.heap.size #[.slice C1 rows.length e1, .slice C2 f.length e2, .slice C3 n.length e3, .slice C4 cs.length e4] rfl rfl _ _ bO (by kernel_rfl) rfl (by simp [Value.oneCell']) ?_; intro wS bS hgS; have oS := OwnFl.rowI oFa bO (by decide) (by decide) (by decide) hgS; have bRS := bRa.grown hgS (by simp; omega); have bPS := bPa.grown hgS (by simp; omega); have BS := Ba.grown hgS Ba.size (fun k hk => by injection hk with hk; subst hk; exact hgO); have c_0 := bPS.cell 0; have c_1 := bPS.cell 1; have c_2 := bPS.cell 2; have c_3 := bPS.cell 3; simp only [List.getElem?_toArray, List.getElem?_cons_zero, List.getElem?_cons_succ] at c_0 c_1 c_2 c_3)
  refine (floorOkS_any _ _ _ _ rows f n cs _ (h1.below RE.stays BS) (h2.below RE.stays BS) (h3.below RE.stays BS) (h4.below RE.stays BS) s2).mono ?_
  rintro e w2 ⟨rfl, hb2⟩
  have B2 := BS.tr hb2
  have bP2 := bPS.bl hb2
  have bR2 := bRS.bl hb2
  have bO2 := bS.bl hb2
  have oF2 := oS.below hb2
  clear c_0 c_1 c_2 c_3
  have c_0 := bP2.cell 0
  have c_1 := bP2.cell 1
  have c_2 := bP2.cell 2
  have c_3 := bP2.cell 3
  simp only [List.getElem?_toArray, List.getElem?_cons_zero, List.getElem?_cons_succ] at c_0 c_1 c_2 c_3
  have y_0 := bO2.cell 0
  have y_1 := bO2.cell 1
  have y_2 := bO2.cell 2
  have y_3 := bO2.cell 3
  simp only [List.getElem?_toArray, List.getElem?_cons_zero, List.getElem?_cons_succ] at y_0 y_1 y_2 y_3
  rcases hno with hno | ⟨hno, hn0⟩
  · rw [show floorOk rows f n cs = false from hno]
    go_wp2_with (refine wpList_storeRow rfl 34 _ _ rfl gR #[.slice C1 rows.length e1, .slice C2 f.length e2, .slice C3 n.length e3, .slice C4 cs.length e4] rfl rfl _ _ bR2 (by kernel_rfl) rfl (by simp [Value.oneCell']) ?_; intro wE bE hgE)
    have oE : OwnFl w.heap.size wE _ _ _ _ _ := OwnFl.rowI oF2 bR2 (by decide) (by decide) (by decide) hgE
    have BE := B2.grown hgE B2.size (fun k hk => by injection hk with hk; subst hk; exact hgR)
    have q_0 := bE.cell 0
    have q_1 := bE.cell 1
    have q_2 := bE.cell 2
    have q_3 := bE.cell 3
    simp only [List.getElem?_toArray, List.getElem?_cons_zero, List.getElem?_cons_succ] at q_0 q_1 q_2 q_3
    refine bodyPost_ret (v := .tuple #[.agg #[.slice C1 rows.length e1, .slice C2 f.length e2, .slice C3 n.length e3, .slice C4 cs.length e4], .bool false]) (by simp [results, Try.results16, go_sem, q_0, q_1, q_2, q_3]) rfl ⟨C1, e1, C2, e2, C3, e3, C4, e4, rfl, oE, BE⟩
  · rw [show floorOk rows f n cs = true from hno]
    have hz0 : ((cs.length : Int) == 0) = true := by rw [show cs.length = 0 from hn0]; rfl
    clear hn0
    go_wp2_with (refine wpList_storeRow rfl 34 _ _ rfl gR #[.slice C1 rows.length e1, .slice C2 f.length e2, .slice C3 n.length e3, .slice C4 cs.length e4] rfl rfl _ _ bR2 (by kernel_rfl) rfl (by simp [Value.oneCell']) ?_; intro wE bE hgE)
    have oE : OwnFl w.heap.size wE _ _ _ _ _ := OwnFl.rowI oF2 bR2 (by decide) (by decide) (by decide) hgE
    have BE := B2.grown hgE B2.size (fun k hk => by injection hk with hk; subst hk; exact hgR)
    have q_0 := bE.cell 0
    have q_1 := bE.cell 1
    have q_2 := bE.cell 2
    have q_3 := bE.cell 3
    simp only [List.getElem?_toArray, List.getElem?_cons_zero, List.getElem?_cons_succ] at q_0 q_1 q_2 q_3
    refine bodyPost_ret (v := .tuple #[.agg #[.slice C1 rows.length e1, .slice C2 f.length e2, .slice C3 n.length e3, .slice C4 cs.length e4], .bool false]) (by simp [results, Try.results16, go_sem, q_0, q_1, q_2, q_3]) rfl ⟨C1, e1, C2, e2, C3, e3, C4, e4, rfl, oE, BE⟩
abbrev op_FlUnS_specUndoFlip_5_0 : Oper := { dst := some 20, op := Go.Op.fieldAddr 34 (Go.Operand.tmp 1) 2, type := 0, pos := "l37_journal.go:45", after := #[], guard := none }
abbrev op_FlUnS_specUndoFlip_5_1 : Oper := { dst := some 21, op := Go.Op.load 31 (Go.Operand.tmp 20), type := 31, pos := "l37_journal.go:45", after := #[{ on := 0, ground := Go.Ground.data }], guard := none }
abbrev op_FlUnS_specUndoFlip_5_2 : Oper := { dst := some 22, op := Go.Op.fieldAddr 34 (Go.Operand.tmp 1) 3, type := 0, pos := "l37_journal.go:45", after := #[], guard := none }
abbrev op_FlUnS_specUndoFlip_5_3 : Oper := { dst := some 23, op := Go.Op.load 32 (Go.Operand.tmp 22), type := 32, pos := "l37_journal.go:45", after := #[{ on := 2, ground := Go.Ground.data }], guard := none }
abbrev op_FlUnS_specUndoFlip_5_4 : Oper := { dst := some 24, op := Go.Op.move (Go.Operand.tmp 5), type := 3, pos := "l37_journal.go:45", after := #[], guard := none }
abbrev op_FlUnS_specUndoFlip_5_5 : Oper := { dst := some 25, op := Go.Op.binOp Go.BinOp.sub 3 (Go.Operand.tmp 24) (Go.Operand.const (Go.Value.int Go.IntKind.i64 1)) 3, type := 3, pos := "l37_journal.go:45", after := #[{ on := 4, ground := Go.Ground.data }], guard := none }
abbrev op_FlUnS_specUndoFlip_5_6 : Oper := { dst := some 26, op := Go.Op.indexAddr 32 (Go.Operand.tmp 23) (Go.Operand.tmp 25), type := 0, pos := "l37_journal.go:45", after := #[{ on := 3, ground := Go.Ground.data }, { on := 5, ground := Go.Ground.data }], guard := none }
abbrev op_FlUnS_specUndoFlip_5_7 : Oper := { dst := some 27, op := Go.Op.load 44 (Go.Operand.tmp 26), type := 44, pos := "l37_journal.go:45", after := #[{ on := 6, ground := Go.Ground.data }], guard := none }
abbrev op_FlUnS_specUndoFlip_5_8 : Oper := { dst := some 28, op := Go.Op.call { callee := Go.Callee.value (Go.Operand.func 80), args := #[Go.Operand.tmp 21, Go.Operand.tmp 27], argTypes := #[31, 44] }, type := 70, pos := "l37_journal.go:45", after := #[{ on := 1, ground := Go.Ground.data }, { on := 7, ground := Go.Ground.data }], guard := none }
abbrev op_FlUnS_specUndoFlip_5_9 : Oper := { dst := some 19, op := Go.Op.move (Go.Operand.tmp 28), type := 70, pos := "l37_journal.go:45", after := #[{ on := 8, ground := Go.Ground.data }], guard := none }
abbrev op_FlUnS_specUndoFlip_5_10 : Oper := { dst := some 29, op := Go.Op.extract (Go.Operand.tmp 19) 0, type := 31, pos := "l37_journal.go:45", after := #[{ on := 9, ground := Go.Ground.data }], guard := none }
abbrev op_FlUnS_specUndoFlip_5_11 : Oper := { dst := some 30, op := Go.Op.extract (Go.Operand.tmp 19) 1, type := 4, pos := "l37_journal.go:45", after := #[{ on := 9, ground := Go.Ground.data }, { on := 13, ground := Go.Ground.gcOnly Go.Departure.lateStores }], guard := none }
abbrev op_FlUnS_specUndoFlip_5_12 : Oper := { dst := some 31, op := Go.Op.fieldAddr 34 (Go.Operand.tmp 4) 2, type := 0, pos := "l37_journal.go:45", after := #[{ on := 0, ground := Go.Ground.phase }, { on := 1, ground := Go.Ground.phase }, { on := 2, ground := Go.Ground.phase }, { on := 3, ground := Go.Ground.phase }, { on := 4, ground := Go.Ground.phase }, { on := 5, ground := Go.Ground.phase }, { on := 6, ground := Go.Ground.phase }, { on := 7, ground := Go.Ground.phase }, { on := 8, ground := Go.Ground.phase }, { on := 9, ground := Go.Ground.phase }, { on := 10, ground := Go.Ground.phase }, { on := 11, ground := Go.Ground.textOnly Go.Departure.lateStores }], guard := none }
abbrev op_FlUnS_specUndoFlip_5_13 : Oper := { dst := none, op := Go.Op.store 31 (Go.Operand.tmp 31) (Go.Operand.tmp 29), type := 0, pos := "l37_journal.go:45", after := #[{ on := 12, ground := Go.Ground.data }, { on := 10, ground := Go.Ground.data }, { on := 8, ground := Go.Ground.chain }, { on := 0, ground := Go.Ground.phase }, { on := 1, ground := Go.Ground.phase }, { on := 2, ground := Go.Ground.phase }, { on := 3, ground := Go.Ground.phase }, { on := 4, ground := Go.Ground.phase }, { on := 5, ground := Go.Ground.phase }, { on := 6, ground := Go.Ground.phase }, { on := 7, ground := Go.Ground.phase }, { on := 8, ground := Go.Ground.phase }, { on := 9, ground := Go.Ground.phase }, { on := 10, ground := Go.Ground.phase }, { on := 11, ground := Go.Ground.textOnly Go.Departure.lateStores }], guard := none }
set_option maxHeartbeats 4000000 in
set_option maxRecDepth 100000 in
theorem undoS_yes (v1 v2 v3 v4 : Value) (x : Fl) (w : World) (h1 : Rd 1 RInt w v1 x.1) (h2 : Rd 3 RDom w v2 x.2.1) (h3 : Rd 3 RDom w v3 x.2.2.1) (h4 : Rd 2 RPair w v4 x.2.2.2) (hs : Small4 x) (hok : flOk x = true) (hn : x.2.2.2.length ≠ 0) :
    Calls Try.prog 16 #[.agg #[v1, v2, v3, v4]] w (RetFlB (flSt x (x.2.2.2.length - 1)) true w) := by
  have hs4 := hs
  have hfl := fun c hc => flSt_flip hok hn c hc
  obtain ⟨y, hy⟩ : ∃ y, y = flSt x (x.2.2.2.length - 1) := ⟨_, rfl⟩
  rw [← hy] at hfl ⊢
  obtain ⟨rows, f, n, cs⟩ := x
  simp only at h1 h2 h3 h4
  obtain ⟨s1, s2, s3, s4⟩ := hs
  simp only at s1 s2 s3 s4
  obtain ⟨A1, c1, rfl, hc1, hm1⟩ := h1.form
  obtain ⟨A2, c2, rfl, hc2, hm2⟩ := h2.form
  obtain ⟨A3, c3, rfl, hc3, hm3⟩ := h3.form
  obtain ⟨A4, c4, rfl, hc4, hm4⟩ := h4.form
  have B0 := ((Below.refl w.heap.size w).al (.cells #[.slice A1 rows.length c1, .slice A2 f.length c2, .slice A3 n.length c3, .slice A4 cs.length c4] 34)).al (.cells #[.slice none 0 0, .slice none 0 0, .slice none 0 0, .slice none 0 0] 34)
  have bP := (Blk.new_ w 34 #[.slice A1 rows.length c1, .slice A2 f.length c2, .slice A3 n.length c3, .slice A4 cs.length c4]).alloc (.cells #[.slice none 0 0, .slice none 0 0, .slice none 0 0, .slice none 0 0] 34)
  have bR := Blk.new2 (w.alloc (.cells #[.slice A1 rows.length c1, .slice A2 f.length c2, .slice A3 n.length c3, .slice A4 cs.length c4] 34)) 34 #[.slice none 0 0, .slice none 0 0, .slice none 0 0, .slice none 0 0] (w.heap.size + 1) (by simp)
  try simp only at hn hfl
  obtain ⟨t, ht⟩ : ∃ t, t = cs.take (cs.length - 1) := ⟨_, rfl⟩
  have htl : t.length + 1 = cs.length := by rw [ht, List.length_take]; omega
  have hlt : t.length < cs.length := by omega
  obtain ⟨cx, hcx⟩ : ∃ cx, cx = cs[t.length].1 := ⟨_, rfl⟩
  obtain ⟨cy, hcy⟩ : ∃ cy, cy = cs[t.length].2 := ⟨_, rfl⟩
  have hlast : cs[cs.length - 1]? = some (cx, cy) := by
    rw [show cs.length - 1 = t.length by omega, List.getElem?_eq_getElem hlt, hcx, hcy]
  obtain ⟨hk, hm⟩ := hfl _ hlast
  obtain ⟨m, hme⟩ : ∃ m, m = y.2.2.1 := ⟨_, rfl⟩
  have hy' : y = (rows, f, m, t) := by rw [hme, hy, ht]; rfl
  rw [← hme] at hm
  have CF : ∀ (u : Value) (w : World), Rd 3 RDom w u n → Calls Try.prog 80 #[u, .agg #[.int .i64 cx, .int .i64 cy]] w (RetOwnB 88 3 eDom m true w) := fun u w k1 => by rw [← hm]; exact flipAtS_yes u n cx cy w k1 s3 hk
  have ht' : t = cs.take t.length := by rw [ht, List.length_take]; congr 1; omega
  have HT := Lib.hid ht'
  have HY := Lib.hid hy'
  have hz0 : ((cs.length : Int) == 0) = false := by rw [beq_eq_false_iff_ne]; omega
  obtain ⟨b, off, e, hb, x0, x1⟩ := h4.atPair hlt
  subst e
  rw [← hcx] at x0
  rw [← hcy] at x1
  clear hy' hme hm hk hlast hcx hcy ht ht' hy hfl
  go_enter Try.func16, Try.ntmps16
  go_wp2_with fail
  obtain ⟨A4, hA4⟩ : ∃ A, A = (some ⟨b, off, none⟩ : Option Addr) := ⟨_, rfl⟩
  rw [← hA4] at h4 B0 bP bR ⊢
  have HA := Lib.hid hA4; clear hA4
  obtain ⟨W0, hW0⟩ : ∃ W0, W0 = (w.alloc (.cells #[.slice A1 rows.length c1, .slice A2 f.length c2, .slice A3 n.length c3, .slice A4 cs.length c4] 34)).alloc (.cells #[.slice none 0 0, .slice none 0 0, .slice none 0 0, .slice none 0 0] 34) := ⟨_, rfl⟩
  obtain ⟨gP, hgP⟩ : ∃ g, g = w.heap.size := ⟨_, rfl⟩
  obtain ⟨gR, hgR'⟩ : ∃ g, g = w.heap.size + 1 := ⟨_, rfl⟩
  rw [← hW0] at B0 bP bR ⊢
  rw [← hgR'] at bR ⊢
  rw [← hgP] at bP ⊢
  have hgR : w.heap.size ≤ gR := by omega
  have hPR : gP ≠ gR := by omega
  have hw0 : w.heap.size ≤ W0.heap.size := B0.size
  clear hW0 hgP hgR'
  have z_0 := bP.cell 0
  have z_1 := bP.cell 1
  have z_2 := bP.cell 2
  have z_3 := bP.cell 3
  simp only [List.getElem?_toArray, List.getElem?_cons_zero, List.getElem?_cons_succ] at z_0 z_1 z_2 z_3
  have hp0 := bP.lt
  have hr0 := bR.lt
  go_wp2_with fail
  refine (copyFlS_any _ _ _ _ (rows, f, n, cs) _ (h1.below RE.stays B0) (h2.below RE.stays B0) (h3.below RE.stays B0) (h4.below RE.stays B0) hs4).mono ?_
  rintro e w1 ⟨C1, e1, C2, e2, C3, e3, C4, e4, rfl, oF, hb1⟩
  have B1 := B0.tr hb1
  have bP1 := bP.bl hb1
  have bR1 := bR.bl hb1
  have oF := oF.mono hw0
  have bO := Blk.new_ w1 34 #[.slice none 0 0, .slice none 0 0, .slice none 0 0, .slice none 0 0]
  have oFa := oF.alloc (.cells #[.slice none 0 0, .slice none 0 0, .slice none 0 0, .slice none 0 0] 34)
  have bRa := bR1.alloc (.cells #[.slice none 0 0, .slice none 0 0, .slice none 0 0, .slice none 0 0] 34)
  have bPa := bP1.alloc (.cells #[.slice none 0 0, .slice none 0 0, .slice none 0 0, .slice none 0 0] 34)
  have Ba := B1.al (.cells #[.slice none 0 0, .slice none 0 0, .slice none 0 0, .slice none 0 0] 34)
  have hgO : w.heap.size ≤ w1.heap.size := B1.size
  have hRO : gR < w1.heap.size := bR1.lt
  have hPO : gP < w1.heap.size := bP1.lt
  clear z_0 z_1 z_2 z_3
  go_wp2_with (refine wpList_storeRow rfl 34 _ _ rfl w1.heap.size #[.slice C1 rows.length e1, .slice C2 f.length e2, .slice C3 n.length e3, .slice C4 cs.length e4] rfl rfl _ _ bO (by kernel_rfl) rfl (by simp [Value.oneCell']) ?_; intro wS bS hgS; have oS := OwnFl.rowI oFa bO (by decide) (by decide) (by decide) hgS; have bRS := bRa.grown hgS (by simp; omega); have bPS := bPa.grown hgS (by simp; omega); have BS := Ba.grown hgS Ba.size (fun k hk => by injection hk with hk; subst hk; exact hgO); have c_0 := bPS.cell 0; have c_1 := bPS.cell 1; have c_2 := bPS.cell 2; have c_3 := bPS.cell 3; simp only [List.getElem?_toArray, List.getElem?_cons_zero, List.getElem?_cons_succ] at c_0 c_1 c_2 c_3)
  refine (floorOkS_any _ _ _ _ rows f n cs _ (h1.below RE.stays BS) (h2.below RE.stays BS) (h3.below RE.stays BS) (h4.below RE.stays BS) s2).mono ?_
  rintro e w2 ⟨rfl, hb2⟩
  have B2 := BS.tr hb2
  have bP2 := bPS.bl hb2
  have bR2 := bRS.bl hb2
  have bO2 := bS.bl hb2
  have oF2 := oS.below hb2
  clear c_0 c_1 c_2 c_3
  have c_0 := bP2.cell 0
  have c_1 := bP2.cell 1
  have c_2 := bP2.cell 2
  have c_3 := bP2.cell 3
  simp only [List.getElem?_toArray, List.getElem?_cons_zero, List.getElem?_cons_succ] at c_0 c_1 c_2 c_3
  have y_0 := bO2.cell 0
  have y_1 := bO2.cell 1
  have y_2 := bO2.cell 2
  have y_3 := bO2.cell 3
  simp only [List.getElem?_toArray, List.getElem?_cons_zero, List.getElem?_cons_succ] at y_0 y_1 y_2 y_3
  rw [show floorOk rows f n cs = true from hok]
  have hA4 := HA.out
  subst hA4
  have x0 := (B2.cell (p := ⟨b, off + t.length * 2, none⟩) hb).trans x0
  have x1 := (B2.cell (p := ⟨b, off + t.length * 2 + 1, none⟩) hb).trans x1
  have hsl : (cs.length : Int) - 1 = (t.length : Int) := by omega
  have hltI : (t.length : Int) < (cs.length : Int) := by omega
  have ht0 : (0 : Int) ≤ (t.length : Int) := by omega
  have eW : IntKind.i64.wrap (t.length : Int) = (t.length : Int) := IntWalk.i64_in _ (by unfold Small at s4; omega)
  have hbO : b ≠ w1.heap.size := by omega
  have hPO' : gP ≠ w1.heap.size := by omega
  obtain ⟨gO, hgO'⟩ : ∃ g, g = w1.heap.size := ⟨_, rfl⟩
  rw [← hgO'] at bO2 hbO hPO' hgO hRO hPO y_0 y_1 y_2 y_3 ⊢
  clear hgO'
  have hp2 := bP2.lt
  have hb2' : b < w2.heap.size := by have := B2.size; omega
  have hO2 := bO2.lt
  have hOb := hbO.symm
  have hOP := hPO'.symm
  have fO : ∀ j, w2.frozen? ⟨gO, j, none⟩ = false := fun j => bO2.frozen j
  have Bw : Below w2.heap.size w2 w2.drew := (Below.refl _ _).drew
  have hz : w2.heap.size ≤ w2.drew.heap.size := by simp
  go_wp2_with fail
  refine wp_region_held_drew (S := (fun w' => w'.cell? ⟨gP, 2, none⟩ = some (.slice A3 n.length c3) ∧ w'.cell? ⟨gP, 3, none⟩ = some (.slice (some ⟨b, off, none⟩) cs.length c4) ∧ w'.cell? ⟨b, off + t.length * 2, none⟩ = some (.int .i64 cx) ∧ w'.cell? ⟨b, off + t.length * 2 + 1, none⟩ = some (.int .i64 cy))) (by kernel_rfl) ?_ (fun hHeld => ?_)
  · (try dsimp only); (try go_keep)
  refine wpAnyH_take (i := 0) (oi := op_FlUnS_specUndoFlip_5_0) (v := ?_) rfl (by kernel_rfl) (by kernel_rfl) (by kernel_rfl) (fun _ _ _ h => h) (Or.inl ⟨by rfl, ?_⟩) (by assumption) ?_
  rotate_left 1
  · (intro wS hSw; (try dsimp only at hSw); dsimp only [op_FlUnS_specUndoFlip_5_0]; go_simp; (all_goals with_reducible rfl))
  simp only [op_FlUnS_specUndoFlip_5_0, Act.put, List.setIfInBounds_toArray, List.set_cons_zero, List.set_cons_succ]
  refine wpAnyH_take (i := 1) (oi := op_FlUnS_specUndoFlip_5_1) (v := ?_) rfl (by kernel_rfl) (by kernel_rfl) (by kernel_rfl) (fun _ _ _ h => h) (Or.inl ⟨by rfl, ?_⟩) (by assumption) ?_
  rotate_left 1
  · (intro wS hSw; (try dsimp only at hSw); dsimp only [op_FlUnS_specUndoFlip_5_1]; go_simp; (all_goals with_reducible rfl))
  simp only [op_FlUnS_specUndoFlip_5_1, Act.put, List.setIfInBounds_toArray, List.set_cons_zero, List.set_cons_succ]
  refine wpAnyH_take (i := 2) (oi := op_FlUnS_specUndoFlip_5_2) (v := ?_) rfl (by kernel_rfl) (by kernel_rfl) (by kernel_rfl) (fun _ _ _ h => h) (Or.inl ⟨by rfl, ?_⟩) (by assumption) ?_
  rotate_left 1
  · (intro wS hSw; (try dsimp only at hSw); dsimp only [op_FlUnS_specUndoFlip_5_2]; go_simp; (all_goals with_reducible rfl))
  simp only [op_FlUnS_specUndoFlip_5_2, Act.put, List.setIfInBounds_toArray, List.set_cons_zero, List.set_cons_succ]
  refine wpAnyH_take (i := 3) (oi := op_FlUnS_specUndoFlip_5_3) (v := ?_) rfl (by kernel_rfl) (by kernel_rfl) (by kernel_rfl) (fun _ _ _ h => h) (Or.inl ⟨by rfl, ?_⟩) (by assumption) ?_
  rotate_left 1
  · (intro wS hSw; (try dsimp only at hSw); dsimp only [op_FlUnS_specUndoFlip_5_3]; go_simp; (all_goals with_reducible rfl))
  simp only [op_FlUnS_specUndoFlip_5_3, Act.put, List.setIfInBounds_toArray, List.set_cons_zero, List.set_cons_succ]
  refine wpAnyH_take (i := 4) (oi := op_FlUnS_specUndoFlip_5_4) (v := ?_) rfl (by kernel_rfl) (by kernel_rfl) (by kernel_rfl) (fun _ _ _ h => h) (Or.inl ⟨by rfl, ?_⟩) (by assumption) ?_
  rotate_left 1
  · (intro wS hSw; (try dsimp only at hSw); dsimp only [op_FlUnS_specUndoFlip_5_4]; go_simp; (all_goals with_reducible rfl))
  simp only [op_FlUnS_specUndoFlip_5_4, Act.put, List.setIfInBounds_toArray, List.set_cons_zero, List.set_cons_succ]
  refine wpAnyH_take (i := 5) (oi := op_FlUnS_specUndoFlip_5_5) (v := ?_) rfl (by kernel_rfl) (by kernel_rfl) (by kernel_rfl) (fun _ _ _ h => h) (Or.inl ⟨by rfl, ?_⟩) (by assumption) ?_
  rotate_left 1
  · (intro wS hSw; (try dsimp only at hSw); dsimp only [op_FlUnS_specUndoFlip_5_5]; go_simp; (all_goals with_reducible rfl))
  simp only [op_FlUnS_specUndoFlip_5_5, Act.put, List.setIfInBounds_toArray, List.set_cons_zero, List.set_cons_succ]
  refine wpAnyH_take (i := 6) (oi := op_FlUnS_specUndoFlip_5_6) (v := ?_) rfl (by kernel_rfl) (by kernel_rfl) (by kernel_rfl) (fun _ _ _ h => h) (Or.inl ⟨by rfl, ?_⟩) (by assumption) ?_
  rotate_left 1
  · (intro wS hSw; (try dsimp only at hSw); dsimp only [op_FlUnS_specUndoFlip_5_6]; go_simp; (all_goals with_reducible rfl))
  simp only [op_FlUnS_specUndoFlip_5_6, Act.put, List.setIfInBounds_toArray, List.set_cons_zero, List.set_cons_succ]
  refine wpAnyH_take (i := 7) (oi := op_FlUnS_specUndoFlip_5_7) (v := ?_) rfl (by kernel_rfl) (by kernel_rfl) (by kernel_rfl) (fun _ _ _ h => h) (Or.inl ⟨by rfl, ?_⟩) (by assumption) ?_
  rotate_left 1
  · (intro wS hSw; (try dsimp only at hSw); dsimp only [op_FlUnS_specUndoFlip_5_7]; go_simp; (all_goals with_reducible rfl))
  simp only [op_FlUnS_specUndoFlip_5_7, Act.put, List.setIfInBounds_toArray, List.set_cons_zero, List.set_cons_succ]
  refine wpAnyH_ready (rs := [8]) (by kernel_rfl) (by simp) ?_
  refine AllReadyH.cons (o := op_FlUnS_specUndoFlip_5_8) rfl (fun K hK => ?_) AllReadyH.nil
  dsimp only [op_FlUnS_specUndoFlip_5_8]
  (go_simp; go_at_call 80; go_must (refine (CF _ _ (h3.below RE.stays (B2.tr Bw))).mono ?_; rintro e wX ⟨D, d, rfl, oM, hbX⟩; obtain ⟨hcX, hfX, hzX⟩ := bkn hbX w2.heap.size hz; have hz := hzX; have oM := oM.mono (show w2.heap.size ≤ _ by assumption); have Bw := Bw.tr hbX))
  refine hK.out _ _ ?_ (fun hHeld => ?_)
  · (try dsimp only); (try go_keep)
  clear hK K
  (try simp only [Act.put, List.setIfInBounds_toArray, List.set_cons_zero, List.set_cons_succ])
  refine wpAnyH_take (i := 9) (oi := op_FlUnS_specUndoFlip_5_9) (v := ?_) rfl (by kernel_rfl) (by kernel_rfl) (by kernel_rfl) (fun _ _ _ h => h) (Or.inl ⟨by rfl, ?_⟩) (by assumption) ?_
  rotate_left 1
  · (intro wS hSw; (try dsimp only at hSw); dsimp only [op_FlUnS_specUndoFlip_5_9]; go_simp; (all_goals with_reducible rfl))
  simp only [op_FlUnS_specUndoFlip_5_9, Act.put, List.setIfInBounds_toArray, List.set_cons_zero, List.set_cons_succ]
  refine wpAnyH_take (i := 10) (oi := op_FlUnS_specUndoFlip_5_10) (v := ?_) rfl (by kernel_rfl) (by kernel_rfl) (by kernel_rfl) (fun _ _ _ h => h) (Or.inl ⟨by rfl, ?_⟩) (by assumption) ?_
  rotate_left 1
  · (intro wS hSw; (try dsimp only at hSw); dsimp only [op_FlUnS_specUndoFlip_5_10]; go_simp; (all_goals with_reducible rfl))
  simp only [op_FlUnS_specUndoFlip_5_10, Act.put, List.setIfInBounds_toArray, List.set_cons_zero, List.set_cons_succ]
  refine wpAnyH_take (i := 11) (oi := op_FlUnS_specUndoFlip_5_11) (v := ?_) rfl (by kernel_rfl) (by kernel_rfl) (by kernel_rfl) (fun _ _ _ h => h) (Or.inl ⟨by rfl, ?_⟩) (by assumption) ?_
  rotate_left 1
  · (intro wS hSw; (try dsimp only at hSw); dsimp only [op_FlUnS_specUndoFlip_5_11]; go_simp; (all_goals with_reducible rfl))
  simp only [op_FlUnS_specUndoFlip_5_11, Act.put, List.setIfInBounds_toArray, List.set_cons_zero, List.set_cons_succ]
  refine wpAnyH_take (i := 12) (oi := op_FlUnS_specUndoFlip_5_12) (v := ?_) rfl (by kernel_rfl) (by kernel_rfl) (by kernel_rfl) (fun _ _ _ h => h) (Or.inl ⟨by rfl, ?_⟩) (by assumption) ?_
  rotate_left 1
  · (intro wS hSw; (try dsimp only at hSw); dsimp only [op_FlUnS_specUndoFlip_5_12]; go_simp; (all_goals with_reducible rfl))
  simp only [op_FlUnS_specUndoFlip_5_12, Act.put, List.setIfInBounds_toArray, List.set_cons_zero, List.set_cons_succ]
  refine wpAnyH_ready (rs := [13]) (by kernel_rfl) (by simp) ?_
  refine AllReadyH.cons (o := op_FlUnS_specUndoFlip_5_13) rfl (fun K hK => ?_) AllReadyH.nil
  (have bOX := bO2.bl Bw; have u_0 := bOX.cell 0; have u_1 := bOX.cell 1; have u_2 := bOX.cell 2; have u_3 := bOX.cell 3; simp only [List.getElem?_toArray, List.getElem?_cons_zero, List.getElem?_cons_succ] at u_0 u_1 u_2 u_3; have fOX : ∀ j, wX.frozen? ⟨gO, j, none⟩ = false := (fun j => bOX.frozen j); go_simp)
  refine hK.out _ _ ?_ (fun hHeld => ?_)
  · (try dsimp only); (try go_keep)
  clear hK K
  (try simp only [Act.put, List.setIfInBounds_toArray, List.set_cons_zero, List.set_cons_succ])
  refine wpAnyH_done (by kernel_rfl) ?_ _
  have hap : ∀ q, (Value.slice C2 f.length e2).ownBlock = some q → (Value.slice D m.length d).ownBlock ≠ some q := fun q hq => oF2.b.early oM (Nat.le_refl _) hq
  have oFX := oF2.below Bw
  have BX := B2.tr Bw
  have bRX := bR2.bl Bw
  have oN3 : OwnFl w.heap.size wX (.slice C1 rows.length e1) (.slice C2 f.length e2) (.slice D m.length d) (.slice C4 cs.length e4) (rows, f, m, cs) := ⟨oFX.a, oFX.b, oM.mono B2.size, oFX.d, hap⟩
  have hgg := gr_set (World.grownBy.refl wX (some gO)) 2 (.slice D m.length d)
  have bO5 := bOX.st 2 (.slice D m.length d) #[.slice C1 rows.length e1, .slice C2 f.length e2, .slice D m.length d, .slice C4 cs.length e4] rfl
  have oN5 := OwnFl.rowI oN3 bOX (by decide) (by decide) (by decide) hgg
  have bR5 := bRX.grown hgg (by simp; omega)
  have B5 := BX.grown hgg BX.size (fun k hk => by injection hk with hk; subst hk; exact hgO)
  obtain ⟨_, _, eq4, hc4', hm4'⟩ := oN5.d.form
  injection eq4 with eq41 eq42 eq43
  subst eq41; subst eq43
  have hsl2 : t.length ≤ e4 := by simp only at hc4'; omega
  have hsl3 : (t.length : Int) ≤ e4 := by omega
  have oT5 := oN5.d.takeA lenCell (show t.length ≤ cs.length by omega)
  rw [← HT.out] at oT5
  have oT : OwnFl w.heap.size _ (.slice C1 rows.length e1) (.slice C2 f.length e2) (.slice D m.length d) (.slice C4 t.length e4) (rows, f, m, t) := ⟨oN5.a, oN5.b, oN5.c, oT5, hap⟩
  have hgh := gr_set (World.grownBy.refl (wX.setCell ⟨gO, 2, none⟩ (.slice D m.length d)) (some gO)) 3 (.slice C4 t.length e4)
  have oT6 := OwnFl.rowI oT bO5 (by decide) (by decide) (by decide) hgh
  have bR6 := bR5.grown hgh (by simp; omega)
  have B6 := B5.grown hgh B5.size (fun k hk => by injection hk with hk; subst hk; exact hgO)
  go_wp2_with (refine wpList_storeRow rfl 34 _ _ rfl gR #[.slice C1 rows.length e1, .slice C2 f.length e2, .slice D m.length d, .slice C4 t.length e4] rfl rfl _ _ bR6 (by kernel_rfl) rfl (by simp [Value.oneCell']) ?_; intro wE bE hgE)
  have oE : OwnFl w.heap.size wE _ _ _ _ _ := OwnFl.rowI oT6 bR6 (by decide) (by decide) (by decide) hgE
  have BE := B6.grown hgE B6.size (fun k hk => by injection hk with hk; subst hk; exact hgR)
  have q_0 := bE.cell 0
  have q_1 := bE.cell 1
  have q_2 := bE.cell 2
  have q_3 := bE.cell 3
  simp only [List.getElem?_toArray, List.getElem?_cons_zero, List.getElem?_cons_succ] at q_0 q_1 q_2 q_3
  refine bodyPost_ret (v := .tuple #[.agg #[.slice C1 rows.length e1, .slice C2 f.length e2, .slice D m.length d, .slice C4 t.length e4], .bool true]) (by simp [results, Try.results16, go_sem, q_0, q_1, q_2, q_3]) rfl (by rw [HY.out]; exact ⟨C1, e1, C2, e2, D, d, C4, e4, rfl, oE, BE⟩)
theorem undoS_any (v1 v2 v3 v4 : Value) (x : Fl) (w : World) (h1 : Rd 1 RInt w v1 x.1) (h2 : Rd 3 RDom w v2 x.2.1) (h3 : Rd 3 RDom w v3 x.2.2.1) (h4 : Rd 2 RPair w v4 x.2.2.2) (hs : Small4 x) :
    Calls Try.prog 16 #[.agg #[v1, v2, v3, v4]] w (RetFlB (undoFl x).1 (undoFl x).2 w) := by
  unfold undoFl
  by_cases h : flOk x = true ∧ x.2.2.2.length ≠ 0
  · rw [if_pos h]; exact undoS_yes v1 v2 v3 v4 x w h1 h2 h3 h4 hs h.1 h.2
  · rw [if_neg h]
    refine undoS_no v1 v2 v3 v4 x w h1 h2 h3 h4 hs ?_
    rcases q : flOk x with _ | _
    · exact .inl rfl
    · exact .inr ⟨rfl, by rcases Nat.eq_zero_or_pos x.2.2.2.length with e | e; exact e; exact absurd ⟨q, by omega⟩ h⟩
end Go.Proofs.Ytnlljkdfapllpaa
