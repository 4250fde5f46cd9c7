/- A flip made by the reference: the walk. Conditions: sizes. -/
import Derived.Test.YtnlljkdfapllpaaFlDo2
import Derived.Test.YtnlljkdfapllpaaFlCopy
namespace Go.Proofs.Ytnlljkdfapllpaa
open Go.ChangeShapes Go.WideShapes Go.ChangeAt Go.RowKit
set_option linter.unusedVariables false
set_option linter.unusedSimpArgs false

set_option maxHeartbeats 4000000 in
set_option maxRecDepth 100000 in
theorem doS_no (v1 v2 v3 v4 : Value) (x : Fl) (cx cy : Int) (w : World) (h1 : Rd 1 RInt w v1 x.1) (h2 : Rd 3 RDom w v2 x.2.1) (h3 : Rd 3 RDom w v3 x.2.2.1) (h4 : Rd 2 RPair w v4 x.2.2.2) (hs : Small4 x)
    (hno : flOk x = false ∨ (flOk x = true ∧ x.2.2.2.length = 60) ∨ (flOk x = true ∧ x.2.2.2.length ≠ 60 ∧ kindOf x.2.2.1 (cx, cy) = 0)) :
    Calls Try.prog 22 #[.agg #[v1, v2, v3, v4], .agg #[.int .i64 cx, .int .i64 cy]] w (RetFlB x false w) := by
  have hs4 := hs
  obtain ⟨rows, f, n, cs⟩ := x
  simp only at h1 h2 h3 h4
  obtain ⟨s1, s2, s3, s4⟩ := hs
  simp only at s1 s2 s3 s4
  obtain ⟨A1, c1, rfl, hc1, hm1⟩ := h1.form
  obtain ⟨A2, c2, rfl, hc2, hm2⟩ := h2.form
  obtain ⟨A3, c3, rfl, hc3, hm3⟩ := h3.form
  obtain ⟨A4, c4, rfl, hc4, hm4⟩ := h4.form
  have B0 := (((Below.refl w.heap.size w).al (.cells #[.slice A1 rows.length c1, .slice A2 f.length c2, .slice A3 n.length c3, .slice A4 cs.length c4] 34)).al (.cells #[.int .i64 cx, .int .i64 cy] 44)).al (.cells #[.slice none 0 0, .slice none 0 0, .slice none 0 0, .slice none 0 0] 34)
  have bP := ((Blk.new_ w 34 #[.slice A1 rows.length c1, .slice A2 f.length c2, .slice A3 n.length c3, .slice A4 cs.length c4]).alloc (.cells #[.int .i64 cx, .int .i64 cy] 44)).alloc (.cells #[.slice none 0 0, .slice none 0 0, .slice none 0 0, .slice none 0 0] 34)
  have bC := (Blk.new2 (w.alloc (.cells #[.slice A1 rows.length c1, .slice A2 f.length c2, .slice A3 n.length c3, .slice A4 cs.length c4] 34)) 44 #[.int .i64 cx, .int .i64 cy] (w.heap.size + 1) (by simp)).alloc (.cells #[.slice none 0 0, .slice none 0 0, .slice none 0 0, .slice none 0 0] 34)
  have bR := Blk.new2 ((w.alloc (.cells #[.slice A1 rows.length c1, .slice A2 f.length c2, .slice A3 n.length c3, .slice A4 cs.length c4] 34)).alloc (.cells #[.int .i64 cx, .int .i64 cy] 44)) 34 #[.slice none 0 0, .slice none 0 0, .slice none 0 0, .slice none 0 0] (w.heap.size + 1 + 1) (by simp)
  obtain ⟨m, hm⟩ : ∃ m, m = (flipAt n (cx, cy)).1 := ⟨_, rfl⟩
  obtain ⟨b, hb⟩ : ∃ b, b = (flipAt n (cx, cy)).2 := ⟨_, rfl⟩
  have CF : ∀ (u : Value) (w : World), Rd 3 RDom w u n → Calls Try.prog 80 #[u, .agg #[.int .i64 cx, .int .i64 cy]] w (RetOwnB 88 3 eDom m b w) := fun u w k1 => by rw [hm, hb]; exact flipAtS_any u n cx cy w k1 s3
  have HB : Hid ((kindOf n (cx, cy) = 0 → b = false) ∧ (kindOf n (cx, cy) ≠ 0 → b = true ∧ m = flipTo n (cx, cy))) := Lib.hid ⟨fun q => by rw [hb]; unfold flipAt; rw [if_pos q], fun q => by rw [hb, hm]; unfold flipAt; rw [if_neg q]; exact ⟨rfl, rfl⟩⟩
  clear hm hb
  go_enter Try.func22, Try.ntmps22
  go_wp2_with fail
  obtain ⟨W0, hW0⟩ : ∃ W0, W0 = ((w.alloc (.cells #[.slice A1 rows.length c1, .slice A2 f.length c2, .slice A3 n.length c3, .slice A4 cs.length c4] 34)).alloc (.cells #[.int .i64 cx, .int .i64 cy] 44)).alloc (.cells #[.slice none 0 0, .slice none 0 0, .slice none 0 0, .slice none 0 0] 34) := ⟨_, rfl⟩
  obtain ⟨gP, hgP⟩ : ∃ g, g = w.heap.size := ⟨_, rfl⟩
  obtain ⟨gC, hgC⟩ : ∃ g, g = w.heap.size + 1 := ⟨_, rfl⟩
  obtain ⟨gR, hgR'⟩ : ∃ g, g = w.heap.size + 1 + 1 := ⟨_, rfl⟩
  rw [← hW0] at B0 bP bC bR ⊢
  rw [← hgR'] at bR ⊢
  rw [← hgC] at bC ⊢
  rw [← hgP] at bP ⊢
  have hgR : w.heap.size ≤ gR := by omega
  have hPR : gP ≠ gR := by omega
  have hw0 : w.heap.size ≤ W0.heap.size := B0.size
  clear hW0 hgP hgC hgR'
  have z_0 := bP.cell 0
  have z_1 := bP.cell 1
  have z_2 := bP.cell 2
  have z_3 := bP.cell 3
  simp only [List.getElem?_toArray, List.getElem?_cons_zero, List.getElem?_cons_succ] at z_0 z_1 z_2 z_3
  have hp0 := bP.lt
  have hr0 := bR.lt
  have hl0 := bC.lt
  go_wp2_with fail
  refine (copyFlS_any _ _ _ _ (rows, f, n, cs) _ (h1.below RE.stays B0) (h2.below RE.stays B0) (h3.below RE.stays B0) (h4.below RE.stays B0) hs4).mono ?_
  rintro e w1 ⟨C1, e1, C2, e2, C3, e3, C4, e4, rfl, oF, hb1⟩
  have B1 := B0.tr hb1
  have bP1 := bP.bl hb1
  have bC1 := bC.bl hb1
  have bR1 := bR.bl hb1
  have oF := oF.mono hw0
  have bO := Blk.new_ w1 34 #[.slice none 0 0, .slice none 0 0, .slice none 0 0, .slice none 0 0]
  have oFa := oF.alloc (.cells #[.slice none 0 0, .slice none 0 0, .slice none 0 0, .slice none 0 0] 34)
  have bRa := bR1.alloc (.cells #[.slice none 0 0, .slice none 0 0, .slice none 0 0, .slice none 0 0] 34)
  have bPa := bP1.alloc (.cells #[.slice none 0 0, .slice none 0 0, .slice none 0 0, .slice none 0 0] 34)
  have Ba := B1.al (.cells #[.slice none 0 0, .slice none 0 0, .slice none 0 0, .slice none 0 0] 34)
  have hgO : w.heap.size ≤ w1.heap.size := B1.size
  have hRO : gR < w1.heap.size := bR1.lt
  have hPO : gP < w1.heap.size := bP1.lt
  have bCa := bC1.alloc (.cells #[.slice none 0 0, .slice none 0 0, .slice none 0 0, .slice none 0 0] 34)
  have hCO : gC < w1.heap.size := bC1.lt
  clear z_0 z_1 z_2 z_3
  go_wp2_with (refine wpList_storeRow rfl 34 _ _ rfl w1.heap.size #[.slice C1 rows.length e1, .slice C2 f.length e2, .slice C3 n.length e3, .slice C4 cs.length e4] rfl rfl _ _ bO (by kernel_rfl) rfl (by simp [Value.oneCell']) ?_; intro wS bS hgS; have oS := OwnFl.rowI oFa bO (by decide) (by decide) (by decide) hgS; have bRS := bRa.grown hgS (by simp; omega); have bPS := bPa.grown hgS (by simp; omega); have bCS := bCa.grown hgS (by simp; omega); have BS := Ba.grown hgS Ba.size (fun k hk => by injection hk with hk; subst hk; exact hgO); have c_0 := bPS.cell 0; have c_1 := bPS.cell 1; have c_2 := bPS.cell 2; have c_3 := bPS.cell 3; simp only [List.getElem?_toArray, List.getElem?_cons_zero, List.getElem?_cons_succ] at c_0 c_1 c_2 c_3; have d_0 := bCS.cell 0; have d_1 := bCS.cell 1; simp only [List.getElem?_toArray, List.getElem?_cons_zero, List.getElem?_cons_succ] at d_0 d_1)
  refine (floorOkS_any _ _ _ _ rows f n cs _ (h1.below RE.stays BS) (h2.below RE.stays BS) (h3.below RE.stays BS) (h4.below RE.stays BS) s2).mono ?_
  rintro e w2 ⟨rfl, hb2⟩
  have B2 := BS.tr hb2
  have bP2 := bPS.bl hb2
  have bR2 := bRS.bl hb2
  have bO2 := bS.bl hb2
  have bC2 := bCS.bl hb2
  have oF2 := oS.below hb2
  clear c_0 c_1 c_2 c_3 d_0 d_1
  have c_0 := bP2.cell 0
  have c_1 := bP2.cell 1
  have c_2 := bP2.cell 2
  have c_3 := bP2.cell 3
  simp only [List.getElem?_toArray, List.getElem?_cons_zero, List.getElem?_cons_succ] at c_0 c_1 c_2 c_3
  have y_0 := bO2.cell 0
  have y_1 := bO2.cell 1
  have y_2 := bO2.cell 2
  have y_3 := bO2.cell 3
  simp only [List.getElem?_toArray, List.getElem?_cons_zero, List.getElem?_cons_succ] at y_0 y_1 y_2 y_3
  have d_0 := bC2.cell 0
  have d_1 := bC2.cell 1
  simp only [List.getElem?_toArray, List.getElem?_cons_zero, List.getElem?_cons_succ] at d_0 d_1
  rcases hno with hno | ⟨hno, hn0⟩ | ⟨hno, hn0, hk⟩
  · rw [show floorOk rows f n cs = false from hno]
    go_wp2_with (refine wpList_storeRow rfl 34 _ _ rfl gR #[.slice C1 rows.length e1, .slice C2 f.length e2, .slice C3 n.length e3, .slice C4 cs.length e4] rfl rfl _ _ bR2 (by kernel_rfl) rfl (by simp [Value.oneCell']) ?_; intro wE bE hgE)
    have oE : OwnFl w.heap.size wE _ _ _ _ _ := OwnFl.rowI oF2 bR2 (by decide) (by decide) (by decide) hgE
    have BE := B2.grown hgE B2.size (fun k hk => by injection hk with hk; subst hk; exact hgR)
    have q_0 := bE.cell 0
    have q_1 := bE.cell 1
    have q_2 := bE.cell 2
    have q_3 := bE.cell 3
    simp only [List.getElem?_toArray, List.getElem?_cons_zero, List.getElem?_cons_succ] at q_0 q_1 q_2 q_3
    refine bodyPost_ret (v := .tuple #[.agg #[.slice C1 rows.length e1, .slice C2 f.length e2, .slice C3 n.length e3, .slice C4 cs.length e4], .bool false]) (by simp [results, Try.results22, go_sem, q_0, q_1, q_2, q_3]) rfl ⟨C1, e1, C2, e2, C3, e3, C4, e4, rfl, oE, BE⟩
  · rw [show floorOk rows f n cs = true from hno]
    have hz0 : ((cs.length : Int) == 60) = true := by rw [show cs.length = 60 from hn0]; rfl
    clear hn0
    go_wp2_with (refine wpList_storeRow rfl 34 _ _ rfl gR #[.slice C1 rows.length e1, .slice C2 f.length e2, .slice C3 n.length e3, .slice C4 cs.length e4] rfl rfl _ _ bR2 (by kernel_rfl) rfl (by simp [Value.oneCell']) ?_; intro wE bE hgE)
    have oE : OwnFl w.heap.size wE _ _ _ _ _ := OwnFl.rowI oF2 bR2 (by decide) (by decide) (by decide) hgE
    have BE := B2.grown hgE B2.size (fun k hk => by injection hk with hk; subst hk; exact hgR)
    have q_0 := bE.cell 0
    have q_1 := bE.cell 1
    have q_2 := bE.cell 2
    have q_3 := bE.cell 3
    simp only [List.getElem?_toArray, List.getElem?_cons_zero, List.getElem?_cons_succ] at q_0 q_1 q_2 q_3
    refine bodyPost_ret (v := .tuple #[.agg #[.slice C1 rows.length e1, .slice C2 f.length e2, .slice C3 n.length e3, .slice C4 cs.length e4], .bool false]) (by simp [results, Try.results22, go_sem, q_0, q_1, q_2, q_3]) rfl ⟨C1, e1, C2, e2, C3, e3, C4, e4, rfl, oE, BE⟩
  · rw [show floorOk rows f n cs = true from hno]
    have hz0 : ((cs.length : Int) == 60) = false := by rw [beq_eq_false_iff_ne]; omega
    go_wp2_with fail
    refine (CF _ _ (h3.below RE.stays B2)).mono ?_
    rintro e w3 ⟨D, d, rfl, oM, hb3⟩
    have B3 := B2.tr hb3
    have bR3 := bR2.bl hb3
    have bO3 := bO2.bl hb3
    have bC3 := bC2.bl hb3
    have oF3 := oF2.below hb3
    clear c_0 c_1 c_2 c_3 y_0 y_1 y_2 y_3 d_0 d_1
    have y_0 := bO3.cell 0
    have y_1 := bO3.cell 1
    have y_2 := bO3.cell 2
    have y_3 := bO3.cell 3
    simp only [List.getElem?_toArray, List.getElem?_cons_zero, List.getElem?_cons_succ] at y_0 y_1 y_2 y_3
    have d_0 := bC3.cell 0
    have d_1 := bC3.cell 1
    simp only [List.getElem?_toArray, List.getElem?_cons_zero, List.getElem?_cons_succ] at d_0 d_1
    rw [HB.out.1 hk]
    go_wp2_with (refine wpList_storeRow rfl 34 _ _ rfl gR #[.slice C1 rows.length e1, .slice C2 f.length e2, .slice C3 n.length e3, .slice C4 cs.length e4] rfl rfl _ _ bR3 (by kernel_rfl) rfl (by simp [Value.oneCell']) ?_; intro wE bE hgE)
    have oE : OwnFl w.heap.size wE _ _ _ _ _ := OwnFl.rowI oF3 bR3 (by decide) (by decide) (by decide) hgE
    have BE := B3.grown hgE B3.size (fun k hk => by injection hk with hk; subst hk; exact hgR)
    have q_0 := bE.cell 0
    have q_1 := bE.cell 1
    have q_2 := bE.cell 2
    have q_3 := bE.cell 3
    simp only [List.getElem?_toArray, List.getElem?_cons_zero, List.getElem?_cons_succ] at q_0 q_1 q_2 q_3
    refine bodyPost_ret (v := .tuple #[.agg #[.slice C1 rows.length e1, .slice C2 f.length e2, .slice C3 n.length e3, .slice C4 cs.length e4], .bool false]) (by simp [results, Try.results22, go_sem, q_0, q_1, q_2, q_3]) rfl ⟨C1, e1, C2, e2, C3, e3, C4, e4, rfl, oE, BE⟩
set_option maxHeartbeats 4000000 in
set_option maxRecDepth 100000 in
theorem doS_yes (v1 v2 v3 v4 : Value) (x : Fl) (cx cy : Int) (w : World) (h1 : Rd 1 RInt w v1 x.1) (h2 : Rd 3 RDom w v2 x.2.1) (h3 : Rd 3 RDom w v3 x.2.2.1) (h4 : Rd 2 RPair w v4 x.2.2.2) (hs : Small4 x)
    (hok : flOk x = true) (hn : x.2.2.2.length ≠ 60) (hk : kindOf x.2.2.1 (cx, cy) ≠ 0) :
    Calls Try.prog 22 #[.agg #[v1, v2, v3, v4], .agg #[.int .i64 cx, .int .i64 cy]] w (RetFlB (x.1, x.2.1, flipTo x.2.2.1 (cx, cy), x.2.2.2 ++ [(cx, cy)]) true w) := by
  obtain ⟨y, hy⟩ : ∃ y, y = ((x.1, x.2.1, flipTo x.2.2.1 (cx, cy), x.2.2.2 ++ [(cx, cy)]) : Fl) := ⟨_, rfl⟩
  rw [← hy]
  have hs4 := hs
  obtain ⟨rows, f, n, cs⟩ := x
  simp only at h1 h2 h3 h4
  obtain ⟨s1, s2, s3, s4⟩ := hs
  simp only at s1 s2 s3 s4
  obtain ⟨A1, c1, rfl, hc1, hm1⟩ := h1.form
  obtain ⟨A2, c2, rfl, hc2, hm2⟩ := h2.form
  obtain ⟨A3, c3, rfl, hc3, hm3⟩ := h3.form
  obtain ⟨A4, c4, rfl, hc4, hm4⟩ := h4.form
  have B0 := (((Below.refl w.heap.size w).al (.cells #[.slice A1 rows.length c1, .slice A2 f.length c2, .slice A3 n.length c3, .slice A4 cs.length c4] 34)).al (.cells #[.int .i64 cx, .int .i64 cy] 44)).al (.cells #[.slice none 0 0, .slice none 0 0, .slice none 0 0, .slice none 0 0] 34)
  have bP := ((Blk.new_ w 34 #[.slice A1 rows.length c1, .slice A2 f.length c2, .slice A3 n.length c3, .slice A4 cs.length c4]).alloc (.cells #[.int .i64 cx, .int .i64 cy] 44)).alloc (.cells #[.slice none 0 0, .slice none 0 0, .slice none 0 0, .slice none 0 0] 34)
  have bC := (Blk.new2 (w.alloc (.cells #[.slice A1 rows.length c1, .slice A2 f.length c2, .slice A3 n.length c3, .slice A4 cs.length c4] 34)) 44 #[.int .i64 cx, .int .i64 cy] (w.heap.size + 1) (by simp)).alloc (.cells #[.slice none 0 0, .slice none 0 0, .slice none 0 0, .slice none 0 0] 34)
  have bR := Blk.new2 ((w.alloc (.cells #[.slice A1 rows.length c1, .slice A2 f.length c2, .slice A3 n.length c3, .slice A4 cs.length c4] 34)).alloc (.cells #[.int .i64 cx, .int .i64 cy] 44)) 34 #[.slice none 0 0, .slice none 0 0, .slice none 0 0, .slice none 0 0] (w.heap.size + 1 + 1) (by simp)
  obtain ⟨m, hm⟩ : ∃ m, m = (flipAt n (cx, cy)).1 := ⟨_, rfl⟩
  obtain ⟨b, hb⟩ : ∃ b, b = (flipAt n (cx, cy)).2 := ⟨_, rfl⟩
  have CF : ∀ (u : Value) (w : World), Rd 3 RDom w u n → Calls Try.prog 80 #[u, .agg #[.int .i64 cx, .int .i64 cy]] w (RetOwnB 88 3 eDom m b w) := fun u w k1 => by rw [hm, hb]; exact flipAtS_any u n cx cy w k1 s3
  have HB : Hid ((kindOf n (cx, cy) = 0 → b = false) ∧ (kindOf n (cx, cy) ≠ 0 → b = true ∧ m = flipTo n (cx, cy))) := Lib.hid ⟨fun q => by rw [hb]; unfold flipAt; rw [if_pos q], fun q => by rw [hb, hm]; unfold flipAt; rw [if_neg q]; exact ⟨rfl, rfl⟩⟩
  clear hm hb
  go_enter Try.func22, Try.ntmps22
  go_wp2_with fail
  obtain ⟨W0, hW0⟩ : ∃ W0, W0 = ((w.alloc (.cells #[.slice A1 rows.length c1, .slice A2 f.length c2, .slice A3 n.length c3, .slice A4 cs.length c4] 34)).alloc (.cells #[.int .i64 cx, .int .i64 cy] 44)).alloc (.cells #[.slice none 0 0, .slice none 0 0, .slice none 0 0, .slice none 0 0] 34) := ⟨_, rfl⟩
  obtain ⟨gP, hgP⟩ : ∃ g, g = w.heap.size := ⟨_, rfl⟩
  obtain ⟨gC, hgC⟩ : ∃ g, g = w.heap.size + 1 := ⟨_, rfl⟩
  obtain ⟨gR, hgR'⟩ : ∃ g, g = w.heap.size + 1 + 1 := ⟨_, rfl⟩
  rw [← hW0] at B0 bP bC bR ⊢
  rw [← hgR'] at bR ⊢
  rw [← hgC] at bC ⊢
  rw [← hgP] at bP ⊢
  have hgR : w.heap.size ≤ gR := by omega
  have hPR : gP ≠ gR := by omega
  have hw0 : w.heap.size ≤ W0.heap.size := B0.size
  clear hW0 hgP hgC hgR'
  have z_0 := bP.cell 0
  have z_1 := bP.cell 1
  have z_2 := bP.cell 2
  have z_3 := bP.cell 3
  simp only [List.getElem?_toArray, List.getElem?_cons_zero, List.getElem?_cons_succ] at z_0 z_1 z_2 z_3
  have hp0 := bP.lt
  have hr0 := bR.lt
  have hl0 := bC.lt
  go_wp2_with fail
  refine (copyFlS_any _ _ _ _ (rows, f, n, cs) _ (h1.below RE.stays B0) (h2.below RE.stays B0) (h3.below RE.stays B0) (h4.below RE.stays B0) hs4).mono ?_
  rintro e w1 ⟨C1, e1, C2, e2, C3, e3, C4, e4, rfl, oF, hb1⟩
  have B1 := B0.tr hb1
  have bP1 := bP.bl hb1
  have bC1 := bC.bl hb1
  have bR1 := bR.bl hb1
  have oF := oF.mono hw0
  have bO := Blk.new_ w1 34 #[.slice none 0 0, .slice none 0 0, .slice none 0 0, .slice none 0 0]
  have oFa := oF.alloc (.cells #[.slice none 0 0, .slice none 0 0, .slice none 0 0, .slice none 0 0] 34)
  have bRa := bR1.alloc (.cells #[.slice none 0 0, .slice none 0 0, .slice none 0 0, .slice none 0 0] 34)
  have bPa := bP1.alloc (.cells #[.slice none 0 0, .slice none 0 0, .slice none 0 0, .slice none 0 0] 34)
  have Ba := B1.al (.cells #[.slice none 0 0, .slice none 0 0, .slice none 0 0, .slice none 0 0] 34)
  have hgO : w.heap.size ≤ w1.heap.size := B1.size
  have hRO : gR < w1.heap.size := bR1.lt
  have hPO : gP < w1.heap.size := bP1.lt
  have bCa := bC1.alloc (.cells #[.slice none 0 0, .slice none 0 0, .slice none 0 0, .slice none 0 0] 34)
  have hCO : gC < w1.heap.size := bC1.lt
  clear z_0 z_1 z_2 z_3
  go_wp2_with (refine wpList_storeRow rfl 34 _ _ rfl w1.heap.size #[.slice C1 rows.length e1, .slice C2 f.length e2, .slice C3 n.length e3, .slice C4 cs.length e4] rfl rfl _ _ bO (by kernel_rfl) rfl (by simp [Value.oneCell']) ?_; intro wS bS hgS; have oS := OwnFl.rowI oFa bO (by decide) (by decide) (by decide) hgS; have bRS := bRa.grown hgS (by simp; omega); have bPS := bPa.grown hgS (by simp; omega); have bCS := bCa.grown hgS (by simp; omega); have BS := Ba.grown hgS Ba.size (fun k hk => by injection hk with hk; subst hk; exact hgO); have c_0 := bPS.cell 0; have c_1 := bPS.cell 1; have c_2 := bPS.cell 2; have c_3 := bPS.cell 3; simp only [List.getElem?_toArray, List.getElem?_cons_zero, List.getElem?_cons_succ] at c_0 c_1 c_2 c_3; have d_0 := bCS.cell 0; have d_1 := bCS.cell 1; simp only [List.getElem?_toArray, List.getElem?_cons_zero, List.getElem?_cons_succ] at d_0 d_1)
  refine (floorOkS_any _ _ _ _ rows f n cs _ (h1.below RE.stays BS) (h2.below RE.stays BS) (h3.below RE.stays BS) (h4.below RE.stays BS) s2).mono ?_
  rintro e w2 ⟨rfl, hb2⟩
  have B2 := BS.tr hb2
  have bP2 := bPS.bl hb2
  have bR2 := bRS.bl hb2
  have bO2 := bS.bl hb2
  have bC2 := bCS.bl hb2
  have oF2 := oS.below hb2
  clear c_0 c_1 c_2 c_3 d_0 d_1
  have c_0 := bP2.cell 0
  have c_1 := bP2.cell 1
  have c_2 := bP2.cell 2
  have c_3 := bP2.cell 3
  simp only [List.getElem?_toArray, List.getElem?_cons_zero, List.getElem?_cons_succ] at c_0 c_1 c_2 c_3
  have y_0 := bO2.cell 0
  have y_1 := bO2.cell 1
  have y_2 := bO2.cell 2
  have y_3 := bO2.cell 3
  simp only [List.getElem?_toArray, List.getElem?_cons_zero, List.getElem?_cons_succ] at y_0 y_1 y_2 y_3
  have d_0 := bC2.cell 0
  have d_1 := bC2.cell 1
  simp only [List.getElem?_toArray, List.getElem?_cons_zero, List.getElem?_cons_succ] at d_0 d_1
  try simp only at hk hn
  have h60 : cs.length ≤ 60 := flOk_flips hok
  obtain ⟨rfl, hm⟩ := HB.out.2 hk
  obtain ⟨t, ht⟩ : ∃ t, t = cs ++ [((cx, cy) : Cl)] := ⟨_, rfl⟩
  have hy' : y = (rows, f, m, t) := by rw [hy, hm, ht]
  have H8 : Hid ((cs.length + 1) * 16 ≤ 140737488355328) := Lib.hid (by omega)
  have HM : Hid (cs.length + 1 ≤ maxLen) := Lib.hid (by unfold maxLen; omega)
  have hz0 : ((cs.length : Int) == 60) = false := by rw [beq_eq_false_iff_ne]; omega
  have HT := Lib.hid ht; have HY := Lib.hid hy'; clear ht hn h60 hm HB hy hy'
  rw [show floorOk rows f n cs = true from hok]
  go_wp2_with fail
  refine (CF _ _ (h3.below RE.stays B2)).mono ?_
  rintro e w3 ⟨D, d, rfl, oM, hb3⟩
  have B3 := B2.tr hb3
  have bR3 := bR2.bl hb3
  have bO3 := bO2.bl hb3
  have bC3 := bC2.bl hb3
  have oF3 := oF2.below hb3
  clear c_0 c_1 c_2 c_3 y_0 y_1 y_2 y_3 d_0 d_1
  have y_0 := bO3.cell 0
  have y_1 := bO3.cell 1
  have y_2 := bO3.cell 2
  have y_3 := bO3.cell 3
  simp only [List.getElem?_toArray, List.getElem?_cons_zero, List.getElem?_cons_succ] at y_0 y_1 y_2 y_3
  have d_0 := bC3.cell 0
  have d_1 := bC3.cell 1
  simp only [List.getElem?_toArray, List.getElem?_cons_zero, List.getElem?_cons_succ] at d_0 d_1
  have hap : ∀ q, (Value.slice C2 f.length e2).ownBlock = some q → (Value.slice D m.length d).ownBlock ≠ some q := fun q hq => oF2.b.early oM (Nat.le_refl _) hq
  have oN3 : OwnFl w.heap.size w3 (.slice C1 rows.length e1) (.slice C2 f.length e2) (.slice D m.length d) (.slice C4 cs.length e4) (rows, f, m, cs) := ⟨oF3.a, oF3.b, oM.mono B2.size, oF3.d, hap⟩
  have fO : ∀ j, w3.frozen? ⟨w1.heap.size, j, none⟩ = false := fun j => bO3.frozen j
  have hgg := gr_set (World.grownBy.refl w3 (some w1.heap.size)) 2 (.slice D m.length d)
  have bO5 := bO3.st 2 (.slice D m.length d) #[.slice C1 rows.length e1, .slice C2 f.length e2, .slice D m.length d, .slice C4 cs.length e4] rfl
  have oN5 := OwnFl.rowI oN3 bO3 (by decide) (by decide) (by decide) hgg
  have bR5 := bR3.grown hgg (by simp; omega)
  have B5 := B3.grown hgg B3.size (fun k hk => by injection hk with hk; subst hk; exact hgO)
  go_wp2_with (first | (at_builtin; go_must (refine wpList_app1b (enc := ePair) rowCell lenCell oneCell B5 oN5.d ((cx, cy) : Cl) H8.out HM.out (by simp) rfl _ _ rfl rfl rfl ?_); intro v4 w4 own4 hb4 hg4 hd4; rw [← HT.out] at own4; obtain ⟨E4, q4, rfl, hc4, hm4⟩ := own4.form; have oG := (oN5.alloc (.cells (ePair (cx, cy)).toArray 44)).newD own4 hg4; have bO4 := (bO5.alloc (.cells (ePair (cx, cy)).toArray 44)).grown hg4 (fun e => (oN5.d.apart bO5 (by decide)) e.symm); have bR4 := (bR5.alloc (.cells (ePair (cx, cy)).toArray 44)).grown hg4 (fun e => (oN5.d.apart bR5 (by decide)) e.symm); have u_0 := bO4.cell 0; have u_1 := bO4.cell 1; have u_2 := bO4.cell 2; have u_3 := bO4.cell 3; simp only [List.getElem?_toArray, List.getElem?_cons_zero, List.getElem?_cons_succ] at u_0 u_1 u_2 u_3; have fO4 : ∀ j, w4.frozen? ⟨w1.heap.size, j, none⟩ = false := (fun j => bO4.frozen j); have hg5 := gr_set (World.grownBy.refl w4 (some w1.heap.size)) 3 (.slice E4 t.length q4); have bR6 := bR4.grown hg5 (by simp; omega); have oG6 := OwnFl.rowI oG bO4 (by decide) (by decide) (by decide) hg5; have B6 := hb4.grown hg5 hb4.size (fun k hk => by injection hk with hk; subst hk; exact hgO)) | (refine wpList_storeRow rfl 34 _ _ rfl gR #[.slice C1 rows.length e1, .slice C2 f.length e2, .slice D m.length d, .slice E4 t.length q4] rfl rfl _ _ bR6 (by kernel_rfl) rfl (by simp [Value.oneCell']) ?_; intro wE bE hgE))
  have oE : OwnFl w.heap.size wE _ _ _ _ _ := OwnFl.rowI oG6 bR6 (by decide) (by decide) (by decide) hgE
  have BE := B6.grown hgE B6.size (fun k hk => by injection hk with hk; subst hk; exact hgR)
  have q_0 := bE.cell 0
  have q_1 := bE.cell 1
  have q_2 := bE.cell 2
  have q_3 := bE.cell 3
  simp only [List.getElem?_toArray, List.getElem?_cons_zero, List.getElem?_cons_succ] at q_0 q_1 q_2 q_3
  refine bodyPost_ret (v := .tuple #[.agg #[.slice C1 rows.length e1, .slice C2 f.length e2, .slice D m.length d, .slice E4 t.length q4], .bool true]) (by simp [results, Try.results22, go_sem, q_0, q_1, q_2, q_3]) rfl (by rw [HY.out]; exact ⟨C1, e1, C2, e2, D, d, E4, q4, rfl, oE, BE⟩)
theorem doS_any (v1 v2 v3 v4 : Value) (x : Fl) (cx cy : Int) (w : World) (h1 : Rd 1 RInt w v1 x.1) (h2 : Rd 3 RDom w v2 x.2.1) (h3 : Rd 3 RDom w v3 x.2.2.1) (h4 : Rd 2 RPair w v4 x.2.2.2) (hs : Small4 x) :
    Calls Try.prog 22 #[.agg #[v1, v2, v3, v4], .agg #[.int .i64 cx, .int .i64 cy]] w (RetFlB (doFl x (cx, cy)).1 (doFl x (cx, cy)).2 w) := by
  unfold doFl
  by_cases h : flOk x = true ∧ x.2.2.2.length ≠ 60 ∧ kindOf x.2.2.1 (cx, cy) ≠ 0
  · rw [if_pos h]; exact doS_yes v1 v2 v3 v4 x cx cy w h1 h2 h3 h4 hs h.1 h.2.1 h.2.2
  · rw [if_neg h]
    refine doS_no v1 v2 v3 v4 x cx cy w h1 h2 h3 h4 hs ?_
    rcases q : flOk x with _ | _
    · exact .inl rfl
    · by_cases q2 : x.2.2.2.length = 60
      · exact .inr (.inl ⟨rfl, q2⟩)
      · by_cases q3 : kindOf x.2.2.1 (cx, cy) = 0
        · exact .inr (.inr ⟨rfl, q2, q3⟩)
        · exact absurd ⟨q, q2, q3⟩ h
end Go.Proofs.Ytnlljkdfapllpaa
