/- ShortenFlips of both sides: the walks. Conditions: sizes; the library's table of powers, as its text lays it. -/
import Derived.Test.YtbjfooibiioooaaGreatDoorZWayS
import Derived.Test.YtbjfooibiioooaaGreatDoorZFlCopy
import Derived.Test.YtbjfooibiioooaaGreatDoorZFlCopyI
import Derived.Test.YtbjfooibiioooaaGreatDoorZFloorOkL
import Derived.Test.YtbjfooibiioooaaGreatDoorZK8
namespace Go.Proofs.YtbjfooibiioooaaGreatDoor
open Go.ChangeShapes Go.WideShapes Go.ChangeAt Go.RowKit
set_option linter.unusedVariables false
set_option linter.unusedSimpArgs false
theorem OwnFl.newD {B : Nat} {w w' : World} {v1 v2 v3 v4 u4 : Value} {r : List Int} {f n : List Dm} {c c' : List Cl} (h : OwnFl B w v1 v2 v3 v4 (r, f, n, c)) (o : OwnL 104 2 ePair B w' u4 c') (hg : w.grownBy w' v4.ownBlock) : OwnFl B w' v1 v2 v3 u4 (r, f, n, c') :=
 ⟨h.a.grownS (Grown.of hg) (fun g q => h.a.twoE h.d (by decide) q), h.b.grownS (Grown.of hg) (fun g q => h.b.twoE h.d (by decide) q), h.c.grownS (Grown.of hg) (fun g q => h.c.twoE h.d (by decide) q), o, h.ap⟩
noncomputable def shFl (x : Fl) : Fl := if flOk x = true ∧ wayB x.1 x.2.1 x.2.2.1 = true then (x.1, x.2.1, x.2.2.1, wayL x.1 x.2.1 x.2.2.1) else x
noncomputable def shB (x : Fl) : Bool := flOk x && wayB x.1 x.2.1 x.2.2.1
set_option maxHeartbeats 4000000 in
set_option maxRecDepth 100000 in
theorem shortI_no (v1 v2 v3 v4 : Value) (x : Fl) (w : World) (h1 : Rd 1 RInt w v1 x.1) (h2 : Rd 3 RDom w v2 x.2.1) (h3 : Rd 3 RDom w v3 x.2.2.1) (h4 : Rd 2 RPair w v4 x.2.2.2) (hs : Small4 x) (ht : Tab w)
    (hno : flOk x = false ∨ (flOk x = true ∧ wayB x.1 x.2.1 x.2.2.1 = false)) : Calls Tryz.prog 11 #[.agg #[v1, v2, v3, v4]] w (RetFlB x false w) := by
 have HT := Lib.hid ht; clear ht
 have hs4 := hs
 obtain ⟨rows, f, n, cs⟩ := x
 simp only at h1 h2 h3 h4
 obtain ⟨s1, s2, s3, s4⟩ := hs
 simp only at s1 s2 s3 s4
 obtain ⟨A1, c1, rfl, hc1, hm1⟩ := h1.form
 obtain ⟨A2, c2, rfl, hc2, hm2⟩ := h2.form
 obtain ⟨A3, c3, rfl, hc3, hm3⟩ := h3.form
 obtain ⟨A4, c4, rfl, hc4, hm4⟩ := h4.form
 have B0 := ((Below.refl w.heap.size w).al (.cells #[.slice A1 rows.length c1, .slice A2 f.length c2, .slice A3 n.length c3, .slice A4 cs.length c4] 34)).al (.cells #[.slice none 0 0, .slice none 0 0, .slice none 0 0, .slice none 0 0] 34)
 have bP := (Blk.new_ w 34 #[.slice A1 rows.length c1, .slice A2 f.length c2, .slice A3 n.length c3, .slice A4 cs.length c4]).alloc (.cells #[.slice none 0 0, .slice none 0 0, .slice none 0 0, .slice none 0 0] 34)
 have bR := Blk.new2 (w.alloc (.cells #[.slice A1 rows.length c1, .slice A2 f.length c2, .slice A3 n.length c3, .slice A4 cs.length c4] 34)) 34 #[.slice none 0 0, .slice none 0 0, .slice none 0 0, .slice none 0 0] (w.heap.size + 1) (by simp)
 go_enter Tryz.func11, Tryz.ntmps11
 go_wp2_with fail
 obtain ⟨W0, hW0⟩ : ∃ W0, W0 = (w.alloc (.cells #[.slice A1 rows.length c1, .slice A2 f.length c2, .slice A3 n.length c3, .slice A4 cs.length c4] 34)).alloc (.cells #[.slice none 0 0, .slice none 0 0, .slice none 0 0, .slice none 0 0] 34) := ⟨_, rfl⟩
 obtain ⟨gP, hgP⟩ : ∃ g, g = w.heap.size := ⟨_, rfl⟩
 obtain ⟨gR, hgR'⟩ : ∃ g, g = w.heap.size + 1 := ⟨_, rfl⟩
 rw [← hW0] at B0 bP bR ⊢
 rw [← hgR'] at bR ⊢
 rw [← hgP] at bP ⊢
 have hgR : w.heap.size ≤ gR := by omega
 have hPR : gP ≠ gR := by omega
 have hw0 : w.heap.size ≤ W0.heap.size := B0.size
 clear hW0 hgP hgR'
 have z_0 := bP.cell 0
 have z_1 := bP.cell 1
 have z_2 := bP.cell 2
 have z_3 := bP.cell 3
 simp only [List.getElem?_toArray, List.getElem?_cons_zero, List.getElem?_cons_succ] at z_0 z_1 z_2 z_3
 have hp0 := bP.lt
 have hr0 := bR.lt
 go_wp2_with fail
 refine (copyFlI_any _ _ _ _ (rows, f, n, cs) _ (h1.below RE.stays B0) (h2.below RE.stays B0) (h3.below RE.stays B0) (h4.below RE.stays B0) hs4).mono ?_
 rintro e w1 ⟨C1, e1, C2, e2, C3, e3, C4, e4, rfl, oF, hb1⟩
 have oF := (oF.mono hw0).alloc (.cells #[.slice none 0 0, .slice none 0 0, .slice none 0 0, .slice none 0 0] 34)
 have B1 := (B0.tr hb1).al (.cells #[.slice none 0 0, .slice none 0 0, .slice none 0 0, .slice none 0 0] 34)
 have bP1 := (bP.bl hb1).alloc (.cells #[.slice none 0 0, .slice none 0 0, .slice none 0 0, .slice none 0 0] 34)
 have bR1 := (bR.bl hb1).alloc (.cells #[.slice none 0 0, .slice none 0 0, .slice none 0 0, .slice none 0 0] 34)
 have bO := Blk.new_ w1 34 #[.slice none 0 0, .slice none 0 0, .slice none 0 0, .slice none 0 0]
 have hgO : w.heap.size ≤ w1.heap.size := (B0.tr hb1).size
 have hPl := (bP.bl hb1).lt
 have hRl := (bR.bl hb1).lt
 clear z_0 z_1 z_2 z_3
 go_wp2_with (refine wpList_storeRow rfl 34 _ _ rfl w1.heap.size #[.slice C1 rows.length e1, .slice C2 f.length e2, .slice C3 n.length e3, .slice C4 cs.length e4] rfl rfl _ _ bO (by kernel_rfl) rfl (by simp [Value.oneCell']) ?_; intro wS bS hgS; have oS := OwnFl.rowI oF bO (by decide) (by decide) (by decide) hgS; have bPS := bP1.grown hgS (by simp; omega); have bRS := bR1.grown hgS (by simp; omega); have BS := B1.grown hgS B1.size (fun k hk => by injection hk with hk; subst hk; exact hgO); have c_0 := bPS.cell 0; have c_1 := bPS.cell 1; have c_2 := bPS.cell 2; have c_3 := bPS.cell 3; simp only [List.getElem?_toArray, List.getElem?_cons_zero, List.getElem?_cons_succ] at c_0 c_1 c_2 c_3)
 refine (floorOkI_any _ _ _ _ rows f n cs _ (h1.below RE.stays BS) (h2.below RE.stays BS) (h3.below RE.stays BS) (h4.below RE.stays BS) s2).mono ?_
 rintro e w2 ⟨rfl, hb2⟩
 have B2 := BS.tr hb2
 have bR2 := bRS.bl hb2
 have bO2 := bS.bl hb2
 have bP2 := bPS.bl hb2
 have oF2 := oS.below hb2
 clear c_0 c_1 c_2 c_3
 rcases hno with hno | ⟨hok, hw⟩
 · rw [show floorOk rows f n cs = false from hno]
   have y_0 := bO2.cell 0
   have y_1 := bO2.cell 1
   have y_2 := bO2.cell 2
   have y_3 := bO2.cell 3
   simp only [List.getElem?_toArray, List.getElem?_cons_zero, List.getElem?_cons_succ] at y_0 y_1 y_2 y_3
   go_wp2_with (refine wpList_storeRow rfl 34 _ _ rfl gR #[.slice C1 rows.length e1, .slice C2 f.length e2, .slice C3 n.length e3, .slice C4 cs.length e4] rfl rfl _ _ bR2 (by kernel_rfl) rfl (by simp [Value.oneCell']) ?_; intro wE bE hgE)
   have oE : OwnFl w.heap.size wE _ _ _ _ _ := OwnFl.rowI oF2 bR2 (by decide) (by decide) (by decide) hgE
   have BE := B2.grown hgE B2.size (fun k hk => by injection hk with hk; subst hk; exact hgR)
   have q_0 := bE.cell 0
   have q_1 := bE.cell 1
   have q_2 := bE.cell 2
   have q_3 := bE.cell 3
   simp only [List.getElem?_toArray, List.getElem?_cons_zero, List.getElem?_cons_succ] at q_0 q_1 q_2 q_3
   refine bodyPost_ret (v := .tuple #[.agg #[.slice C1 rows.length e1, .slice C2 f.length e2, .slice C3 n.length e3, .slice C4 cs.length e4], .bool false]) (by simp [results, Tryz.results11, go_sem, q_0, q_1, q_2, q_3]) rfl ⟨C1, e1, C2, e2, C3, e3, C4, e4, rfl, oE, BE⟩
 · skip
   rw [show floorOk rows f n cs = true from hok]
   have c_0 := bP2.cell 0
   have c_1 := bP2.cell 1
   have c_2 := bP2.cell 2
   have c_3 := bP2.cell 3
   simp only [List.getElem?_toArray, List.getElem?_cons_zero, List.getElem?_cons_succ] at c_0 c_1 c_2 c_3
   go_wp2_with fail
   refine (wayI_any _ _ _ rows f n _ (h1.below RE.stays B2) (h2.below RE.stays B2) (h3.below RE.stays B2) (HT.out.below B2)).mono ?_
   rintro e w3 ⟨D, d, rfl, oW, hb3⟩
   have B3 := B2.tr hb3
   have bR3 := bR2.bl hb3
   have bO3 := bO2.bl hb3
   have oF3 := oF2.below hb3
   clear c_0 c_1 c_2 c_3
   rw [show wayB rows f n = false from hw]
   have y_0 := bO3.cell 0
   have y_1 := bO3.cell 1
   have y_2 := bO3.cell 2
   have y_3 := bO3.cell 3
   simp only [List.getElem?_toArray, List.getElem?_cons_zero, List.getElem?_cons_succ] at y_0 y_1 y_2 y_3
   go_wp2_with (refine wpList_storeRow rfl 34 _ _ rfl gR #[.slice C1 rows.length e1, .slice C2 f.length e2, .slice C3 n.length e3, .slice C4 cs.length e4] rfl rfl _ _ bR3 (by kernel_rfl) rfl (by simp [Value.oneCell']) ?_; intro wE bE hgE)
   have oE : OwnFl w.heap.size wE _ _ _ _ _ := OwnFl.rowI oF3 bR3 (by decide) (by decide) (by decide) hgE
   have BE := B3.grown hgE B3.size (fun k hk => by injection hk with hk; subst hk; exact hgR)
   have q_0 := bE.cell 0
   have q_1 := bE.cell 1
   have q_2 := bE.cell 2
   have q_3 := bE.cell 3
   simp only [List.getElem?_toArray, List.getElem?_cons_zero, List.getElem?_cons_succ] at q_0 q_1 q_2 q_3
   refine bodyPost_ret (v := .tuple #[.agg #[.slice C1 rows.length e1, .slice C2 f.length e2, .slice C3 n.length e3, .slice C4 cs.length e4], .bool false]) (by simp [results, Tryz.results11, go_sem, q_0, q_1, q_2, q_3]) rfl ⟨C1, e1, C2, e2, C3, e3, C4, e4, rfl, oE, BE⟩
set_option maxHeartbeats 4000000 in
set_option maxRecDepth 100000 in
theorem shortI_yes (v1 v2 v3 v4 : Value) (x : Fl) (w : World) (h1 : Rd 1 RInt w v1 x.1) (h2 : Rd 3 RDom w v2 x.2.1) (h3 : Rd 3 RDom w v3 x.2.2.1) (h4 : Rd 2 RPair w v4 x.2.2.2) (hs : Small4 x) (ht : Tab w)
    (hok : flOk x = true) (hw : wayB x.1 x.2.1 x.2.2.1 = true) : Calls Tryz.prog 11 #[.agg #[v1, v2, v3, v4]] w (RetFlB (x.1, x.2.1, x.2.2.1, wayL x.1 x.2.1 x.2.2.1) true w) := by
 have HT := Lib.hid ht; clear ht
 obtain ⟨y, hy⟩ : ∃ y, y = ((x.1, x.2.1, x.2.2.1, wayL x.1 x.2.1 x.2.2.1) : Fl) := ⟨_, rfl⟩
 rw [← hy]
 have hs4 := hs
 obtain ⟨rows, f, n, cs⟩ := x
 simp only at h1 h2 h3 h4
 obtain ⟨s1, s2, s3, s4⟩ := hs
 simp only at s1 s2 s3 s4
 obtain ⟨A1, c1, rfl, hc1, hm1⟩ := h1.form
 obtain ⟨A2, c2, rfl, hc2, hm2⟩ := h2.form
 obtain ⟨A3, c3, rfl, hc3, hm3⟩ := h3.form
 obtain ⟨A4, c4, rfl, hc4, hm4⟩ := h4.form
 have B0 := ((Below.refl w.heap.size w).al (.cells #[.slice A1 rows.length c1, .slice A2 f.length c2, .slice A3 n.length c3, .slice A4 cs.length c4] 34)).al (.cells #[.slice none 0 0, .slice none 0 0, .slice none 0 0, .slice none 0 0] 34)
 have bP := (Blk.new_ w 34 #[.slice A1 rows.length c1, .slice A2 f.length c2, .slice A3 n.length c3, .slice A4 cs.length c4]).alloc (.cells #[.slice none 0 0, .slice none 0 0, .slice none 0 0, .slice none 0 0] 34)
 have bR := Blk.new2 (w.alloc (.cells #[.slice A1 rows.length c1, .slice A2 f.length c2, .slice A3 n.length c3, .slice A4 cs.length c4] 34)) 34 #[.slice none 0 0, .slice none 0 0, .slice none 0 0, .slice none 0 0] (w.heap.size + 1) (by simp)
 go_enter Tryz.func11, Tryz.ntmps11
 go_wp2_with fail
 obtain ⟨W0, hW0⟩ : ∃ W0, W0 = (w.alloc (.cells #[.slice A1 rows.length c1, .slice A2 f.length c2, .slice A3 n.length c3, .slice A4 cs.length c4] 34)).alloc (.cells #[.slice none 0 0, .slice none 0 0, .slice none 0 0, .slice none 0 0] 34) := ⟨_, rfl⟩
 obtain ⟨gP, hgP⟩ : ∃ g, g = w.heap.size := ⟨_, rfl⟩
 obtain ⟨gR, hgR'⟩ : ∃ g, g = w.heap.size + 1 := ⟨_, rfl⟩
 rw [← hW0] at B0 bP bR ⊢
 rw [← hgR'] at bR ⊢
 rw [← hgP] at bP ⊢
 have hgR : w.heap.size ≤ gR := by omega
 have hPR : gP ≠ gR := by omega
 have hw0 : w.heap.size ≤ W0.heap.size := B0.size
 clear hW0 hgP hgR'
 have z_0 := bP.cell 0
 have z_1 := bP.cell 1
 have z_2 := bP.cell 2
 have z_3 := bP.cell 3
 simp only [List.getElem?_toArray, List.getElem?_cons_zero, List.getElem?_cons_succ] at z_0 z_1 z_2 z_3
 have hp0 := bP.lt
 have hr0 := bR.lt
 go_wp2_with fail
 refine (copyFlI_any _ _ _ _ (rows, f, n, cs) _ (h1.below RE.stays B0) (h2.below RE.stays B0) (h3.below RE.stays B0) (h4.below RE.stays B0) hs4).mono ?_
 rintro e w1 ⟨C1, e1, C2, e2, C3, e3, C4, e4, rfl, oF, hb1⟩
 have oF := (oF.mono hw0).alloc (.cells #[.slice none 0 0, .slice none 0 0, .slice none 0 0, .slice none 0 0] 34)
 have B1 := (B0.tr hb1).al (.cells #[.slice none 0 0, .slice none 0 0, .slice none 0 0, .slice none 0 0] 34)
 have bP1 := (bP.bl hb1).alloc (.cells #[.slice none 0 0, .slice none 0 0, .slice none 0 0, .slice none 0 0] 34)
 have bR1 := (bR.bl hb1).alloc (.cells #[.slice none 0 0, .slice none 0 0, .slice none 0 0, .slice none 0 0] 34)
 have bO := Blk.new_ w1 34 #[.slice none 0 0, .slice none 0 0, .slice none 0 0, .slice none 0 0]
 have hgO : w.heap.size ≤ w1.heap.size := (B0.tr hb1).size
 have hPl := (bP.bl hb1).lt
 have hRl := (bR.bl hb1).lt
 clear z_0 z_1 z_2 z_3
 go_wp2_with (refine wpList_storeRow rfl 34 _ _ rfl w1.heap.size #[.slice C1 rows.length e1, .slice C2 f.length e2, .slice C3 n.length e3, .slice C4 cs.length e4] rfl rfl _ _ bO (by kernel_rfl) rfl (by simp [Value.oneCell']) ?_; intro wS bS hgS; have oS := OwnFl.rowI oF bO (by decide) (by decide) (by decide) hgS; have bPS := bP1.grown hgS (by simp; omega); have bRS := bR1.grown hgS (by simp; omega); have BS := B1.grown hgS B1.size (fun k hk => by injection hk with hk; subst hk; exact hgO); have c_0 := bPS.cell 0; have c_1 := bPS.cell 1; have c_2 := bPS.cell 2; have c_3 := bPS.cell 3; simp only [List.getElem?_toArray, List.getElem?_cons_zero, List.getElem?_cons_succ] at c_0 c_1 c_2 c_3)
 refine (floorOkI_any _ _ _ _ rows f n cs _ (h1.below RE.stays BS) (h2.below RE.stays BS) (h3.below RE.stays BS) (h4.below RE.stays BS) s2).mono ?_
 rintro e w2 ⟨rfl, hb2⟩
 have B2 := BS.tr hb2
 have bR2 := bRS.bl hb2
 have bO2 := bS.bl hb2
 have bP2 := bPS.bl hb2
 have oF2 := oS.below hb2
 clear c_0 c_1 c_2 c_3
 rw [show floorOk rows f n cs = true from hok]
 have c_0 := bP2.cell 0
 have c_1 := bP2.cell 1
 have c_2 := bP2.cell 2
 have c_3 := bP2.cell 3
 simp only [List.getElem?_toArray, List.getElem?_cons_zero, List.getElem?_cons_succ] at c_0 c_1 c_2 c_3
 go_wp2_with fail
 refine (wayI_any _ _ _ rows f n _ (h1.below RE.stays B2) (h2.below RE.stays B2) (h3.below RE.stays B2) (HT.out.below B2)).mono ?_
 rintro e w3 ⟨D, d, rfl, oW, hb3⟩
 have B3 := B2.tr hb3
 have bR3 := bR2.bl hb3
 have bO3 := bO2.bl hb3
 have oF3 := oF2.below hb3
 clear c_0 c_1 c_2 c_3
 rw [show wayB rows f n = true from hw]
 obtain ⟨t, ht⟩ : ∃ t, t = wayL rows f n := ⟨_, rfl⟩
 rw [← ht] at oW ⊢
 have hy' : y = (rows, f, n, t) := by rw [hy, ht]
 have HY := Lib.hid hy'
 clear hy hy' ht
 have y_0 := bO3.cell 0
 have y_1 := bO3.cell 1
 have y_2 := bO3.cell 2
 have y_3 := bO3.cell 3
 simp only [List.getElem?_toArray, List.getElem?_cons_zero, List.getElem?_cons_succ] at y_0 y_1 y_2 y_3
 have fO : ∀ j, w3.frozen? ⟨w1.heap.size, j, none⟩ = false := fun j => bO3.frozen j
 have oG := oF3.newD (oW.mono B2.size) (World.grownBy.refl w3 _)
 have hgh := gr_set (World.grownBy.refl w3 (some w1.heap.size)) 3 (.slice D t.length d)
 have bO4 := bO3.st 3 (.slice D t.length d) #[.slice C1 rows.length e1, .slice C2 f.length e2, .slice C3 n.length e3, .slice D t.length d] rfl
 have oF4 := OwnFl.rowI oG bO3 (by decide) (by decide) (by decide) hgh
 have bR4 := bR3.grown hgh (by simp; omega)
 have B4 := B3.grown hgh B3.size (fun k hk => by injection hk with hk; subst hk; exact hgO)
 go_wp2_with (refine wpList_storeRow rfl 34 _ _ rfl gR #[.slice C1 rows.length e1, .slice C2 f.length e2, .slice C3 n.length e3, .slice D t.length d] rfl rfl _ _ bR4 (by kernel_rfl) rfl (by simp [Value.oneCell']) ?_; intro wE bE hgE)
 have oE : OwnFl w.heap.size wE _ _ _ _ _ := OwnFl.rowI oF4 bR4 (by decide) (by decide) (by decide) hgE
 have BE := B4.grown hgE B4.size (fun k hk => by injection hk with hk; subst hk; exact hgR)
 have q_0 := bE.cell 0
 have q_1 := bE.cell 1
 have q_2 := bE.cell 2
 have q_3 := bE.cell 3
 simp only [List.getElem?_toArray, List.getElem?_cons_zero, List.getElem?_cons_succ] at q_0 q_1 q_2 q_3
 refine bodyPost_ret (v := .tuple #[.agg #[.slice C1 rows.length e1, .slice C2 f.length e2, .slice C3 n.length e3, .slice D t.length d], .bool true]) (by simp [results, Tryz.results11, go_sem, q_0, q_1, q_2, q_3]) rfl (by rw [HY.out]; exact ⟨C1, e1, C2, e2, C3, e3, D, d, rfl, oE, BE⟩)
set_option maxHeartbeats 4000000 in
set_option maxRecDepth 100000 in
theorem shortS_no (v1 v2 v3 v4 : Value) (x : Fl) (w : World) (h1 : Rd 1 RInt w v1 x.1) (h2 : Rd 3 RDom w v2 x.2.1) (h3 : Rd 3 RDom w v3 x.2.2.1) (h4 : Rd 2 RPair w v4 x.2.2.2) (hs : Small4 x)
    (hno : flOk x = false ∨ (flOk x = true ∧ wayB x.1 x.2.1 x.2.2.1 = false)) : Calls Tryz.prog 9 #[.agg #[v1, v2, v3, v4]] w (RetFlB x false w) := by
 have hs4 := hs
 obtain ⟨rows, f, n, cs⟩ := x
 simp only at h1 h2 h3 h4
 obtain ⟨s1, s2, s3, s4⟩ := hs
 simp only at s1 s2 s3 s4
 obtain ⟨A1, c1, rfl, hc1, hm1⟩ := h1.form
 obtain ⟨A2, c2, rfl, hc2, hm2⟩ := h2.form
 obtain ⟨A3, c3, rfl, hc3, hm3⟩ := h3.form
 obtain ⟨A4, c4, rfl, hc4, hm4⟩ := h4.form
 have B0 := ((Below.refl w.heap.size w).al (.cells #[.slice A1 rows.length c1, .slice A2 f.length c2, .slice A3 n.length c3, .slice A4 cs.length c4] 34)).al (.cells #[.slice none 0 0, .slice none 0 0, .slice none 0 0, .slice none 0 0] 34)
 have bP := (Blk.new_ w 34 #[.slice A1 rows.length c1, .slice A2 f.length c2, .slice A3 n.length c3, .slice A4 cs.length c4]).alloc (.cells #[.slice none 0 0, .slice none 0 0, .slice none 0 0, .slice none 0 0] 34)
 have bR := Blk.new2 (w.alloc (.cells #[.slice A1 rows.length c1, .slice A2 f.length c2, .slice A3 n.length c3, .slice A4 cs.length c4] 34)) 34 #[.slice none 0 0, .slice none 0 0, .slice none 0 0, .slice none 0 0] (w.heap.size + 1) (by simp)
 go_enter Tryz.func9, Tryz.ntmps9
 go_wp2_with fail
 obtain ⟨W0, hW0⟩ : ∃ W0, W0 = (w.alloc (.cells #[.slice A1 rows.length c1, .slice A2 f.length c2, .slice A3 n.length c3, .slice A4 cs.length c4] 34)).alloc (.cells #[.slice none 0 0, .slice none 0 0, .slice none 0 0, .slice none 0 0] 34) := ⟨_, rfl⟩
 obtain ⟨gP, hgP⟩ : ∃ g, g = w.heap.size := ⟨_, rfl⟩
 obtain ⟨gR, hgR'⟩ : ∃ g, g = w.heap.size + 1 := ⟨_, rfl⟩
 rw [← hW0] at B0 bP bR ⊢
 rw [← hgR'] at bR ⊢
 rw [← hgP] at bP ⊢
 have hgR : w.heap.size ≤ gR := by omega
 have hPR : gP ≠ gR := by omega
 have hw0 : w.heap.size ≤ W0.heap.size := B0.size
 clear hW0 hgP hgR'
 have z_0 := bP.cell 0
 have z_1 := bP.cell 1
 have z_2 := bP.cell 2
 have z_3 := bP.cell 3
 simp only [List.getElem?_toArray, List.getElem?_cons_zero, List.getElem?_cons_succ] at z_0 z_1 z_2 z_3
 have hp0 := bP.lt
 have hr0 := bR.lt
 go_wp2_with fail
 refine (copyFlS_any _ _ _ _ (rows, f, n, cs) _ (h1.below RE.stays B0) (h2.below RE.stays B0) (h3.below RE.stays B0) (h4.below RE.stays B0) hs4).mono ?_
 rintro e w1 ⟨C1, e1, C2, e2, C3, e3, C4, e4, rfl, oF, hb1⟩
 have oF := (oF.mono hw0).alloc (.cells #[.slice none 0 0, .slice none 0 0, .slice none 0 0, .slice none 0 0] 34)
 have B1 := (B0.tr hb1).al (.cells #[.slice none 0 0, .slice none 0 0, .slice none 0 0, .slice none 0 0] 34)
 have bP1 := (bP.bl hb1).alloc (.cells #[.slice none 0 0, .slice none 0 0, .slice none 0 0, .slice none 0 0] 34)
 have bR1 := (bR.bl hb1).alloc (.cells #[.slice none 0 0, .slice none 0 0, .slice none 0 0, .slice none 0 0] 34)
 have bO := Blk.new_ w1 34 #[.slice none 0 0, .slice none 0 0, .slice none 0 0, .slice none 0 0]
 have hgO : w.heap.size ≤ w1.heap.size := (B0.tr hb1).size
 have hPl := (bP.bl hb1).lt
 have hRl := (bR.bl hb1).lt
 clear z_0 z_1 z_2 z_3
 go_wp2_with (refine wpList_storeRow rfl 34 _ _ rfl w1.heap.size #[.slice C1 rows.length e1, .slice C2 f.length e2, .slice C3 n.length e3, .slice C4 cs.length e4] rfl rfl _ _ bO (by kernel_rfl) rfl (by simp [Value.oneCell']) ?_; intro wS bS hgS; have oS := OwnFl.rowI oF bO (by decide) (by decide) (by decide) hgS; have bPS := bP1.grown hgS (by simp; omega); have bRS := bR1.grown hgS (by simp; omega); have BS := B1.grown hgS B1.size (fun k hk => by injection hk with hk; subst hk; exact hgO); have c_0 := bPS.cell 0; have c_1 := bPS.cell 1; have c_2 := bPS.cell 2; have c_3 := bPS.cell 3; simp only [List.getElem?_toArray, List.getElem?_cons_zero, List.getElem?_cons_succ] at c_0 c_1 c_2 c_3)
 refine (floorOkS_any _ _ _ _ rows f n cs _ (h1.below RE.stays BS) (h2.below RE.stays BS) (h3.below RE.stays BS) (h4.below RE.stays BS) s2).mono ?_
 rintro e w2 ⟨rfl, hb2⟩
 have B2 := BS.tr hb2
 have bR2 := bRS.bl hb2
 have bO2 := bS.bl hb2
 have bP2 := bPS.bl hb2
 have oF2 := oS.below hb2
 clear c_0 c_1 c_2 c_3
 rcases hno with hno | ⟨hok, hw⟩
 · rw [show floorOk rows f n cs = false from hno]
   have y_0 := bO2.cell 0
   have y_1 := bO2.cell 1
   have y_2 := bO2.cell 2
   have y_3 := bO2.cell 3
   simp only [List.getElem?_toArray, List.getElem?_cons_zero, List.getElem?_cons_succ] at y_0 y_1 y_2 y_3
   go_wp2_with (refine wpList_storeRow rfl 34 _ _ rfl gR #[.slice C1 rows.length e1, .slice C2 f.length e2, .slice C3 n.length e3, .slice C4 cs.length e4] rfl rfl _ _ bR2 (by kernel_rfl) rfl (by simp [Value.oneCell']) ?_; intro wE bE hgE)
   have oE : OwnFl w.heap.size wE _ _ _ _ _ := OwnFl.rowI oF2 bR2 (by decide) (by decide) (by decide) hgE
   have BE := B2.grown hgE B2.size (fun k hk => by injection hk with hk; subst hk; exact hgR)
   have q_0 := bE.cell 0
   have q_1 := bE.cell 1
   have q_2 := bE.cell 2
   have q_3 := bE.cell 3
   simp only [List.getElem?_toArray, List.getElem?_cons_zero, List.getElem?_cons_succ] at q_0 q_1 q_2 q_3
   refine bodyPost_ret (v := .tuple #[.agg #[.slice C1 rows.length e1, .slice C2 f.length e2, .slice C3 n.length e3, .slice C4 cs.length e4], .bool false]) (by simp [results, Tryz.results9, go_sem, q_0, q_1, q_2, q_3]) rfl ⟨C1, e1, C2, e2, C3, e3, C4, e4, rfl, oE, BE⟩
 · skip
   rw [show floorOk rows f n cs = true from hok]
   have c_0 := bP2.cell 0
   have c_1 := bP2.cell 1
   have c_2 := bP2.cell 2
   have c_3 := bP2.cell 3
   simp only [List.getElem?_toArray, List.getElem?_cons_zero, List.getElem?_cons_succ] at c_0 c_1 c_2 c_3
   go_wp2_with fail
   refine (wayS_any _ _ _ rows f n _ (h1.below RE.stays B2) (h2.below RE.stays B2) (h3.below RE.stays B2) ).mono ?_
   rintro e w3 ⟨D, d, rfl, oW, hb3⟩
   have B3 := B2.tr hb3
   have bR3 := bR2.bl hb3
   have bO3 := bO2.bl hb3
   have oF3 := oF2.below hb3
   clear c_0 c_1 c_2 c_3
   rw [show wayB rows f n = false from hw]
   have y_0 := bO3.cell 0
   have y_1 := bO3.cell 1
   have y_2 := bO3.cell 2
   have y_3 := bO3.cell 3
   simp only [List.getElem?_toArray, List.getElem?_cons_zero, List.getElem?_cons_succ] at y_0 y_1 y_2 y_3
   go_wp2_with (refine wpList_storeRow rfl 34 _ _ rfl gR #[.slice C1 rows.length e1, .slice C2 f.length e2, .slice C3 n.length e3, .slice C4 cs.length e4] rfl rfl _ _ bR3 (by kernel_rfl) rfl (by simp [Value.oneCell']) ?_; intro wE bE hgE)
   have oE : OwnFl w.heap.size wE _ _ _ _ _ := OwnFl.rowI oF3 bR3 (by decide) (by decide) (by decide) hgE
   have BE := B3.grown hgE B3.size (fun k hk => by injection hk with hk; subst hk; exact hgR)
   have q_0 := bE.cell 0
   have q_1 := bE.cell 1
   have q_2 := bE.cell 2
   have q_3 := bE.cell 3
   simp only [List.getElem?_toArray, List.getElem?_cons_zero, List.getElem?_cons_succ] at q_0 q_1 q_2 q_3
   refine bodyPost_ret (v := .tuple #[.agg #[.slice C1 rows.length e1, .slice C2 f.length e2, .slice C3 n.length e3, .slice C4 cs.length e4], .bool false]) (by simp [results, Tryz.results9, go_sem, q_0, q_1, q_2, q_3]) rfl ⟨C1, e1, C2, e2, C3, e3, C4, e4, rfl, oE, BE⟩
set_option maxHeartbeats 4000000 in
set_option maxRecDepth 100000 in
theorem shortS_yes (v1 v2 v3 v4 : Value) (x : Fl) (w : World) (h1 : Rd 1 RInt w v1 x.1) (h2 : Rd 3 RDom w v2 x.2.1) (h3 : Rd 3 RDom w v3 x.2.2.1) (h4 : Rd 2 RPair w v4 x.2.2.2) (hs : Small4 x)
    (hok : flOk x = true) (hw : wayB x.1 x.2.1 x.2.2.1 = true) : Calls Tryz.prog 9 #[.agg #[v1, v2, v3, v4]] w (RetFlB (x.1, x.2.1, x.2.2.1, wayL x.1 x.2.1 x.2.2.1) true w) := by
 obtain ⟨y, hy⟩ : ∃ y, y = ((x.1, x.2.1, x.2.2.1, wayL x.1 x.2.1 x.2.2.1) : Fl) := ⟨_, rfl⟩
 rw [← hy]
 have hs4 := hs
 obtain ⟨rows, f, n, cs⟩ := x
 simp only at h1 h2 h3 h4
 obtain ⟨s1, s2, s3, s4⟩ := hs
 simp only at s1 s2 s3 s4
 obtain ⟨A1, c1, rfl, hc1, hm1⟩ := h1.form
 obtain ⟨A2, c2, rfl, hc2, hm2⟩ := h2.form
 obtain ⟨A3, c3, rfl, hc3, hm3⟩ := h3.form
 obtain ⟨A4, c4, rfl, hc4, hm4⟩ := h4.form
 have B0 := ((Below.refl w.heap.size w).al (.cells #[.slice A1 rows.length c1, .slice A2 f.length c2, .slice A3 n.length c3, .slice A4 cs.length c4] 34)).al (.cells #[.slice none 0 0, .slice none 0 0, .slice none 0 0, .slice none 0 0] 34)
 have bP := (Blk.new_ w 34 #[.slice A1 rows.length c1, .slice A2 f.length c2, .slice A3 n.length c3, .slice A4 cs.length c4]).alloc (.cells #[.slice none 0 0, .slice none 0 0, .slice none 0 0, .slice none 0 0] 34)
 have bR := Blk.new2 (w.alloc (.cells #[.slice A1 rows.length c1, .slice A2 f.length c2, .slice A3 n.length c3, .slice A4 cs.length c4] 34)) 34 #[.slice none 0 0, .slice none 0 0, .slice none 0 0, .slice none 0 0] (w.heap.size + 1) (by simp)
 go_enter Tryz.func9, Tryz.ntmps9
 go_wp2_with fail
 obtain ⟨W0, hW0⟩ : ∃ W0, W0 = (w.alloc (.cells #[.slice A1 rows.length c1, .slice A2 f.length c2, .slice A3 n.length c3, .slice A4 cs.length c4] 34)).alloc (.cells #[.slice none 0 0, .slice none 0 0, .slice none 0 0, .slice none 0 0] 34) := ⟨_, rfl⟩
 obtain ⟨gP, hgP⟩ : ∃ g, g = w.heap.size := ⟨_, rfl⟩
 obtain ⟨gR, hgR'⟩ : ∃ g, g = w.heap.size + 1 := ⟨_, rfl⟩
 rw [← hW0] at B0 bP bR ⊢
 rw [← hgR'] at bR ⊢
 rw [← hgP] at bP ⊢
 have hgR : w.heap.size ≤ gR := by omega
 have hPR : gP ≠ gR := by omega
 have hw0 : w.heap.size ≤ W0.heap.size := B0.size
 clear hW0 hgP hgR'
 have z_0 := bP.cell 0
 have z_1 := bP.cell 1
 have z_2 := bP.cell 2
 have z_3 := bP.cell 3
 simp only [List.getElem?_toArray, List.getElem?_cons_zero, List.getElem?_cons_succ] at z_0 z_1 z_2 z_3
 have hp0 := bP.lt
 have hr0 := bR.lt
 go_wp2_with fail
 refine (copyFlS_any _ _ _ _ (rows, f, n, cs) _ (h1.below RE.stays B0) (h2.below RE.stays B0) (h3.below RE.stays B0) (h4.below RE.stays B0) hs4).mono ?_
 rintro e w1 ⟨C1, e1, C2, e2, C3, e3, C4, e4, rfl, oF, hb1⟩
 have oF := (oF.mono hw0).alloc (.cells #[.slice none 0 0, .slice none 0 0, .slice none 0 0, .slice none 0 0] 34)
 have B1 := (B0.tr hb1).al (.cells #[.slice none 0 0, .slice none 0 0, .slice none 0 0, .slice none 0 0] 34)
 have bP1 := (bP.bl hb1).alloc (.cells #[.slice none 0 0, .slice none 0 0, .slice none 0 0, .slice none 0 0] 34)
 have bR1 := (bR.bl hb1).alloc (.cells #[.slice none 0 0, .slice none 0 0, .slice none 0 0, .slice none 0 0] 34)
 have bO := Blk.new_ w1 34 #[.slice none 0 0, .slice none 0 0, .slice none 0 0, .slice none 0 0]
 have hgO : w.heap.size ≤ w1.heap.size := (B0.tr hb1).size
 have hPl := (bP.bl hb1).lt
 have hRl := (bR.bl hb1).lt
 clear z_0 z_1 z_2 z_3
 go_wp2_with (refine wpList_storeRow rfl 34 _ _ rfl w1.heap.size #[.slice C1 rows.length e1, .slice C2 f.length e2, .slice C3 n.length e3, .slice C4 cs.length e4] rfl rfl _ _ bO (by kernel_rfl) rfl (by simp [Value.oneCell']) ?_; intro wS bS hgS; have oS := OwnFl.rowI oF bO (by decide) (by decide) (by decide) hgS; have bPS := bP1.grown hgS (by simp; omega); have bRS := bR1.grown hgS (by simp; omega); have BS := B1.grown hgS B1.size (fun k hk => by injection hk with hk; subst hk; exact hgO); have c_0 := bPS.cell 0; have c_1 := bPS.cell 1; have c_2 := bPS.cell 2; have c_3 := bPS.cell 3; simp only [List.getElem?_toArray, List.getElem?_cons_zero, List.getElem?_cons_succ] at c_0 c_1 c_2 c_3)
 refine (floorOkS_any _ _ _ _ rows f n cs _ (h1.below RE.stays BS) (h2.below RE.stays BS) (h3.below RE.stays BS) (h4.below RE.stays BS) s2).mono ?_
 rintro e w2 ⟨rfl, hb2⟩
 have B2 := BS.tr hb2
 have bR2 := bRS.bl hb2
 have bO2 := bS.bl hb2
 have bP2 := bPS.bl hb2
 have oF2 := oS.below hb2
 clear c_0 c_1 c_2 c_3
 rw [show floorOk rows f n cs = true from hok]
 have c_0 := bP2.cell 0
 have c_1 := bP2.cell 1
 have c_2 := bP2.cell 2
 have c_3 := bP2.cell 3
 simp only [List.getElem?_toArray, List.getElem?_cons_zero, List.getElem?_cons_succ] at c_0 c_1 c_2 c_3
 go_wp2_with fail
 refine (wayS_any _ _ _ rows f n _ (h1.below RE.stays B2) (h2.below RE.stays B2) (h3.below RE.stays B2) ).mono ?_
 rintro e w3 ⟨D, d, rfl, oW, hb3⟩
 have B3 := B2.tr hb3
 have bR3 := bR2.bl hb3
 have bO3 := bO2.bl hb3
 have oF3 := oF2.below hb3
 clear c_0 c_1 c_2 c_3
 rw [show wayB rows f n = true from hw]
 obtain ⟨t, ht⟩ : ∃ t, t = wayL rows f n := ⟨_, rfl⟩
 rw [← ht] at oW ⊢
 have hy' : y = (rows, f, n, t) := by rw [hy, ht]
 have HY := Lib.hid hy'
 clear hy hy' ht
 have y_0 := bO3.cell 0
 have y_1 := bO3.cell 1
 have y_2 := bO3.cell 2
 have y_3 := bO3.cell 3
 simp only [List.getElem?_toArray, List.getElem?_cons_zero, List.getElem?_cons_succ] at y_0 y_1 y_2 y_3
 have fO : ∀ j, w3.frozen? ⟨w1.heap.size, j, none⟩ = false := fun j => bO3.frozen j
 have oG := oF3.newD (oW.mono B2.size) (World.grownBy.refl w3 _)
 have hgh := gr_set (World.grownBy.refl w3 (some w1.heap.size)) 3 (.slice D t.length d)
 have bO4 := bO3.st 3 (.slice D t.length d) #[.slice C1 rows.length e1, .slice C2 f.length e2, .slice C3 n.length e3, .slice D t.length d] rfl
 have oF4 := OwnFl.rowI oG bO3 (by decide) (by decide) (by decide) hgh
 have bR4 := bR3.grown hgh (by simp; omega)
 have B4 := B3.grown hgh B3.size (fun k hk => by injection hk with hk; subst hk; exact hgO)
 go_wp2_with (refine wpList_storeRow rfl 34 _ _ rfl gR #[.slice C1 rows.length e1, .slice C2 f.length e2, .slice C3 n.length e3, .slice D t.length d] rfl rfl _ _ bR4 (by kernel_rfl) rfl (by simp [Value.oneCell']) ?_; intro wE bE hgE)
 have oE : OwnFl w.heap.size wE _ _ _ _ _ := OwnFl.rowI oF4 bR4 (by decide) (by decide) (by decide) hgE
 have BE := B4.grown hgE B4.size (fun k hk => by injection hk with hk; subst hk; exact hgR)
 have q_0 := bE.cell 0
 have q_1 := bE.cell 1
 have q_2 := bE.cell 2
 have q_3 := bE.cell 3
 simp only [List.getElem?_toArray, List.getElem?_cons_zero, List.getElem?_cons_succ] at q_0 q_1 q_2 q_3
 refine bodyPost_ret (v := .tuple #[.agg #[.slice C1 rows.length e1, .slice C2 f.length e2, .slice C3 n.length e3, .slice D t.length d], .bool true]) (by simp [results, Tryz.results9, go_sem, q_0, q_1, q_2, q_3]) rfl (by rw [HY.out]; exact ⟨C1, e1, C2, e2, C3, e3, D, d, rfl, oE, BE⟩)
theorem dist_le {T : List (List Dm)} (hT : FlipSet T) (k i : Nat) : dist T k i ≤ 300 := by
 unfold dist
 split
 · rename_i h
   have h1 := h.choose_spec.top i
   have h2 := hT.sm
   omega
 · exact (by decide : (-1 : Int) ≤ 300)
theorem wayL_len (rows : List Int) (a b : List Dm) : (wayL rows a b).length ≤ 300 := by
 unfold wayL
 split
 · have h1 := dist_le (set_list rows) (ix (listRows rows) b) (ix (listRows rows) a)
   have h2 := way_len (listRows rows) (dist (listRows rows) (ix (listRows rows) b)) (dist (listRows rows) (ix (listRows rows) b) (ix (listRows rows) a)).toNat (ix (listRows rows) a)
   omega
 · exact Nat.zero_le _
theorem sh_small {x : Fl} (hs : Small4 x) : Small4 (shFl x) := by
 unfold shFl
 split
 · have := wayL_len x.1 x.2.1 x.2.2.1
   exact ⟨hs.1, hs.2.1, hs.2.2.1, by unfold Small; simp only; omega⟩
 · exact hs
theorem sh_yes {x : Fl} (h : flOk x = true ∧ wayB x.1 x.2.1 x.2.2.1 = true) : shFl x = (x.1, x.2.1, x.2.2.1, wayL x.1 x.2.1 x.2.2.1) ∧ shB x = true := ⟨if_pos h, by unfold shB; rw [h.1, h.2]; rfl⟩
theorem sh_no {x : Fl} (h : ¬ (flOk x = true ∧ wayB x.1 x.2.1 x.2.2.1 = true)) : shFl x = x ∧ shB x = false ∧ (flOk x = false ∨ (flOk x = true ∧ wayB x.1 x.2.1 x.2.2.1 = false)) := by
 refine ⟨if_neg h, ?_, ?_⟩
 · unfold shB
   cases q : flOk x
   · rfl
   · cases q2 : wayB x.1 x.2.1 x.2.2.1
     · rfl
     · exact absurd ⟨q, q2⟩ h
 · cases q : flOk x
   · exact .inl rfl
   · cases q2 : wayB x.1 x.2.1 x.2.2.1
     · exact .inr ⟨rfl, rfl⟩
     · exact absurd ⟨q, q2⟩ h
theorem shortI_any (v1 v2 v3 v4 : Value) (x : Fl) (w : World) (h1 : Rd 1 RInt w v1 x.1) (h2 : Rd 3 RDom w v2 x.2.1) (h3 : Rd 3 RDom w v3 x.2.2.1) (h4 : Rd 2 RPair w v4 x.2.2.2) (hs : Small4 x) (ht : Tab w) : Calls Tryz.prog 11 #[.agg #[v1, v2, v3, v4]] w (RetFlB (shFl x) (shB x) w) := by
 by_cases h : flOk x = true ∧ wayB x.1 x.2.1 x.2.2.1 = true
 · rw [(sh_yes h).1, (sh_yes h).2]; exact shortI_yes v1 v2 v3 v4 x w h1 h2 h3 h4 hs ht h.1 h.2
 · rw [(sh_no h).1, (sh_no h).2.1]; exact shortI_no v1 v2 v3 v4 x w h1 h2 h3 h4 hs ht (sh_no h).2.2
theorem shortS_any (v1 v2 v3 v4 : Value) (x : Fl) (w : World) (h1 : Rd 1 RInt w v1 x.1) (h2 : Rd 3 RDom w v2 x.2.1) (h3 : Rd 3 RDom w v3 x.2.2.1) (h4 : Rd 2 RPair w v4 x.2.2.2) (hs : Small4 x) : Calls Tryz.prog 9 #[.agg #[v1, v2, v3, v4]] w (RetFlB (shFl x) (shB x) w) := by
 by_cases h : flOk x = true ∧ wayB x.1 x.2.1 x.2.2.1 = true
 · rw [(sh_yes h).1, (sh_yes h).2]; exact shortS_yes v1 v2 v3 v4 x w h1 h2 h3 h4 hs h.1 h.2
 · rw [(sh_no h).1, (sh_no h).2.1]; exact shortS_no v1 v2 v3 v4 x w h1 h2 h3 h4 hs (sh_no h).2.2
end Go.Proofs.YtbjfooibiioooaaGreatDoor
