/- Workshops copied, a place turned, a workshop audited: the program's side. Conditions: sizes. -/
import Derived.Test.YtnlljkdfapllpaaFlAll
import Derived.Test.YtnlljkdfapllpaaFlDo2
import Derived.Test.YtnlljkdfapllpaaLawBase
namespace Go.Proofs.Ytnlljkdfapllpaa
open Go.ChangeShapes Go.WideShapes Go.ChangeAt Go.RowKit
set_option linter.unusedVariables false
set_option linter.unusedSimpArgs false

def turnOk (y : Wk) (c : Cl) : Bool := workOk y && (doFl y.1 c).2
def turnFl (y : Wk) (c : Cl) : Fl := if turnOk y c then (doFl y.1 c).1 else y.1
theorem turn_small {y : Wk} (c : Cl) (hs : Small4 y.1) : Small4 (turnFl y c) := by
  unfold turnFl
  split
  · exact do_small (b := (doFl y.1 c).2) hs rfl
  · exact hs
theorem work_flOk {y : Wk} (h : workOk y = true) : flOk y.1 = true := by
  unfold workOk at h; rw [Bool.and_eq_true] at h; exact h.1
theorem audit_now {x : Fl} (h : flOk x = true) : (undoAllFl x).2.2.1 = x.2.1 := by
  unfold undoAllFl
  rw [if_pos h]
  unfold flSt flipAll
  rw [List.take_zero]
  simp [flipGo]
theorem rd_as {α : Type} {size : Nat} {R : World → List Value → α → Prop} {w : World} {v : Value} {l m : List α} (h : Rd size R w v l) (e : l = m) : Rd size R w v m := e ▸ h
theorem sameDomI_same (u v : Value) (l : List Dm) (w : World) (h : Rd 3 RDom w u l) (h' : Rd 3 RDom w v l) : Calls Try.prog 95 #[u, v] w (Ret (.bool true) w) := by
  have := sameDomI_any u v l l w h h'; rw [decide_eq_true (rfl : l = l)] at this; exact this
theorem sameDomS_same (u v : Value) (l : List Dm) (w : World) (h : Rd 3 RDom w u l) (h' : Rd 3 RDom w v l) : Calls Try.prog 94 #[u, v] w (Ret (.bool true) w) := by
  have := sameDomS_any u v l l w h h'; rw [decide_eq_true (rfl : l = l)] at this; exact this
set_option maxHeartbeats 4000000 in
set_option maxRecDepth 100000 in
theorem copyWkI_any (v1 v2 v3 v4 : Value) (x : Fl) (s p r : Int) (w : World) (h1 : Rd 1 RInt w v1 x.1) (h2 : Rd 3 RDom w v2 x.2.1) (h3 : Rd 3 RDom w v3 x.2.2.1) (h4 : Rd 2 RPair w v4 x.2.2.2) (hs : Small4 x) :
    Calls Try.prog 92 #[.agg #[v1, v2, v3, v4, .int .i64 s, .int .i64 p, .int .i64 r]] w (RetWk x s p r w) := by
  obtain ⟨A1, c1, rfl, hc1, hm1⟩ := h1.form
  obtain ⟨A2, c2, rfl, hc2, hm2⟩ := h2.form
  obtain ⟨A3, c3, rfl, hc3, hm3⟩ := h3.form
  obtain ⟨A4, c4, rfl, hc4, hm4⟩ := h4.form
  have B0 := (((Below.refl w.heap.size w).al (.cells #[.slice A1 x.1.length c1, .slice A2 x.2.1.length c2, .slice A3 x.2.2.1.length c3, .slice A4 x.2.2.2.length c4, .int .i64 s, .int .i64 p, .int .i64 r] 52)).al (.cells #[.slice none 0 0, .slice none 0 0, .slice none 0 0, .slice none 0 0, .int .i64 0, .int .i64 0, .int .i64 0] 52)).al (.cells #[.slice A1 x.1.length c1, .slice A2 x.2.1.length c2, .slice A3 x.2.2.1.length c3, .slice A4 x.2.2.2.length c4, .int .i64 s, .int .i64 p, .int .i64 r] 52)
  have bP := ((Blk.new_ w 52 #[.slice A1 x.1.length c1, .slice A2 x.2.1.length c2, .slice A3 x.2.2.1.length c3, .slice A4 x.2.2.2.length c4, .int .i64 s, .int .i64 p, .int .i64 r]).alloc (.cells #[.slice none 0 0, .slice none 0 0, .slice none 0 0, .slice none 0 0, .int .i64 0, .int .i64 0, .int .i64 0] 52)).alloc (.cells #[.slice A1 x.1.length c1, .slice A2 x.2.1.length c2, .slice A3 x.2.2.1.length c3, .slice A4 x.2.2.2.length c4, .int .i64 s, .int .i64 p, .int .i64 r] 52)
  have bR := (Blk.new2 (w.alloc (.cells #[.slice A1 x.1.length c1, .slice A2 x.2.1.length c2, .slice A3 x.2.2.1.length c3, .slice A4 x.2.2.2.length c4, .int .i64 s, .int .i64 p, .int .i64 r] 52)) 52 #[.slice none 0 0, .slice none 0 0, .slice none 0 0, .slice none 0 0, .int .i64 0, .int .i64 0, .int .i64 0] (w.heap.size + 1) (by simp)).alloc (.cells #[.slice A1 x.1.length c1, .slice A2 x.2.1.length c2, .slice A3 x.2.2.1.length c3, .slice A4 x.2.2.2.length c4, .int .i64 s, .int .i64 p, .int .i64 r] 52)
  have bO := Blk.new2 ((w.alloc (.cells #[.slice A1 x.1.length c1, .slice A2 x.2.1.length c2, .slice A3 x.2.2.1.length c3, .slice A4 x.2.2.2.length c4, .int .i64 s, .int .i64 p, .int .i64 r] 52)).alloc (.cells #[.slice none 0 0, .slice none 0 0, .slice none 0 0, .slice none 0 0, .int .i64 0, .int .i64 0, .int .i64 0] 52)) 52 #[.slice A1 x.1.length c1, .slice A2 x.2.1.length c2, .slice A3 x.2.2.1.length c3, .slice A4 x.2.2.2.length c4, .int .i64 s, .int .i64 p, .int .i64 r] (w.heap.size + 1 + 1) (by simp)
  go_enter Try.func92, Try.ntmps92
  go_wp2_with fail
  obtain ⟨W0, hW0⟩ : ∃ W0, W0 = ((w.alloc (.cells #[.slice A1 x.1.length c1, .slice A2 x.2.1.length c2, .slice A3 x.2.2.1.length c3, .slice A4 x.2.2.2.length c4, .int .i64 s, .int .i64 p, .int .i64 r] 52)).alloc (.cells #[.slice none 0 0, .slice none 0 0, .slice none 0 0, .slice none 0 0, .int .i64 0, .int .i64 0, .int .i64 0] 52)).alloc (.cells #[.slice A1 x.1.length c1, .slice A2 x.2.1.length c2, .slice A3 x.2.2.1.length c3, .slice A4 x.2.2.2.length c4, .int .i64 s, .int .i64 p, .int .i64 r] 52) := ⟨_, rfl⟩
  obtain ⟨gP, hgP⟩ : ∃ g, g = w.heap.size := ⟨_, rfl⟩
  obtain ⟨gR, hgR'⟩ : ∃ g, g = w.heap.size + 1 := ⟨_, rfl⟩
  obtain ⟨gO, hgO'⟩ : ∃ g, g = w.heap.size + 1 + 1 := ⟨_, rfl⟩
  rw [← hW0] at B0 bP bR bO ⊢
  rw [← hgO'] at bO ⊢
  rw [← hgR'] at bR ⊢
  rw [← hgP] at bP ⊢
  have hgR : w.heap.size ≤ gR := by omega
  have hgO : w.heap.size ≤ gO := by omega
  have hPR : gP ≠ gR := by omega
  have hPO : gP ≠ gO := by omega
  have hRO : gR ≠ gO := by omega
  have hOR := hRO.symm
  clear hW0 hgP hgR' hgO'
  have z_0 := bP.cell 0
  have z_1 := bP.cell 1
  have z_2 := bP.cell 2
  have z_3 := bP.cell 3
  have z_4 := bP.cell 4
  have z_5 := bP.cell 5
  have z_6 := bP.cell 6
  simp only [List.getElem?_toArray, List.getElem?_cons_zero, List.getElem?_cons_succ] at z_0 z_1 z_2 z_3 z_4 z_5 z_6
  refine (copyFlI_any _ _ _ _ x _ (h1.below RE.stays B0) (h2.below RE.stays B0) (h3.below RE.stays B0) (h4.below RE.stays B0) hs).mono ?_
  rintro e w1 ⟨D1, d1, D2, d2, D3, d3, D4, d4, rfl, oF, hb1⟩
  have oF := oF.mono B0.size
  have B1 := B0.tr hb1
  have bR1 := bR.bl hb1
  have bO1 := bO.bl hb1
  clear z_0 z_1 z_2 z_3 z_4 z_5 z_6
  have o_0 := bO1.cell 0
  have o_1 := bO1.cell 1
  have o_2 := bO1.cell 2
  have o_3 := bO1.cell 3
  have o_4 := bO1.cell 4
  have o_5 := bO1.cell 5
  have o_6 := bO1.cell 6
  simp only [List.getElem?_toArray, List.getElem?_cons_zero, List.getElem?_cons_succ] at o_0 o_1 o_2 o_3 o_4 o_5 o_6
  have fO : ∀ j, w1.frozen? ⟨gO, j, none⟩ = false := fun j => bO1.frozen j
  have hgg := gr_set (gr_set (gr_set (gr_set (World.grownBy.refl w1 (some gO)) 0 (.slice D1 x.1.length d1)) 1 (.slice D2 x.2.1.length d2)) 2 (.slice D3 x.2.2.1.length d3)) 3 (.slice D4 x.2.2.2.length d4)
  have bR5 := bR1.grown hgg (by simp; omega)
  have oF5 := OwnFl.rowI oF bO1 (by decide) (by decide) (by decide) hgg
  have B5 := B1.grown hgg B1.size (fun k hk => by injection hk with hk; subst hk; exact hgO)
  go_wp2_with (refine wpList_storeRow rfl 52 _ _ rfl gR #[.slice D1 x.1.length d1, .slice D2 x.2.1.length d2, .slice D3 x.2.2.1.length d3, .slice D4 x.2.2.2.length d4, .int .i64 s, .int .i64 p, .int .i64 r] rfl rfl _ _ bR5 (by kernel_rfl) rfl (by simp [Value.oneCell']) ?_; intro wE bE hgE)
  have oE : OwnFl w.heap.size wE _ _ _ _ _ := OwnFl.rowI oF5 bR5 (by decide) (by decide) (by decide) hgE
  have BE := B5.grown hgE B5.size (fun k hk => by injection hk with hk; subst hk; exact hgR)
  have q_0 := bE.cell 0
  have q_1 := bE.cell 1
  have q_2 := bE.cell 2
  have q_3 := bE.cell 3
  have q_4 := bE.cell 4
  have q_5 := bE.cell 5
  have q_6 := bE.cell 6
  simp only [List.getElem?_toArray, List.getElem?_cons_zero, List.getElem?_cons_succ] at q_0 q_1 q_2 q_3 q_4 q_5 q_6
  refine bodyPost_ret (v := .agg #[.slice D1 x.1.length d1, .slice D2 x.2.1.length d2, .slice D3 x.2.2.1.length d3, .slice D4 x.2.2.2.length d4, .int .i64 s, .int .i64 p, .int .i64 r]) (by simp [results, Try.results92, go_sem, q_0, q_1, q_2, q_3, q_4, q_5, q_6]) rfl ⟨D1, d1, D2, d2, D3, d3, D4, d4, rfl, oE, BE⟩
set_option maxHeartbeats 4000000 in
set_option maxRecDepth 100000 in
theorem turnI_any (v1 v2 v3 v4 : Value) (x : Fl) (s p r cx cy : Int) (w : World) (h1 : Rd 1 RInt w v1 x.1) (h2 : Rd 3 RDom w v2 x.2.1) (h3 : Rd 3 RDom w v3 x.2.2.1) (h4 : Rd 2 RPair w v4 x.2.2.2) (hs : Small4 x) :
    Calls Try.prog 30 #[.agg #[v1, v2, v3, v4, .int .i64 s, .int .i64 p, .int .i64 r], .agg #[.int .i64 cx, .int .i64 cy]] w (RetWkB (turnFl (x, s, p, r) (cx, cy)) s p r (turnOk (x, s, p, r) (cx, cy)) w) := by
  obtain ⟨A1, c1, rfl, hc1, hm1⟩ := h1.form
  obtain ⟨A2, c2, rfl, hc2, hm2⟩ := h2.form
  obtain ⟨A3, c3, rfl, hc3, hm3⟩ := h3.form
  obtain ⟨A4, c4, rfl, hc4, hm4⟩ := h4.form
  obtain ⟨z, b, hz⟩ : ∃ z b, doFl x (cx, cy) = (z, b) := ⟨_, _, rfl⟩
  obtain ⟨k, hk⟩ : ∃ k, k = workOk (x, s, p, r) := ⟨_, rfl⟩
  have CF : ∀ (a1 a2 a3 a4 : Value) (w : World), Rd 1 RInt w a1 x.1 → Rd 3 RDom w a2 x.2.1 → Rd 3 RDom w a3 x.2.2.1 → Rd 2 RPair w a4 x.2.2.2 → Calls Try.prog 24 #[.agg #[a1, a2, a3, a4], .agg #[.int .i64 cx, .int .i64 cy]] w (RetFlB z b w) := fun a1 a2 a3 a4 w k1 k2 k3 k4 => by
    have := doI_any a1 a2 a3 a4 x cx cy w k1 k2 k3 k4 hs
    rw [hz] at this; exact this
  have hT : turnOk (x, s, p, r) (cx, cy) = (k && b) := by unfold turnOk; rw [← hk]; simp only [hz]
  have hF : turnFl (x, s, p, r) (cx, cy) = if (k && b) = true then z else x := by unfold turnFl; rw [hT]; simp only [hz]
  obtain ⟨zz, hzz⟩ : ∃ q, q = if (k && b) = true then z else x := ⟨_, rfl⟩
  obtain ⟨bb, hbb⟩ : ∃ q, q = (k && b) := ⟨_, rfl⟩
  rw [hT, hF, ← hzz, ← hbb]
  have HZ := Lib.hid hzz; have HB := Lib.hid hbb; have HK := Lib.hid hk
  clear hT hF hz hzz hbb hk
  have B0 := (((Below.refl w.heap.size w).al (.cells #[.slice A1 x.1.length c1, .slice A2 x.2.1.length c2, .slice A3 x.2.2.1.length c3, .slice A4 x.2.2.2.length c4, .int .i64 s, .int .i64 p, .int .i64 r] 52)).al (.cells #[.int .i64 cx, .int .i64 cy] 44)).al (.cells #[.slice none 0 0, .slice none 0 0, .slice none 0 0, .slice none 0 0, .int .i64 0, .int .i64 0, .int .i64 0] 52)
  have bP := ((Blk.new_ w 52 #[.slice A1 x.1.length c1, .slice A2 x.2.1.length c2, .slice A3 x.2.2.1.length c3, .slice A4 x.2.2.2.length c4, .int .i64 s, .int .i64 p, .int .i64 r]).alloc (.cells #[.int .i64 cx, .int .i64 cy] 44)).alloc (.cells #[.slice none 0 0, .slice none 0 0, .slice none 0 0, .slice none 0 0, .int .i64 0, .int .i64 0, .int .i64 0] 52)
  have bC := (Blk.new2 (w.alloc (.cells #[.slice A1 x.1.length c1, .slice A2 x.2.1.length c2, .slice A3 x.2.2.1.length c3, .slice A4 x.2.2.2.length c4, .int .i64 s, .int .i64 p, .int .i64 r] 52)) 44 #[.int .i64 cx, .int .i64 cy] (w.heap.size + 1) (by simp)).alloc (.cells #[.slice none 0 0, .slice none 0 0, .slice none 0 0, .slice none 0 0, .int .i64 0, .int .i64 0, .int .i64 0] 52)
  have bR := Blk.new2 ((w.alloc (.cells #[.slice A1 x.1.length c1, .slice A2 x.2.1.length c2, .slice A3 x.2.2.1.length c3, .slice A4 x.2.2.2.length c4, .int .i64 s, .int .i64 p, .int .i64 r] 52)).alloc (.cells #[.int .i64 cx, .int .i64 cy] 44)) 52 #[.slice none 0 0, .slice none 0 0, .slice none 0 0, .slice none 0 0, .int .i64 0, .int .i64 0, .int .i64 0] (w.heap.size + 1 + 1) (by simp)
  go_enter Try.func30, Try.ntmps30
  go_wp2_with fail
  obtain ⟨W0, hW0⟩ : ∃ W0, W0 = ((w.alloc (.cells #[.slice A1 x.1.length c1, .slice A2 x.2.1.length c2, .slice A3 x.2.2.1.length c3, .slice A4 x.2.2.2.length c4, .int .i64 s, .int .i64 p, .int .i64 r] 52)).alloc (.cells #[.int .i64 cx, .int .i64 cy] 44)).alloc (.cells #[.slice none 0 0, .slice none 0 0, .slice none 0 0, .slice none 0 0, .int .i64 0, .int .i64 0, .int .i64 0] 52) := ⟨_, rfl⟩
  obtain ⟨gP, hgP⟩ : ∃ g, g = w.heap.size := ⟨_, rfl⟩
  obtain ⟨gC, hgC⟩ : ∃ g, g = w.heap.size + 1 := ⟨_, rfl⟩
  obtain ⟨gR, hgR'⟩ : ∃ g, g = w.heap.size + 1 + 1 := ⟨_, rfl⟩
  rw [← hW0] at B0 bP bC bR ⊢
  rw [← hgR'] at bR ⊢
  rw [← hgC] at bC ⊢
  rw [← hgP] at bP ⊢
  have hgR : w.heap.size ≤ gR := by omega
  clear hW0 hgP hgC hgR'
  have y_0 := bP.cell 0
  have y_1 := bP.cell 1
  have y_2 := bP.cell 2
  have y_3 := bP.cell 3
  have y_4 := bP.cell 4
  have y_5 := bP.cell 5
  have y_6 := bP.cell 6
  simp only [List.getElem?_toArray, List.getElem?_cons_zero, List.getElem?_cons_succ] at y_0 y_1 y_2 y_3 y_4 y_5 y_6
  refine (copyWkI_any _ _ _ _ x s p r _ (h1.below RE.stays B0) (h2.below RE.stays B0) (h3.below RE.stays B0) (h4.below RE.stays B0) hs).mono ?_
  rintro e w1 ⟨C1, c1', C2, c2', C3, c3', C4, c4', rfl, oO, hb1⟩
  have oO := oO.mono B0.size
  have hgO : w.heap.size ≤ w1.heap.size := (B0.tr hb1).size
  have bO1 := Blk.new_ w1 52 #[.slice C1 x.1.length c1', .slice C2 x.2.1.length c2', .slice C3 x.2.2.1.length c3', .slice C4 x.2.2.2.length c4', .int .i64 s, .int .i64 p, .int .i64 r]
  have oO1 := oO.alloc (.cells #[.slice C1 x.1.length c1', .slice C2 x.2.1.length c2', .slice C3 x.2.2.1.length c3', .slice C4 x.2.2.2.length c4', .int .i64 s, .int .i64 p, .int .i64 r] 52)
  have B1 := (B0.tr hb1).al (.cells #[.slice C1 x.1.length c1', .slice C2 x.2.1.length c2', .slice C3 x.2.2.1.length c3', .slice C4 x.2.2.2.length c4', .int .i64 s, .int .i64 p, .int .i64 r] 52)
  have bP1 := (bP.bl hb1).alloc (.cells #[.slice C1 x.1.length c1', .slice C2 x.2.1.length c2', .slice C3 x.2.2.1.length c3', .slice C4 x.2.2.2.length c4', .int .i64 s, .int .i64 p, .int .i64 r] 52)
  have bC1 := (bC.bl hb1).alloc (.cells #[.slice C1 x.1.length c1', .slice C2 x.2.1.length c2', .slice C3 x.2.2.1.length c3', .slice C4 x.2.2.2.length c4', .int .i64 s, .int .i64 p, .int .i64 r] 52)
  have bR1 := (bR.bl hb1).alloc (.cells #[.slice C1 x.1.length c1', .slice C2 x.2.1.length c2', .slice C3 x.2.2.1.length c3', .slice C4 x.2.2.2.length c4', .int .i64 s, .int .i64 p, .int .i64 r] 52)
  have hRl := (bR.bl hb1).lt
  have hPl := (bP.bl hb1).lt
  have hCl := (bC.bl hb1).lt
  have hPn : gP ≠ w1.heap.size := by omega
  have hCn : gC ≠ w1.heap.size := by omega
  obtain ⟨gO, hgO'⟩ : ∃ g, g = w1.heap.size := ⟨_, rfl⟩
  have hRO : gR ≠ gO := by omega
  have hOR := hRO.symm
  have hgO : w.heap.size ≤ gO := by omega
  clear oO y_0 y_1 y_2 y_3 y_4 y_5 y_6
  have y_0 := bP1.cell 0
  have y_1 := bP1.cell 1
  have y_2 := bP1.cell 2
  have y_3 := bP1.cell 3
  have y_4 := bP1.cell 4
  have y_5 := bP1.cell 5
  have y_6 := bP1.cell 6
  simp only [List.getElem?_toArray, List.getElem?_cons_zero, List.getElem?_cons_succ] at y_0 y_1 y_2 y_3 y_4 y_5 y_6
  have d_0 := bC1.cell 0
  have d_1 := bC1.cell 1
  simp only [List.getElem?_toArray, List.getElem?_cons_zero, List.getElem?_cons_succ] at d_0 d_1
  go_wp2_with fail
  refine (CF _ _ _ _ _ (h1.below RE.stays B1) (h2.below RE.stays B1) (h3.below RE.stays B1) (h4.below RE.stays B1)).mono ?_
  rintro e w2 ⟨D1, d1, D2, d2, D3, d3, D4, d4, rfl, oD, hb2⟩
  rw [← hgO'] at bO1 ⊢
  clear hgO' y_0 y_1 y_2 y_3 y_4 y_5 y_6 d_0 d_1
  have oD := oD.mono B1.size
  have bF2 := Blk.new_ w2 34 #[.slice D1 z.1.length d1, .slice D2 z.2.1.length d2, .slice D3 z.2.2.1.length d3, .slice D4 z.2.2.2.length d4]
  have oD2 := oD.alloc (.cells #[.slice D1 z.1.length d1, .slice D2 z.2.1.length d2, .slice D3 z.2.2.1.length d3, .slice D4 z.2.2.2.length d4] 34)
  have oO2 := (oO1.below hb2).alloc (.cells #[.slice D1 z.1.length d1, .slice D2 z.2.1.length d2, .slice D3 z.2.2.1.length d3, .slice D4 z.2.2.2.length d4] 34)
  have B2 := (B1.tr hb2).al (.cells #[.slice D1 z.1.length d1, .slice D2 z.2.1.length d2, .slice D3 z.2.2.1.length d3, .slice D4 z.2.2.2.length d4] 34)
  have bP2 := (bP1.bl hb2).alloc (.cells #[.slice D1 z.1.length d1, .slice D2 z.2.1.length d2, .slice D3 z.2.2.1.length d3, .slice D4 z.2.2.2.length d4] 34)
  have bR2 := (bR1.bl hb2).alloc (.cells #[.slice D1 z.1.length d1, .slice D2 z.2.1.length d2, .slice D3 z.2.2.1.length d3, .slice D4 z.2.2.2.length d4] 34)
  have bO2 := (bO1.bl hb2).alloc (.cells #[.slice D1 z.1.length d1, .slice D2 z.2.1.length d2, .slice D3 z.2.2.1.length d3, .slice D4 z.2.2.2.length d4] 34)
  have hPl2 := (bP1.bl hb2).lt
  have hOl2 := (bO1.bl hb2).lt
  have hRl2 := (bR1.bl hb2).lt
  have hPn2 : gP ≠ w2.heap.size := by omega
  obtain ⟨gF, hgF'⟩ : ∃ g, g = w2.heap.size := ⟨_, rfl⟩
  have hFO : gF ≠ gO := by omega
  have hFR : gF ≠ gR := by omega
  have hOF := hFO.symm
  have hRF := hFR.symm
  clear oD oO1
  have y_0 := bP2.cell 0
  have y_1 := bP2.cell 1
  have y_2 := bP2.cell 2
  have y_3 := bP2.cell 3
  have y_4 := bP2.cell 4
  have y_5 := bP2.cell 5
  have y_6 := bP2.cell 6
  simp only [List.getElem?_toArray, List.getElem?_cons_zero, List.getElem?_cons_succ] at y_0 y_1 y_2 y_3 y_4 y_5 y_6
  go_wp2_with fail
  refine (workOkI_any _ _ _ _ (x, s, p, r) _ (h1.below RE.stays B2) (h2.below RE.stays B2) (h3.below RE.stays B2) (h4.below RE.stays B2) hs.2.1).mono ?_
  rintro e w3 ⟨rfl, hb3⟩
  rw [← hgF'] at bF2 ⊢
  rw [← HK.out]
  clear hgF' y_0 y_1 y_2 y_3 y_4 y_5 y_6
  have B3 := B2.tr hb3
  have bR3 := bR2.bl hb3
  have bO3 := bO2.bl hb3
  have bF3 := bF2.bl hb3
  have oO3 := oO2.below hb3
  have oD3 := oD2.below hb3
  have hgOl := bO3.lt
  have hgFl := bF3.lt
  cases k
  · obtain rfl : x = zz := by rw [HZ.out]; rfl
    obtain rfl : bb = false := by rw [HB.out]; rfl
    have y_0 := bO3.cell 0
    have y_1 := bO3.cell 1
    have y_2 := bO3.cell 2
    have y_3 := bO3.cell 3
    have y_4 := bO3.cell 4
    have y_5 := bO3.cell 5
    have y_6 := bO3.cell 6
    simp only [List.getElem?_toArray, List.getElem?_cons_zero, List.getElem?_cons_succ] at y_0 y_1 y_2 y_3 y_4 y_5 y_6
    go_wp2_with (refine wpList_storeRow rfl 52 _ _ rfl gR #[.slice C1 x.1.length c1', .slice C2 x.2.1.length c2', .slice C3 x.2.2.1.length c3', .slice C4 x.2.2.2.length c4', .int .i64 s, .int .i64 p, .int .i64 r] rfl rfl _ _ bR3 (by kernel_rfl) rfl (by simp [Value.oneCell']) ?_; intro wE bE hgE)
    have oE : OwnFl w.heap.size wE _ _ _ _ _ := OwnFl.rowI oO3 bR3 (by decide) (by decide) (by decide) hgE
    have BE := B3.grown hgE B3.size (fun k hk => by injection hk with hk; subst hk; exact hgR)
    have q_0 := bE.cell 0
    have q_1 := bE.cell 1
    have q_2 := bE.cell 2
    have q_3 := bE.cell 3
    have q_4 := bE.cell 4
    have q_5 := bE.cell 5
    have q_6 := bE.cell 6
    simp only [List.getElem?_toArray, List.getElem?_cons_zero, List.getElem?_cons_succ] at q_0 q_1 q_2 q_3 q_4 q_5 q_6
    refine bodyPost_ret (v := .tuple #[.agg #[.slice C1 x.1.length c1', .slice C2 x.2.1.length c2', .slice C3 x.2.2.1.length c3', .slice C4 x.2.2.2.length c4', .int .i64 s, .int .i64 p, .int .i64 r], .bool false]) (by simp [results, Try.results30, go_sem, q_0, q_1, q_2, q_3, q_4, q_5, q_6]) rfl ⟨C1, c1', C2, c2', C3, c3', C4, c4', rfl, oE, BE⟩
  · cases b
    · obtain rfl : x = zz := by rw [HZ.out]; rfl
      obtain rfl : bb = false := by rw [HB.out]; rfl
      have y_0 := bO3.cell 0
      have y_1 := bO3.cell 1
      have y_2 := bO3.cell 2
      have y_3 := bO3.cell 3
      have y_4 := bO3.cell 4
      have y_5 := bO3.cell 5
      have y_6 := bO3.cell 6
      simp only [List.getElem?_toArray, List.getElem?_cons_zero, List.getElem?_cons_succ] at y_0 y_1 y_2 y_3 y_4 y_5 y_6
      go_wp2_with (refine wpList_storeRow rfl 52 _ _ rfl gR #[.slice C1 x.1.length c1', .slice C2 x.2.1.length c2', .slice C3 x.2.2.1.length c3', .slice C4 x.2.2.2.length c4', .int .i64 s, .int .i64 p, .int .i64 r] rfl rfl _ _ bR3 (by kernel_rfl) rfl (by simp [Value.oneCell']) ?_; intro wE bE hgE)
      have oE : OwnFl w.heap.size wE _ _ _ _ _ := OwnFl.rowI oO3 bR3 (by decide) (by decide) (by decide) hgE
      have BE := B3.grown hgE B3.size (fun k hk => by injection hk with hk; subst hk; exact hgR)
      have q_0 := bE.cell 0
      have q_1 := bE.cell 1
      have q_2 := bE.cell 2
      have q_3 := bE.cell 3
      have q_4 := bE.cell 4
      have q_5 := bE.cell 5
      have q_6 := bE.cell 6
      simp only [List.getElem?_toArray, List.getElem?_cons_zero, List.getElem?_cons_succ] at q_0 q_1 q_2 q_3 q_4 q_5 q_6
      refine bodyPost_ret (v := .tuple #[.agg #[.slice C1 x.1.length c1', .slice C2 x.2.1.length c2', .slice C3 x.2.2.1.length c3', .slice C4 x.2.2.2.length c4', .int .i64 s, .int .i64 p, .int .i64 r], .bool false]) (by simp [results, Try.results30, go_sem, q_0, q_1, q_2, q_3, q_4, q_5, q_6]) rfl ⟨C1, c1', C2, c2', C3, c3', C4, c4', rfl, oE, BE⟩
    · obtain rfl : z = zz := by rw [HZ.out]; rfl
      obtain rfl : bb = true := by rw [HB.out]; rfl
      have f_0 := bF3.cell 0
      have f_1 := bF3.cell 1
      have f_2 := bF3.cell 2
      have f_3 := bF3.cell 3
      simp only [List.getElem?_toArray, List.getElem?_cons_zero, List.getElem?_cons_succ] at f_0 f_1 f_2 f_3
      have o_0 := bO3.cell 0
      have o_1 := bO3.cell 1
      have o_2 := bO3.cell 2
      have o_3 := bO3.cell 3
      have o_4 := bO3.cell 4
      have o_5 := bO3.cell 5
      have o_6 := bO3.cell 6
      simp only [List.getElem?_toArray, List.getElem?_cons_zero, List.getElem?_cons_succ] at o_0 o_1 o_2 o_3 o_4 o_5 o_6
      have fO : ∀ j, w3.frozen? ⟨gO, j, none⟩ = false := fun j => bO3.frozen j
      have hgg := gr_set (gr_set (gr_set (gr_set (World.grownBy.refl w3 (some gO)) 0 (.slice D1 z.1.length d1)) 1 (.slice D2 z.2.1.length d2)) 2 (.slice D3 z.2.2.1.length d3)) 3 (.slice D4 z.2.2.2.length d4)
      have bR5 := bR3.grown hgg (by simp; omega)
      have oF5 := OwnFl.rowI oD3 bO3 (by decide) (by decide) (by decide) hgg
      have B5 := B3.grown hgg B3.size (fun k hk => by injection hk with hk; subst hk; exact hgO)
      go_wp2_with (refine wpList_storeRow rfl 52 _ _ rfl gR #[.slice D1 z.1.length d1, .slice D2 z.2.1.length d2, .slice D3 z.2.2.1.length d3, .slice D4 z.2.2.2.length d4, .int .i64 s, .int .i64 p, .int .i64 r] rfl rfl _ _ bR5 (by kernel_rfl) rfl (by simp [Value.oneCell']) ?_; intro wE bE hgE)
      have oE : OwnFl w.heap.size wE _ _ _ _ _ := OwnFl.rowI oF5 bR5 (by decide) (by decide) (by decide) hgE
      have BE := B5.grown hgE B5.size (fun k hk => by injection hk with hk; subst hk; exact hgR)
      have q_0 := bE.cell 0
      have q_1 := bE.cell 1
      have q_2 := bE.cell 2
      have q_3 := bE.cell 3
      have q_4 := bE.cell 4
      have q_5 := bE.cell 5
      have q_6 := bE.cell 6
      simp only [List.getElem?_toArray, List.getElem?_cons_zero, List.getElem?_cons_succ] at q_0 q_1 q_2 q_3 q_4 q_5 q_6
      refine bodyPost_ret (v := .tuple #[.agg #[.slice D1 z.1.length d1, .slice D2 z.2.1.length d2, .slice D3 z.2.2.1.length d3, .slice D4 z.2.2.2.length d4, .int .i64 s, .int .i64 p, .int .i64 r], .bool true]) (by simp [results, Try.results30, go_sem, q_0, q_1, q_2, q_3, q_4, q_5, q_6]) rfl ⟨D1, d1, D2, d2, D3, d3, D4, d4, rfl, oE, BE⟩
set_option maxHeartbeats 2000000 in
set_option maxRecDepth 100000 in
theorem auditI_any (v1 v2 v3 v4 : Value) (x : Fl) (s p r : Int) (w : World) (h1 : Rd 1 RInt w v1 x.1) (h2 : Rd 3 RDom w v2 x.2.1) (h3 : Rd 3 RDom w v3 x.2.2.1) (h4 : Rd 2 RPair w v4 x.2.2.2) (hs : Small4 x) :
    Calls Try.prog 35 #[.agg #[v1, v2, v3, v4, .int .i64 s, .int .i64 p, .int .i64 r]] w (Ret (.bool (workOk (x, s, p, r))) w) := by
  obtain ⟨A1, c1, rfl, hc1, hm1⟩ := h1.form
  obtain ⟨A2, c2, rfl, hc2, hm2⟩ := h2.form
  obtain ⟨A3, c3, rfl, hc3, hm3⟩ := h3.form
  obtain ⟨A4, c4, rfl, hc4, hm4⟩ := h4.form
  have B0 := (Below.refl w.heap.size w).al (.cells #[.slice A1 x.1.length c1, .slice A2 x.2.1.length c2, .slice A3 x.2.2.1.length c3, .slice A4 x.2.2.2.length c4, .int .i64 s, .int .i64 p, .int .i64 r] 52)
  have bP := Blk.new_ w 52 #[.slice A1 x.1.length c1, .slice A2 x.2.1.length c2, .slice A3 x.2.2.1.length c3, .slice A4 x.2.2.2.length c4, .int .i64 s, .int .i64 p, .int .i64 r]
  obtain ⟨k, hk⟩ : ∃ k, k = workOk (x, s, p, r) := ⟨_, rfl⟩
  have hfl : k = true → flOk x = true := fun q => work_flOk (hk ▸ q)
  have HF := Lib.hid hfl
  rw [← hk]
  have HK := Lib.hid hk; clear hk hfl
  go_enter Try.func35, Try.ntmps35
  go_wp2_with fail
  refine (workOkI_any _ _ _ _ (x, s, p, r) _ (h1.below RE.stays B0) (h2.below RE.stays B0) (h3.below RE.stays B0) (h4.below RE.stays B0) hs.2.1).mono ?_
  rintro e w1 ⟨rfl, hb1⟩
  rw [← HK.out]
  have B1 := B0.tr hb1
  have bP1 := bP.bl hb1
  cases k
  · go_wp2
    go_ret
    exact ⟨rfl, B1⟩
  · have hf := HF.out rfl
    obtain ⟨z, hz⟩ : ∃ z, z = undoAllFl x := ⟨_, rfl⟩
    have hnow : z.2.2.1 = x.2.1 := by rw [hz]; exact audit_now hf
    have CU : ∀ (a1 a2 a3 a4 : Value) (w : World), Rd 1 RInt w a1 x.1 → Rd 3 RDom w a2 x.2.1 → Rd 3 RDom w a3 x.2.2.1 → Rd 2 RPair w a4 x.2.2.2 → Calls Try.prog 26 #[.agg #[a1, a2, a3, a4]] w (RetFloor z w) := fun a1 a2 a3 a4 w k1 k2 k3 k4 => by
      rw [hz]; exact undoAllI_any a1 a2 a3 a4 x w k1 k2 k3 k4 hs
    clear hz hf
    have y_0 := bP1.cell 0
    have y_1 := bP1.cell 1
    have y_2 := bP1.cell 2
    have y_3 := bP1.cell 3
    have y_4 := bP1.cell 4
    have y_5 := bP1.cell 5
    have y_6 := bP1.cell 6
    simp only [List.getElem?_toArray, List.getElem?_cons_zero, List.getElem?_cons_succ] at y_0 y_1 y_2 y_3 y_4 y_5 y_6
    go_wp2_with fail
    refine (CU _ _ _ _ _ (h1.below RE.stays B1) (h2.below RE.stays B1) (h3.below RE.stays B1) (h4.below RE.stays B1)).mono ?_
    rintro e w2 ⟨D1, d1, D2, d2, D3, d3, D4, d4, rfl, oD, hb2⟩
    have B2 := B1.tr hb2
    have bP2 := (bP1.bl hb2).alloc (.cells #[.slice D1 z.1.length d1, .slice D2 z.2.1.length d2, .slice D3 z.2.2.1.length d3, .slice D4 z.2.2.2.length d4] 34)
    have B3 := B2.al (.cells #[.slice D1 z.1.length d1, .slice D2 z.2.1.length d2, .slice D3 z.2.2.1.length d3, .slice D4 z.2.2.2.length d4] 34)
    have rc := rd_as (oD.alloc (.cells #[.slice D1 z.1.length d1, .slice D2 z.2.1.length d2, .slice D3 z.2.2.1.length d3, .slice D4 z.2.2.2.length d4] 34)).rc hnow
    have HN := Lib.hid hnow; clear hnow
    have hp0 := (bP1.bl hb2).lt
    have hn0 : w.heap.size ≠ w2.heap.size := by omega
    clear y_0 y_1 y_2 y_3 y_4 y_5 y_6
    have y_0 := bP2.cell 0
    have y_1 := bP2.cell 1
    have y_2 := bP2.cell 2
    have y_3 := bP2.cell 3
    have y_4 := bP2.cell 4
    have y_5 := bP2.cell 5
    have y_6 := bP2.cell 6
    simp only [List.getElem?_toArray, List.getElem?_cons_zero, List.getElem?_cons_succ] at y_0 y_1 y_2 y_3 y_4 y_5 y_6
    go_wp2_with fail
    refine (sameDomI_same _ _ x.2.1 _ rc (h2.below RE.stays B3)).mono ?_
    rintro e w4 ⟨rfl, hb4⟩
    go_wp2
    go_ret
    exact ⟨rfl, B3.tr hb4⟩
end Go.Proofs.Ytnlljkdfapllpaa
