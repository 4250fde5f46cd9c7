/- Boxes bought, on both sides: the walks. Conditions: sizes. -/
import Derived.Test.YtmmeomjclfgljaaGreatWkC
import Derived.Test.YtmmeomjclfgljaaGreatChooseL
namespace Go.Proofs.YtmmeomjclfgljaaGreat
open Go.ChangeShapes Go.WideShapes Go.ChangeAt Go.RowKit
set_option linter.unusedVariables false
set_option linter.unusedSimpArgs false

/-- Stock and money behind a purchase. -/
def buyTo (y : Wk) (l : List (Int × Int)) (n : Int) : Int × Int := (IntKind.i64.wrap (y.2.1 + (hold l (chosen l n)).1), IntKind.i64.wrap (y.2.2.1 + (hold l (chosen l n)).2))
def buyOk (y : Wk) (l : List (Int × Int)) (n : Int) : Bool := workOk y && decide (0 ≤ cheapest l n) && workOk (y.1, (buyTo y l n).1, (buyTo y l n).2, y.2.2.2)
def buyS (y : Wk) (l : List (Int × Int)) (n : Int) : Int := if buyOk y l n = true then (buyTo y l n).1 else y.2.1
def buyP (y : Wk) (l : List (Int × Int)) (n : Int) : Int := if buyOk y l n = true then (buyTo y l n).2 else y.2.2.1
set_option maxHeartbeats 4000000 in
set_option maxRecDepth 100000 in
theorem buyI_any (v1 v2 v3 v4 u : Value) (x : Fl) (s p r : Int) (l : List (Int × Int)) (n : Int) (w : World) (h1 : Rd 1 RInt w v1 x.1) (h2 : Rd 3 RDom w v2 x.2.1) (h3 : Rd 3 RDom w v3 x.2.2.1) (h4 : Rd 2 RPair w v4 x.2.2.2) (h5 : Rd 2 RPair w u l) (hs : Small4 x) :
    Calls Tryz.prog 9 #[.agg #[v1, v2, v3, v4, .int .i64 s, .int .i64 p, .int .i64 r], u, .int .i64 n] w (RetWkB x (buyS (x, s, p, r) l n) (buyP (x, s, p, r) l n) r (buyOk (x, s, p, r) l n) w) := by
  obtain ⟨A1, c1, rfl, hc1, hm1⟩ := h1.form
  obtain ⟨A2, c2, rfl, hc2, hm2⟩ := h2.form
  obtain ⟨A3, c3, rfl, hc3, hm3⟩ := h3.form
  obtain ⟨A4, c4, rfl, hc4, hm4⟩ := h4.form
  obtain ⟨AU, cU, rfl, hcU, hmU⟩ := h5.form
  obtain ⟨k, hk⟩ : ∃ k, k = workOk (x, s, p, r) := ⟨_, rfl⟩
  obtain ⟨ch, hch⟩ : ∃ ch, ch = cheapest l n := ⟨_, rfl⟩
  obtain ⟨cs, hcs⟩ : ∃ cs, cs = chosen l n := ⟨_, rfl⟩
  obtain ⟨t1, t2, hh⟩ : ∃ t1 t2, hold l cs = (t1, t2) := ⟨_, _, rfl⟩
  obtain ⟨s2, hs2⟩ : ∃ s2, s2 = IntKind.i64.wrap (s + t1) := ⟨_, rfl⟩
  obtain ⟨p2, hp2⟩ : ∃ p2, p2 = IntKind.i64.wrap (p + t2) := ⟨_, rfl⟩
  obtain ⟨k2, hk2⟩ : ∃ k2, k2 = workOk (x, s2, p2, r) := ⟨_, rfl⟩
  have hB : buyOk (x, s, p, r) l n = (k && decide (0 ≤ ch) && k2) := by unfold buyOk buyTo; simp only; rw [← hk, ← hch, ← hcs, hh]; simp only; rw [← hs2, ← hp2, ← hk2]
  have hS : buyS (x, s, p, r) l n = if (k && decide (0 ≤ ch) && k2) = true then s2 else s := by unfold buyS; rw [hB]; unfold buyTo; simp only; rw [← hcs, hh]; subst hs2; rfl
  have hP : buyP (x, s, p, r) l n = if (k && decide (0 ≤ ch) && k2) = true then p2 else p := by unfold buyP; rw [hB]; unfold buyTo; simp only; rw [← hcs, hh]; subst hp2; rfl
  obtain ⟨bb, hbb⟩ : ∃ q, q = (k && decide (0 ≤ ch) && k2) := ⟨_, rfl⟩
  obtain ⟨ss, hss⟩ : ∃ q, q = if (k && decide (0 ≤ ch) && k2) = true then s2 else s := ⟨_, rfl⟩
  obtain ⟨pp, hpp⟩ : ∃ q, q = if (k && decide (0 ≤ ch) && k2) = true then p2 else p := ⟨_, rfl⟩
  rw [hB, hS, hP, ← hss, ← hpp, ← hbb]
  have CK : ∀ (a1 a2 a3 a4 : Value) (w : World), Rd 1 RInt w a1 x.1 → Rd 3 RDom w a2 x.2.1 → Rd 3 RDom w a3 x.2.2.1 → Rd 2 RPair w a4 x.2.2.2 → Calls Tryz.prog 24 #[.agg #[a1, a2, a3, a4, .int .i64 s, .int .i64 p, .int .i64 r]] w (Ret (.bool k) w) := fun a1 a2 a3 a4 w k1 k2 k3 k4 => by rw [hk]; exact workOkI_any a1 a2 a3 a4 (x, s, p, r) w k1 k2 k3 k4 hs.2.1
  have CK2 : ∀ (a1 a2 a3 a4 : Value) (w : World), Rd 1 RInt w a1 x.1 → Rd 3 RDom w a2 x.2.1 → Rd 3 RDom w a3 x.2.2.1 → Rd 2 RPair w a4 x.2.2.2 → Calls Tryz.prog 24 #[.agg #[a1, a2, a3, a4, .int .i64 s2, .int .i64 p2, .int .i64 r]] w (Ret (.bool k2) w) := fun a1 a2 a3 a4 w k1 k2 k3 k4 => by rw [hk2]; exact workOkI_any a1 a2 a3 a4 (x, s2, p2, r) w k1 k2 k3 k4 hs.2.1
  have CC : ∀ (w : World), Rd 2 RPair w (.slice AU l.length cU) l → Calls Tryz.prog 25 #[.slice AU l.length cU, .int .i64 n] w (Ret (.int .i64 ch) w) := fun w k1 => by rw [hch]; exact cheapI_any _ l n w k1
  have CH : ∀ (w : World), Rd 2 RPair w (.slice AU l.length cU) l → Calls Tryz.prog 27 #[.slice AU l.length cU, .int .i64 n] w (RetOwn 3 1 eInt cs w) := fun w k1 => by rw [hcs]; exact chooseI_any _ l n w k1
  have CO : ∀ (v : Value) (w : World), Rd 2 RPair w (.slice AU l.length cU) l → Rd 1 RInt w v cs → Calls Tryz.prog 26 #[.slice AU l.length cU, v] w (Ret (.tuple #[.int .i64 t1, .int .i64 t2]) w) := fun v w k1 k2 => by have := holdI_any _ v l cs w k1 k2; rw [hh] at this; exact this
  have hw1 : IntKind.i64.wrap (s + t1) = s2 := hs2.symm
  have hw2 : IntKind.i64.wrap (p + t2) = p2 := hp2.symm
  have HB := Lib.hid hbb; have HS := Lib.hid hss; have HP := Lib.hid hpp
  clear hB hS hP hbb hss hpp hk hch hcs hh hs2 hp2 hk2
  have B0 := ((Below.refl w.heap.size w).al (.cells #[.slice A1 x.1.length c1, .slice A2 x.2.1.length c2, .slice A3 x.2.2.1.length c3, .slice A4 x.2.2.2.length c4, .int .i64 s, .int .i64 p, .int .i64 r] 40)).al (.cells #[.slice none 0 0, .slice none 0 0, .slice none 0 0, .slice none 0 0, .int .i64 0, .int .i64 0, .int .i64 0] 40)
  have bP := (Blk.new_ w 40 #[.slice A1 x.1.length c1, .slice A2 x.2.1.length c2, .slice A3 x.2.2.1.length c3, .slice A4 x.2.2.2.length c4, .int .i64 s, .int .i64 p, .int .i64 r]).alloc (.cells #[.slice none 0 0, .slice none 0 0, .slice none 0 0, .slice none 0 0, .int .i64 0, .int .i64 0, .int .i64 0] 40)
  have bR := Blk.new2 (w.alloc (.cells #[.slice A1 x.1.length c1, .slice A2 x.2.1.length c2, .slice A3 x.2.2.1.length c3, .slice A4 x.2.2.2.length c4, .int .i64 s, .int .i64 p, .int .i64 r] 40)) 40 #[.slice none 0 0, .slice none 0 0, .slice none 0 0, .slice none 0 0, .int .i64 0, .int .i64 0, .int .i64 0] (w.heap.size + 1) (by simp)
  go_enter Tryz.func9, Tryz.ntmps9
  go_wp2_with fail
  obtain ⟨W0, hW0⟩ : ∃ W0, W0 = (w.alloc (.cells #[.slice A1 x.1.length c1, .slice A2 x.2.1.length c2, .slice A3 x.2.2.1.length c3, .slice A4 x.2.2.2.length c4, .int .i64 s, .int .i64 p, .int .i64 r] 40)).alloc (.cells #[.slice none 0 0, .slice none 0 0, .slice none 0 0, .slice none 0 0, .int .i64 0, .int .i64 0, .int .i64 0] 40) := ⟨_, rfl⟩
  obtain ⟨gP, hgP⟩ : ∃ g, g = w.heap.size := ⟨_, rfl⟩
  obtain ⟨gR, hgR'⟩ : ∃ g, g = w.heap.size + 1 := ⟨_, rfl⟩
  rw [← hW0] at B0 bP bR ⊢
  rw [← hgR'] at bR ⊢
  rw [← hgP] at bP ⊢
  have hgR : w.heap.size ≤ gR := by omega
  clear hW0 hgP hgR'
  have y_0 := bP.cell 0
  have y_1 := bP.cell 1
  have y_2 := bP.cell 2
  have y_3 := bP.cell 3
  have y_4 := bP.cell 4
  have y_5 := bP.cell 5
  have y_6 := bP.cell 6
  simp only [List.getElem?_toArray, List.getElem?_cons_zero, List.getElem?_cons_succ] at y_0 y_1 y_2 y_3 y_4 y_5 y_6
  refine (copyWkI_any _ _ _ _ x s p r _ (h1.below RE.stays B0) (h2.below RE.stays B0) (h3.below RE.stays B0) (h4.below RE.stays B0) hs).mono ?_
  rintro e w1 ⟨C1, c1', C2, c2', C3, c3', C4, c4', rfl, oO, hb1⟩
  have oO := oO.mono B0.size
  have hgO : w.heap.size ≤ w1.heap.size := (B0.tr hb1).size
  have bO1 := Blk.new_ w1 40 #[.slice C1 x.1.length c1', .slice C2 x.2.1.length c2', .slice C3 x.2.2.1.length c3', .slice C4 x.2.2.2.length c4', .int .i64 s, .int .i64 p, .int .i64 r]
  have oO1 := oO.alloc (.cells #[.slice C1 x.1.length c1', .slice C2 x.2.1.length c2', .slice C3 x.2.2.1.length c3', .slice C4 x.2.2.2.length c4', .int .i64 s, .int .i64 p, .int .i64 r] 40)
  have B1 := (B0.tr hb1).al (.cells #[.slice C1 x.1.length c1', .slice C2 x.2.1.length c2', .slice C3 x.2.2.1.length c3', .slice C4 x.2.2.2.length c4', .int .i64 s, .int .i64 p, .int .i64 r] 40)
  have bP1 := (bP.bl hb1).alloc (.cells #[.slice C1 x.1.length c1', .slice C2 x.2.1.length c2', .slice C3 x.2.2.1.length c3', .slice C4 x.2.2.2.length c4', .int .i64 s, .int .i64 p, .int .i64 r] 40)
  have bR1 := (bR.bl hb1).alloc (.cells #[.slice C1 x.1.length c1', .slice C2 x.2.1.length c2', .slice C3 x.2.2.1.length c3', .slice C4 x.2.2.2.length c4', .int .i64 s, .int .i64 p, .int .i64 r] 40)
  have hRl := (bR.bl hb1).lt
  have hPl := (bP.bl hb1).lt
  have hPn : gP ≠ w1.heap.size := by omega
  clear oO y_0 y_1 y_2 y_3 y_4 y_5 y_6 hb1 B0 bP bR
  go_upto_region 2 with (fail)
  obtain ⟨W1, hW1⟩ : ∃ W1, W1 = w1.alloc (.cells #[.slice C1 x.1.length c1', .slice C2 x.2.1.length c2', .slice C3 x.2.2.1.length c3', .slice C4 x.2.2.2.length c4', .int .i64 s, .int .i64 p, .int .i64 r] 40) := ⟨_, rfl⟩
  obtain ⟨gO, hgO'⟩ : ∃ g, g = w1.heap.size := ⟨_, rfl⟩
  rw [← hW1] at bO1 oO1 B1 bP1 bR1 ⊢
  rw [← hgO'] at bO1 hPn hgO ⊢
  have hRO : gR ≠ gO := by omega
  have hOR := hRO.symm
  clear hW1 hgO' hRl hPl
  have y_0 := bP1.cell 0
  have y_1 := bP1.cell 1
  have y_2 := bP1.cell 2
  have y_3 := bP1.cell 3
  have y_4 := bP1.cell 4
  have y_5 := bP1.cell 5
  have y_6 := bP1.cell 6
  simp only [List.getElem?_toArray, List.getElem?_cons_zero, List.getElem?_cons_succ] at y_0 y_1 y_2 y_3 y_4 y_5 y_6
  go_wp2_with fail
  refine (CK _ _ _ _ _ (h1.below RE.stays B1) (h2.below RE.stays B1) (h3.below RE.stays B1) (h4.below RE.stays B1)).mono ?_
  rintro e w3 ⟨rfl, hb3⟩
  have B3 := B1.tr hb3
  have bR3 := bR1.bl hb3
  have bO3 := bO1.bl hb3
  have bP3 := bP1.bl hb3
  have oO3 := oO1.below hb3
  clear y_0 y_1 y_2 y_3 y_4 y_5 y_6 B1 bR1 bO1 bP1 oO1 hb3
  cases k
  · obtain rfl : bb = false := by rw [HB.out]; rfl
    obtain rfl : s = ss := by rw [HS.out]; rfl
    obtain rfl : p = pp := by rw [HP.out]; rfl
    have y_0 := bO3.cell 0
    have y_1 := bO3.cell 1
    have y_2 := bO3.cell 2
    have y_3 := bO3.cell 3
    have y_4 := bO3.cell 4
    have y_5 := bO3.cell 5
    have y_6 := bO3.cell 6
    simp only [List.getElem?_toArray, List.getElem?_cons_zero, List.getElem?_cons_succ] at y_0 y_1 y_2 y_3 y_4 y_5 y_6
    go_wp2_with (refine wpList_storeRow rfl 40 _ _ rfl gR #[.slice C1 x.1.length c1', .slice C2 x.2.1.length c2', .slice C3 x.2.2.1.length c3', .slice C4 x.2.2.2.length c4', .int .i64 s, .int .i64 p, .int .i64 r] rfl rfl _ _ bR3 (by kernel_rfl) rfl (by simp [Value.oneCell']) ?_; intro wE bE hgE)
    have oE : OwnFl w.heap.size wE _ _ _ _ _ := OwnFl.rowI oO3 bR3 (by decide) (by decide) (by decide) hgE
    have BE := B3.grown hgE B3.size (fun k hk => by injection hk with hk; subst hk; exact hgR)
    have q_0 := bE.cell 0
    have q_1 := bE.cell 1
    have q_2 := bE.cell 2
    have q_3 := bE.cell 3
    have q_4 := bE.cell 4
    have q_5 := bE.cell 5
    have q_6 := bE.cell 6
    simp only [List.getElem?_toArray, List.getElem?_cons_zero, List.getElem?_cons_succ] at q_0 q_1 q_2 q_3 q_4 q_5 q_6
    refine bodyPost_ret (v := .tuple #[.agg #[.slice C1 x.1.length c1', .slice C2 x.2.1.length c2', .slice C3 x.2.2.1.length c3', .slice C4 x.2.2.2.length c4', .int .i64 s, .int .i64 p, .int .i64 r], .bool false]) (by simp [results, Tryz.results9, go_sem, q_0, q_1, q_2, q_3, q_4, q_5, q_6]) rfl ⟨C1, c1', C2, c2', C3, c3', C4, c4', rfl, oE, BE⟩
  · go_wp2_with fail
    refine (CC _ (h5.below RE.stays B3)).mono ?_
    rintro e w4 ⟨rfl, hb4⟩
    have B4 := B3.tr hb4
    have bR4 := bR3.bl hb4
    have bO4 := bO3.bl hb4
    have bP4 := bP3.bl hb4
    have oO4 := oO3.below hb4
    clear B3 bR3 bO3 bP3 oO3 hb4
    by_cases hc : ch < 0
    · have hc1 : decide (ch < 0) = true := decide_eq_true hc
      have hc2 : decide (0 ≤ ch) = false := decide_eq_false (by omega)
      obtain rfl : bb = false := by rw [HB.out, hc2]; rfl
      obtain rfl : s = ss := by rw [HS.out, hc2]; rfl
      obtain rfl : p = pp := by rw [HP.out, hc2]; rfl
      have y_0 := bO4.cell 0
      have y_1 := bO4.cell 1
      have y_2 := bO4.cell 2
      have y_3 := bO4.cell 3
      have y_4 := bO4.cell 4
      have y_5 := bO4.cell 5
      have y_6 := bO4.cell 6
      simp only [List.getElem?_toArray, List.getElem?_cons_zero, List.getElem?_cons_succ] at y_0 y_1 y_2 y_3 y_4 y_5 y_6
      go_wp2_with (refine wpList_storeRow rfl 40 _ _ rfl gR #[.slice C1 x.1.length c1', .slice C2 x.2.1.length c2', .slice C3 x.2.2.1.length c3', .slice C4 x.2.2.2.length c4', .int .i64 s, .int .i64 p, .int .i64 r] rfl rfl _ _ bR4 (by kernel_rfl) rfl (by simp [Value.oneCell']) ?_; intro wE bE hgE)
      have oE : OwnFl w.heap.size wE _ _ _ _ _ := OwnFl.rowI oO4 bR4 (by decide) (by decide) (by decide) hgE
      have BE := B4.grown hgE B4.size (fun k hk => by injection hk with hk; subst hk; exact hgR)
      have q_0 := bE.cell 0
      have q_1 := bE.cell 1
      have q_2 := bE.cell 2
      have q_3 := bE.cell 3
      have q_4 := bE.cell 4
      have q_5 := bE.cell 5
      have q_6 := bE.cell 6
      simp only [List.getElem?_toArray, List.getElem?_cons_zero, List.getElem?_cons_succ] at q_0 q_1 q_2 q_3 q_4 q_5 q_6
      refine bodyPost_ret (v := .tuple #[.agg #[.slice C1 x.1.length c1', .slice C2 x.2.1.length c2', .slice C3 x.2.2.1.length c3', .slice C4 x.2.2.2.length c4', .int .i64 s, .int .i64 p, .int .i64 r], .bool false]) (by simp [results, Tryz.results9, go_sem, q_0, q_1, q_2, q_3, q_4, q_5, q_6]) rfl ⟨C1, c1', C2, c2', C3, c3', C4, c4', rfl, oE, BE⟩
    · have hc1 : decide (ch < 0) = false := decide_eq_false hc
      have hc2 : decide (0 ≤ ch) = true := decide_eq_true (by omega)
      go_wp2_with fail
      refine (CH _ (h5.below RE.stays B4)).mono ?_
      rintro e w5 ⟨AI, cI, rfl, oI, hb5⟩
      have B5 := B4.tr hb5
      have bR5 := bR4.bl hb5
      have bO5 := bO4.bl hb5
      have bP5 := bP4.bl hb5
      have oO5 := oO4.below hb5
      clear B4 bR4 bO4 bP4 oO4 hb5
      go_wp2_with fail
      refine (CO _ _ (h5.below RE.stays B5) (oI.rd lenInt (by decide))).mono ?_
      rintro e w6 ⟨rfl, hb6⟩
      have B6 := B5.tr hb6
      have bR6 := bR5.bl hb6
      have bO6 := bO5.bl hb6
      have bP6 := bP5.bl hb6
      have oO6 := oO5.below hb6
      clear B5 bR5 bO5 bP5 oO5 hb6 oI
      have y_0 := bO6.cell 0
      have y_1 := bO6.cell 1
      have y_2 := bO6.cell 2
      have y_3 := bO6.cell 3
      have y_4 := bO6.cell 4
      have y_5 := bO6.cell 5
      have y_6 := bO6.cell 6
      simp only [List.getElem?_toArray, List.getElem?_cons_zero, List.getElem?_cons_succ] at y_0 y_1 y_2 y_3 y_4 y_5 y_6
      have fO := fun j => bO6.frozen j
      have hgg := gr_set (gr_set (World.grownBy.refl w6 (some gO)) 4 (.int .i64 s2)) 5 (.int .i64 p2)
      have bO7 := (bO6.st 4 (.int .i64 s2) #[.slice C1 x.1.length c1', .slice C2 x.2.1.length c2', .slice C3 x.2.2.1.length c3', .slice C4 x.2.2.2.length c4', .int .i64 s2, .int .i64 p, .int .i64 r] rfl).st 5 (.int .i64 p2) #[.slice C1 x.1.length c1', .slice C2 x.2.1.length c2', .slice C3 x.2.2.1.length c3', .slice C4 x.2.2.2.length c4', .int .i64 s2, .int .i64 p2, .int .i64 r] rfl
      have bR7 := bR6.grown hgg (by simp; omega)
      have bP7 := bP6.grown hgg (by simp; omega)
      have oO7 := OwnFl.rowI oO6 bO6 (by decide) (by decide) (by decide) hgg
      have B7 := B6.grown hgg B6.size (fun k hk => by injection hk with hk; subst hk; exact hgO)
      go_upto_region 7 with (fail)
      obtain ⟨W7, hW7⟩ : ∃ W7, W7 = (w6.setCell ⟨gO, 4, none⟩ (.int .i64 s2)).setCell ⟨gO, 5, none⟩ (.int .i64 p2) := ⟨_, rfl⟩
      rw [← hW7] at bO7 bR7 bP7 oO7 B7 ⊢
      clear hW7 hgg y_0 y_1 y_2 y_3 y_4 y_5 y_6 fO B6 bR6 bO6 bP6 oO6
      have y_0 := bO7.cell 0
      have y_1 := bO7.cell 1
      have y_2 := bO7.cell 2
      have y_3 := bO7.cell 3
      have y_4 := bO7.cell 4
      have y_5 := bO7.cell 5
      have y_6 := bO7.cell 6
      simp only [List.getElem?_toArray, List.getElem?_cons_zero, List.getElem?_cons_succ] at y_0 y_1 y_2 y_3 y_4 y_5 y_6
      go_wp2_with fail
      refine (CK2 _ _ _ _ _ oO7.ra oO7.rb oO7.rc oO7.rd).mono ?_
      rintro e w8 ⟨rfl, hb8⟩
      have B8 := B7.tr hb8
      have bR8 := bR7.bl hb8
      have bO8 := bO7.bl hb8
      have bP8 := bP7.bl hb8
      have oO8 := oO7.below hb8
      clear y_0 y_1 y_2 y_3 y_4 y_5 y_6 B7 bR7 bO7 bP7 oO7 hb8
      cases k2
      · obtain rfl : bb = false := by rw [HB.out, hc2]; rfl
        obtain rfl : s = ss := by rw [HS.out, hc2]; rfl
        obtain rfl : p = pp := by rw [HP.out, hc2]; rfl
        have y_0 := bP8.cell 0
        have y_1 := bP8.cell 1
        have y_2 := bP8.cell 2
        have y_3 := bP8.cell 3
        have y_4 := bP8.cell 4
        have y_5 := bP8.cell 5
        have y_6 := bP8.cell 6
        simp only [List.getElem?_toArray, List.getElem?_cons_zero, List.getElem?_cons_succ] at y_0 y_1 y_2 y_3 y_4 y_5 y_6
        go_wp2_with fail
        refine (copyWkI_any _ _ _ _ x s p r _ (h1.below RE.stays B8) (h2.below RE.stays B8) (h3.below RE.stays B8) (h4.below RE.stays B8) hs).mono ?_
        rintro e w9 ⟨D1, d1, D2, d2, D3, d3, D4, d4, rfl, oD, hb9⟩
        have oD := oD.mono B8.size
        have B9 := B8.tr hb9
        have bR9 := bR8.bl hb9
        go_wp2_with (refine wpList_storeRow rfl 40 _ _ rfl gR #[.slice D1 x.1.length d1, .slice D2 x.2.1.length d2, .slice D3 x.2.2.1.length d3, .slice D4 x.2.2.2.length d4, .int .i64 s, .int .i64 p, .int .i64 r] rfl rfl _ _ bR9 (by kernel_rfl) rfl (by simp [Value.oneCell']) ?_; intro wE bE hgE)
        have oE : OwnFl w.heap.size wE _ _ _ _ _ := OwnFl.rowI oD bR9 (by decide) (by decide) (by decide) hgE
        have BE := B9.grown hgE B9.size (fun k hk => by injection hk with hk; subst hk; exact hgR)
        have q_0 := bE.cell 0
        have q_1 := bE.cell 1
        have q_2 := bE.cell 2
        have q_3 := bE.cell 3
        have q_4 := bE.cell 4
        have q_5 := bE.cell 5
        have q_6 := bE.cell 6
        simp only [List.getElem?_toArray, List.getElem?_cons_zero, List.getElem?_cons_succ] at q_0 q_1 q_2 q_3 q_4 q_5 q_6
        refine bodyPost_ret (v := .tuple #[.agg #[.slice D1 x.1.length d1, .slice D2 x.2.1.length d2, .slice D3 x.2.2.1.length d3, .slice D4 x.2.2.2.length d4, .int .i64 s, .int .i64 p, .int .i64 r], .bool false]) (by simp [results, Tryz.results9, go_sem, q_0, q_1, q_2, q_3, q_4, q_5, q_6]) rfl ⟨D1, d1, D2, d2, D3, d3, D4, d4, rfl, oE, BE⟩
      · obtain rfl : bb = true := by rw [HB.out, hc2]; rfl
        obtain rfl : s2 = ss := by rw [HS.out, hc2]; rfl
        obtain rfl : p2 = pp := by rw [HP.out, hc2]; rfl
        have y_0 := bO8.cell 0
        have y_1 := bO8.cell 1
        have y_2 := bO8.cell 2
        have y_3 := bO8.cell 3
        have y_4 := bO8.cell 4
        have y_5 := bO8.cell 5
        have y_6 := bO8.cell 6
        simp only [List.getElem?_toArray, List.getElem?_cons_zero, List.getElem?_cons_succ] at y_0 y_1 y_2 y_3 y_4 y_5 y_6
        go_wp2_with (refine wpList_storeRow rfl 40 _ _ rfl gR #[.slice C1 x.1.length c1', .slice C2 x.2.1.length c2', .slice C3 x.2.2.1.length c3', .slice C4 x.2.2.2.length c4', .int .i64 s2, .int .i64 p2, .int .i64 r] rfl rfl _ _ bR8 (by kernel_rfl) rfl (by simp [Value.oneCell']) ?_; intro wE bE hgE)
        have oE : OwnFl w.heap.size wE _ _ _ _ _ := OwnFl.rowI oO8 bR8 (by decide) (by decide) (by decide) hgE
        have BE := B8.grown hgE B8.size (fun k hk => by injection hk with hk; subst hk; exact hgR)
        have q_0 := bE.cell 0
        have q_1 := bE.cell 1
        have q_2 := bE.cell 2
        have q_3 := bE.cell 3
        have q_4 := bE.cell 4
        have q_5 := bE.cell 5
        have q_6 := bE.cell 6
        simp only [List.getElem?_toArray, List.getElem?_cons_zero, List.getElem?_cons_succ] at q_0 q_1 q_2 q_3 q_4 q_5 q_6
        refine bodyPost_ret (v := .tuple #[.agg #[.slice C1 x.1.length c1', .slice C2 x.2.1.length c2', .slice C3 x.2.2.1.length c3', .slice C4 x.2.2.2.length c4', .int .i64 s2, .int .i64 p2, .int .i64 r], .bool true]) (by simp [results, Tryz.results9, go_sem, q_0, q_1, q_2, q_3, q_4, q_5, q_6]) rfl ⟨C1, c1', C2, c2', C3, c3', C4, c4', rfl, oE, BE⟩
set_option maxHeartbeats 4000000 in
set_option maxRecDepth 100000 in
theorem buyS_any (v1 v2 v3 v4 u : Value) (x : Fl) (s p r : Int) (l : List (Int × Int)) (n : Int) (w : World) (h1 : Rd 1 RInt w v1 x.1) (h2 : Rd 3 RDom w v2 x.2.1) (h3 : Rd 3 RDom w v3 x.2.2.1) (h4 : Rd 2 RPair w v4 x.2.2.2) (h5 : Rd 2 RPair w u l) (hs : Small4 x) :
    Calls Tryz.prog 6 #[.agg #[v1, v2, v3, v4, .int .i64 s, .int .i64 p, .int .i64 r], u, .int .i64 n] w (RetWkB x (buyS (x, s, p, r) l n) (buyP (x, s, p, r) l n) r (buyOk (x, s, p, r) l n) w) := by
  obtain ⟨A1, c1, rfl, hc1, hm1⟩ := h1.form
  obtain ⟨A2, c2, rfl, hc2, hm2⟩ := h2.form
  obtain ⟨A3, c3, rfl, hc3, hm3⟩ := h3.form
  obtain ⟨A4, c4, rfl, hc4, hm4⟩ := h4.form
  obtain ⟨AU, cU, rfl, hcU, hmU⟩ := h5.form
  obtain ⟨k, hk⟩ : ∃ k, k = workOk (x, s, p, r) := ⟨_, rfl⟩
  obtain ⟨ch, hch⟩ : ∃ ch, ch = cheapest l n := ⟨_, rfl⟩
  obtain ⟨cs, hcs⟩ : ∃ cs, cs = chosen l n := ⟨_, rfl⟩
  obtain ⟨t1, t2, hh⟩ : ∃ t1 t2, hold l cs = (t1, t2) := ⟨_, _, rfl⟩
  obtain ⟨s2, hs2⟩ : ∃ s2, s2 = IntKind.i64.wrap (s + t1) := ⟨_, rfl⟩
  obtain ⟨p2, hp2⟩ : ∃ p2, p2 = IntKind.i64.wrap (p + t2) := ⟨_, rfl⟩
  obtain ⟨k2, hk2⟩ : ∃ k2, k2 = workOk (x, s2, p2, r) := ⟨_, rfl⟩
  have hB : buyOk (x, s, p, r) l n = (k && decide (0 ≤ ch) && k2) := by unfold buyOk buyTo; simp only; rw [← hk, ← hch, ← hcs, hh]; simp only; rw [← hs2, ← hp2, ← hk2]
  have hS : buyS (x, s, p, r) l n = if (k && decide (0 ≤ ch) && k2) = true then s2 else s := by unfold buyS; rw [hB]; unfold buyTo; simp only; rw [← hcs, hh]; subst hs2; rfl
  have hP : buyP (x, s, p, r) l n = if (k && decide (0 ≤ ch) && k2) = true then p2 else p := by unfold buyP; rw [hB]; unfold buyTo; simp only; rw [← hcs, hh]; subst hp2; rfl
  obtain ⟨bb, hbb⟩ : ∃ q, q = (k && decide (0 ≤ ch) && k2) := ⟨_, rfl⟩
  obtain ⟨ss, hss⟩ : ∃ q, q = if (k && decide (0 ≤ ch) && k2) = true then s2 else s := ⟨_, rfl⟩
  obtain ⟨pp, hpp⟩ : ∃ q, q = if (k && decide (0 ≤ ch) && k2) = true then p2 else p := ⟨_, rfl⟩
  rw [hB, hS, hP, ← hss, ← hpp, ← hbb]
  have CK : ∀ (a1 a2 a3 a4 : Value) (w : World), Rd 1 RInt w a1 x.1 → Rd 3 RDom w a2 x.2.1 → Rd 3 RDom w a3 x.2.2.1 → Rd 2 RPair w a4 x.2.2.2 → Calls Tryz.prog 17 #[.agg #[a1, a2, a3, a4, .int .i64 s, .int .i64 p, .int .i64 r]] w (Ret (.bool k) w) := fun a1 a2 a3 a4 w k1 k2 k3 k4 => by rw [hk]; exact workOkS_any a1 a2 a3 a4 (x, s, p, r) w k1 k2 k3 k4 hs.2.1
  have CK2 : ∀ (a1 a2 a3 a4 : Value) (w : World), Rd 1 RInt w a1 x.1 → Rd 3 RDom w a2 x.2.1 → Rd 3 RDom w a3 x.2.2.1 → Rd 2 RPair w a4 x.2.2.2 → Calls Tryz.prog 17 #[.agg #[a1, a2, a3, a4, .int .i64 s2, .int .i64 p2, .int .i64 r]] w (Ret (.bool k2) w) := fun a1 a2 a3 a4 w k1 k2 k3 k4 => by rw [hk2]; exact workOkS_any a1 a2 a3 a4 (x, s2, p2, r) w k1 k2 k3 k4 hs.2.1
  have CC : ∀ (w : World), Rd 2 RPair w (.slice AU l.length cU) l → Calls Tryz.prog 18 #[.slice AU l.length cU, .int .i64 n] w (Ret (.int .i64 ch) w) := fun w k1 => by rw [hch]; exact cheapS_any _ l n w k1
  have CH : ∀ (w : World), Rd 2 RPair w (.slice AU l.length cU) l → Calls Tryz.prog 20 #[.slice AU l.length cU, .int .i64 n] w (RetOwn 3 1 eInt cs w) := fun w k1 => by rw [hcs]; exact chooseS_any _ l n w k1
  have CO : ∀ (v : Value) (w : World), Rd 2 RPair w (.slice AU l.length cU) l → Rd 1 RInt w v cs → Calls Tryz.prog 19 #[.slice AU l.length cU, v] w (Ret (.tuple #[.int .i64 t1, .int .i64 t2]) w) := fun v w k1 k2 => by have := holdS_any _ v l cs w k1 k2; rw [hh] at this; exact this
  have hw1 : IntKind.i64.wrap (s + t1) = s2 := hs2.symm
  have hw2 : IntKind.i64.wrap (p + t2) = p2 := hp2.symm
  have HB := Lib.hid hbb; have HS := Lib.hid hss; have HP := Lib.hid hpp
  clear hB hS hP hbb hss hpp hk hch hcs hh hs2 hp2 hk2
  have B0 := ((Below.refl w.heap.size w).al (.cells #[.slice A1 x.1.length c1, .slice A2 x.2.1.length c2, .slice A3 x.2.2.1.length c3, .slice A4 x.2.2.2.length c4, .int .i64 s, .int .i64 p, .int .i64 r] 40)).al (.cells #[.slice none 0 0, .slice none 0 0, .slice none 0 0, .slice none 0 0, .int .i64 0, .int .i64 0, .int .i64 0] 40)
  have bP := (Blk.new_ w 40 #[.slice A1 x.1.length c1, .slice A2 x.2.1.length c2, .slice A3 x.2.2.1.length c3, .slice A4 x.2.2.2.length c4, .int .i64 s, .int .i64 p, .int .i64 r]).alloc (.cells #[.slice none 0 0, .slice none 0 0, .slice none 0 0, .slice none 0 0, .int .i64 0, .int .i64 0, .int .i64 0] 40)
  have bR := Blk.new2 (w.alloc (.cells #[.slice A1 x.1.length c1, .slice A2 x.2.1.length c2, .slice A3 x.2.2.1.length c3, .slice A4 x.2.2.2.length c4, .int .i64 s, .int .i64 p, .int .i64 r] 40)) 40 #[.slice none 0 0, .slice none 0 0, .slice none 0 0, .slice none 0 0, .int .i64 0, .int .i64 0, .int .i64 0] (w.heap.size + 1) (by simp)
  go_enter Tryz.func6, Tryz.ntmps6
  go_wp2_with fail
  obtain ⟨W0, hW0⟩ : ∃ W0, W0 = (w.alloc (.cells #[.slice A1 x.1.length c1, .slice A2 x.2.1.length c2, .slice A3 x.2.2.1.length c3, .slice A4 x.2.2.2.length c4, .int .i64 s, .int .i64 p, .int .i64 r] 40)).alloc (.cells #[.slice none 0 0, .slice none 0 0, .slice none 0 0, .slice none 0 0, .int .i64 0, .int .i64 0, .int .i64 0] 40) := ⟨_, rfl⟩
  obtain ⟨gP, hgP⟩ : ∃ g, g = w.heap.size := ⟨_, rfl⟩
  obtain ⟨gR, hgR'⟩ : ∃ g, g = w.heap.size + 1 := ⟨_, rfl⟩
  rw [← hW0] at B0 bP bR ⊢
  rw [← hgR'] at bR ⊢
  rw [← hgP] at bP ⊢
  have hgR : w.heap.size ≤ gR := by omega
  clear hW0 hgP hgR'
  have y_0 := bP.cell 0
  have y_1 := bP.cell 1
  have y_2 := bP.cell 2
  have y_3 := bP.cell 3
  have y_4 := bP.cell 4
  have y_5 := bP.cell 5
  have y_6 := bP.cell 6
  simp only [List.getElem?_toArray, List.getElem?_cons_zero, List.getElem?_cons_succ] at y_0 y_1 y_2 y_3 y_4 y_5 y_6
  refine (copyWkS_any _ _ _ _ x s p r _ (h1.below RE.stays B0) (h2.below RE.stays B0) (h3.below RE.stays B0) (h4.below RE.stays B0) hs).mono ?_
  rintro e w1 ⟨C1, c1', C2, c2', C3, c3', C4, c4', rfl, oO, hb1⟩
  have oO := oO.mono B0.size
  have hgO : w.heap.size ≤ w1.heap.size := (B0.tr hb1).size
  have bO1 := Blk.new_ w1 40 #[.slice C1 x.1.length c1', .slice C2 x.2.1.length c2', .slice C3 x.2.2.1.length c3', .slice C4 x.2.2.2.length c4', .int .i64 s, .int .i64 p, .int .i64 r]
  have oO1 := oO.alloc (.cells #[.slice C1 x.1.length c1', .slice C2 x.2.1.length c2', .slice C3 x.2.2.1.length c3', .slice C4 x.2.2.2.length c4', .int .i64 s, .int .i64 p, .int .i64 r] 40)
  have B1 := (B0.tr hb1).al (.cells #[.slice C1 x.1.length c1', .slice C2 x.2.1.length c2', .slice C3 x.2.2.1.length c3', .slice C4 x.2.2.2.length c4', .int .i64 s, .int .i64 p, .int .i64 r] 40)
  have bP1 := (bP.bl hb1).alloc (.cells #[.slice C1 x.1.length c1', .slice C2 x.2.1.length c2', .slice C3 x.2.2.1.length c3', .slice C4 x.2.2.2.length c4', .int .i64 s, .int .i64 p, .int .i64 r] 40)
  have bR1 := (bR.bl hb1).alloc (.cells #[.slice C1 x.1.length c1', .slice C2 x.2.1.length c2', .slice C3 x.2.2.1.length c3', .slice C4 x.2.2.2.length c4', .int .i64 s, .int .i64 p, .int .i64 r] 40)
  have hRl := (bR.bl hb1).lt
  have hPl := (bP.bl hb1).lt
  have hPn : gP ≠ w1.heap.size := by omega
  clear oO y_0 y_1 y_2 y_3 y_4 y_5 y_6 hb1 B0 bP bR
  go_upto_region 2 with (fail)
  obtain ⟨W1, hW1⟩ : ∃ W1, W1 = w1.alloc (.cells #[.slice C1 x.1.length c1', .slice C2 x.2.1.length c2', .slice C3 x.2.2.1.length c3', .slice C4 x.2.2.2.length c4', .int .i64 s, .int .i64 p, .int .i64 r] 40) := ⟨_, rfl⟩
  obtain ⟨gO, hgO'⟩ : ∃ g, g = w1.heap.size := ⟨_, rfl⟩
  rw [← hW1] at bO1 oO1 B1 bP1 bR1 ⊢
  rw [← hgO'] at bO1 hPn hgO ⊢
  have hRO : gR ≠ gO := by omega
  have hOR := hRO.symm
  clear hW1 hgO' hRl hPl
  have y_0 := bP1.cell 0
  have y_1 := bP1.cell 1
  have y_2 := bP1.cell 2
  have y_3 := bP1.cell 3
  have y_4 := bP1.cell 4
  have y_5 := bP1.cell 5
  have y_6 := bP1.cell 6
  simp only [List.getElem?_toArray, List.getElem?_cons_zero, List.getElem?_cons_succ] at y_0 y_1 y_2 y_3 y_4 y_5 y_6
  go_wp2_with fail
  refine (CK _ _ _ _ _ (h1.below RE.stays B1) (h2.below RE.stays B1) (h3.below RE.stays B1) (h4.below RE.stays B1)).mono ?_
  rintro e w3 ⟨rfl, hb3⟩
  have B3 := B1.tr hb3
  have bR3 := bR1.bl hb3
  have bO3 := bO1.bl hb3
  have bP3 := bP1.bl hb3
  have oO3 := oO1.below hb3
  clear y_0 y_1 y_2 y_3 y_4 y_5 y_6 B1 bR1 bO1 bP1 oO1 hb3
  cases k
  · obtain rfl : bb = false := by rw [HB.out]; rfl
    obtain rfl : s = ss := by rw [HS.out]; rfl
    obtain rfl : p = pp := by rw [HP.out]; rfl
    have y_0 := bO3.cell 0
    have y_1 := bO3.cell 1
    have y_2 := bO3.cell 2
    have y_3 := bO3.cell 3
    have y_4 := bO3.cell 4
    have y_5 := bO3.cell 5
    have y_6 := bO3.cell 6
    simp only [List.getElem?_toArray, List.getElem?_cons_zero, List.getElem?_cons_succ] at y_0 y_1 y_2 y_3 y_4 y_5 y_6
    go_wp2_with (refine wpList_storeRow rfl 40 _ _ rfl gR #[.slice C1 x.1.length c1', .slice C2 x.2.1.length c2', .slice C3 x.2.2.1.length c3', .slice C4 x.2.2.2.length c4', .int .i64 s, .int .i64 p, .int .i64 r] rfl rfl _ _ bR3 (by kernel_rfl) rfl (by simp [Value.oneCell']) ?_; intro wE bE hgE)
    have oE : OwnFl w.heap.size wE _ _ _ _ _ := OwnFl.rowI oO3 bR3 (by decide) (by decide) (by decide) hgE
    have BE := B3.grown hgE B3.size (fun k hk => by injection hk with hk; subst hk; exact hgR)
    have q_0 := bE.cell 0
    have q_1 := bE.cell 1
    have q_2 := bE.cell 2
    have q_3 := bE.cell 3
    have q_4 := bE.cell 4
    have q_5 := bE.cell 5
    have q_6 := bE.cell 6
    simp only [List.getElem?_toArray, List.getElem?_cons_zero, List.getElem?_cons_succ] at q_0 q_1 q_2 q_3 q_4 q_5 q_6
    refine bodyPost_ret (v := .tuple #[.agg #[.slice C1 x.1.length c1', .slice C2 x.2.1.length c2', .slice C3 x.2.2.1.length c3', .slice C4 x.2.2.2.length c4', .int .i64 s, .int .i64 p, .int .i64 r], .bool false]) (by simp [results, Tryz.results6, go_sem, q_0, q_1, q_2, q_3, q_4, q_5, q_6]) rfl ⟨C1, c1', C2, c2', C3, c3', C4, c4', rfl, oE, BE⟩
  · go_wp2_with fail
    refine (CC _ (h5.below RE.stays B3)).mono ?_
    rintro e w4 ⟨rfl, hb4⟩
    have B4 := B3.tr hb4
    have bR4 := bR3.bl hb4
    have bO4 := bO3.bl hb4
    have bP4 := bP3.bl hb4
    have oO4 := oO3.below hb4
    clear B3 bR3 bO3 bP3 oO3 hb4
    by_cases hc : ch < 0
    · have hc1 : decide (ch < 0) = true := decide_eq_true hc
      have hc2 : decide (0 ≤ ch) = false := decide_eq_false (by omega)
      obtain rfl : bb = false := by rw [HB.out, hc2]; rfl
      obtain rfl : s = ss := by rw [HS.out, hc2]; rfl
      obtain rfl : p = pp := by rw [HP.out, hc2]; rfl
      have y_0 := bO4.cell 0
      have y_1 := bO4.cell 1
      have y_2 := bO4.cell 2
      have y_3 := bO4.cell 3
      have y_4 := bO4.cell 4
      have y_5 := bO4.cell 5
      have y_6 := bO4.cell 6
      simp only [List.getElem?_toArray, List.getElem?_cons_zero, List.getElem?_cons_succ] at y_0 y_1 y_2 y_3 y_4 y_5 y_6
      go_wp2_with (refine wpList_storeRow rfl 40 _ _ rfl gR #[.slice C1 x.1.length c1', .slice C2 x.2.1.length c2', .slice C3 x.2.2.1.length c3', .slice C4 x.2.2.2.length c4', .int .i64 s, .int .i64 p, .int .i64 r] rfl rfl _ _ bR4 (by kernel_rfl) rfl (by simp [Value.oneCell']) ?_; intro wE bE hgE)
      have oE : OwnFl w.heap.size wE _ _ _ _ _ := OwnFl.rowI oO4 bR4 (by decide) (by decide) (by decide) hgE
      have BE := B4.grown hgE B4.size (fun k hk => by injection hk with hk; subst hk; exact hgR)
      have q_0 := bE.cell 0
      have q_1 := bE.cell 1
      have q_2 := bE.cell 2
      have q_3 := bE.cell 3
      have q_4 := bE.cell 4
      have q_5 := bE.cell 5
      have q_6 := bE.cell 6
      simp only [List.getElem?_toArray, List.getElem?_cons_zero, List.getElem?_cons_succ] at q_0 q_1 q_2 q_3 q_4 q_5 q_6
      refine bodyPost_ret (v := .tuple #[.agg #[.slice C1 x.1.length c1', .slice C2 x.2.1.length c2', .slice C3 x.2.2.1.length c3', .slice C4 x.2.2.2.length c4', .int .i64 s, .int .i64 p, .int .i64 r], .bool false]) (by simp [results, Tryz.results6, go_sem, q_0, q_1, q_2, q_3, q_4, q_5, q_6]) rfl ⟨C1, c1', C2, c2', C3, c3', C4, c4', rfl, oE, BE⟩
    · have hc1 : decide (ch < 0) = false := decide_eq_false hc
      have hc2 : decide (0 ≤ ch) = true := decide_eq_true (by omega)
      go_wp2_with fail
      refine (CH _ (h5.below RE.stays B4)).mono ?_
      rintro e w5 ⟨AI, cI, rfl, oI, hb5⟩
      have B5 := B4.tr hb5
      have bR5 := bR4.bl hb5
      have bO5 := bO4.bl hb5
      have bP5 := bP4.bl hb5
      have oO5 := oO4.below hb5
      clear B4 bR4 bO4 bP4 oO4 hb5
      go_wp2_with fail
      refine (CO _ _ (h5.below RE.stays B5) (oI.rd lenInt (by decide))).mono ?_
      rintro e w6 ⟨rfl, hb6⟩
      have B6 := B5.tr hb6
      have bR6 := bR5.bl hb6
      have bO6 := bO5.bl hb6
      have bP6 := bP5.bl hb6
      have oO6 := oO5.below hb6
      clear B5 bR5 bO5 bP5 oO5 hb6 oI
      have y_0 := bO6.cell 0
      have y_1 := bO6.cell 1
      have y_2 := bO6.cell 2
      have y_3 := bO6.cell 3
      have y_4 := bO6.cell 4
      have y_5 := bO6.cell 5
      have y_6 := bO6.cell 6
      simp only [List.getElem?_toArray, List.getElem?_cons_zero, List.getElem?_cons_succ] at y_0 y_1 y_2 y_3 y_4 y_5 y_6
      have fO := fun j => bO6.frozen j
      have hgg := gr_set (gr_set (World.grownBy.refl w6 (some gO)) 4 (.int .i64 s2)) 5 (.int .i64 p2)
      have bO7 := (bO6.st 4 (.int .i64 s2) #[.slice C1 x.1.length c1', .slice C2 x.2.1.length c2', .slice C3 x.2.2.1.length c3', .slice C4 x.2.2.2.length c4', .int .i64 s2, .int .i64 p, .int .i64 r] rfl).st 5 (.int .i64 p2) #[.slice C1 x.1.length c1', .slice C2 x.2.1.length c2', .slice C3 x.2.2.1.length c3', .slice C4 x.2.2.2.length c4', .int .i64 s2, .int .i64 p2, .int .i64 r] rfl
      have bR7 := bR6.grown hgg (by simp; omega)
      have bP7 := bP6.grown hgg (by simp; omega)
      have oO7 := OwnFl.rowI oO6 bO6 (by decide) (by decide) (by decide) hgg
      have B7 := B6.grown hgg B6.size (fun k hk => by injection hk with hk; subst hk; exact hgO)
      go_upto_region 7 with (fail)
      obtain ⟨W7, hW7⟩ : ∃ W7, W7 = (w6.setCell ⟨gO, 4, none⟩ (.int .i64 s2)).setCell ⟨gO, 5, none⟩ (.int .i64 p2) := ⟨_, rfl⟩
      rw [← hW7] at bO7 bR7 bP7 oO7 B7 ⊢
      clear hW7 hgg y_0 y_1 y_2 y_3 y_4 y_5 y_6 fO B6 bR6 bO6 bP6 oO6
      have y_0 := bO7.cell 0
      have y_1 := bO7.cell 1
      have y_2 := bO7.cell 2
      have y_3 := bO7.cell 3
      have y_4 := bO7.cell 4
      have y_5 := bO7.cell 5
      have y_6 := bO7.cell 6
      simp only [List.getElem?_toArray, List.getElem?_cons_zero, List.getElem?_cons_succ] at y_0 y_1 y_2 y_3 y_4 y_5 y_6
      go_wp2_with fail
      refine (CK2 _ _ _ _ _ oO7.ra oO7.rb oO7.rc oO7.rd).mono ?_
      rintro e w8 ⟨rfl, hb8⟩
      have B8 := B7.tr hb8
      have bR8 := bR7.bl hb8
      have bO8 := bO7.bl hb8
      have bP8 := bP7.bl hb8
      have oO8 := oO7.below hb8
      clear y_0 y_1 y_2 y_3 y_4 y_5 y_6 B7 bR7 bO7 bP7 oO7 hb8
      cases k2
      · obtain rfl : bb = false := by rw [HB.out, hc2]; rfl
        obtain rfl : s = ss := by rw [HS.out, hc2]; rfl
        obtain rfl : p = pp := by rw [HP.out, hc2]; rfl
        have y_0 := bP8.cell 0
        have y_1 := bP8.cell 1
        have y_2 := bP8.cell 2
        have y_3 := bP8.cell 3
        have y_4 := bP8.cell 4
        have y_5 := bP8.cell 5
        have y_6 := bP8.cell 6
        simp only [List.getElem?_toArray, List.getElem?_cons_zero, List.getElem?_cons_succ] at y_0 y_1 y_2 y_3 y_4 y_5 y_6
        go_wp2_with fail
        refine (copyWkS_any _ _ _ _ x s p r _ (h1.below RE.stays B8) (h2.below RE.stays B8) (h3.below RE.stays B8) (h4.below RE.stays B8) hs).mono ?_
        rintro e w9 ⟨D1, d1, D2, d2, D3, d3, D4, d4, rfl, oD, hb9⟩
        have oD := oD.mono B8.size
        have B9 := B8.tr hb9
        have bR9 := bR8.bl hb9
        go_wp2_with (refine wpList_storeRow rfl 40 _ _ rfl gR #[.slice D1 x.1.length d1, .slice D2 x.2.1.length d2, .slice D3 x.2.2.1.length d3, .slice D4 x.2.2.2.length d4, .int .i64 s, .int .i64 p, .int .i64 r] rfl rfl _ _ bR9 (by kernel_rfl) rfl (by simp [Value.oneCell']) ?_; intro wE bE hgE)
        have oE : OwnFl w.heap.size wE _ _ _ _ _ := OwnFl.rowI oD bR9 (by decide) (by decide) (by decide) hgE
        have BE := B9.grown hgE B9.size (fun k hk => by injection hk with hk; subst hk; exact hgR)
        have q_0 := bE.cell 0
        have q_1 := bE.cell 1
        have q_2 := bE.cell 2
        have q_3 := bE.cell 3
        have q_4 := bE.cell 4
        have q_5 := bE.cell 5
        have q_6 := bE.cell 6
        simp only [List.getElem?_toArray, List.getElem?_cons_zero, List.getElem?_cons_succ] at q_0 q_1 q_2 q_3 q_4 q_5 q_6
        refine bodyPost_ret (v := .tuple #[.agg #[.slice D1 x.1.length d1, .slice D2 x.2.1.length d2, .slice D3 x.2.2.1.length d3, .slice D4 x.2.2.2.length d4, .int .i64 s, .int .i64 p, .int .i64 r], .bool false]) (by simp [results, Tryz.results6, go_sem, q_0, q_1, q_2, q_3, q_4, q_5, q_6]) rfl ⟨D1, d1, D2, d2, D3, d3, D4, d4, rfl, oE, BE⟩
      · obtain rfl : bb = true := by rw [HB.out, hc2]; rfl
        obtain rfl : s2 = ss := by rw [HS.out, hc2]; rfl
        obtain rfl : p2 = pp := by rw [HP.out, hc2]; rfl
        have y_0 := bO8.cell 0
        have y_1 := bO8.cell 1
        have y_2 := bO8.cell 2
        have y_3 := bO8.cell 3
        have y_4 := bO8.cell 4
        have y_5 := bO8.cell 5
        have y_6 := bO8.cell 6
        simp only [List.getElem?_toArray, List.getElem?_cons_zero, List.getElem?_cons_succ] at y_0 y_1 y_2 y_3 y_4 y_5 y_6
        go_wp2_with (refine wpList_storeRow rfl 40 _ _ rfl gR #[.slice C1 x.1.length c1', .slice C2 x.2.1.length c2', .slice C3 x.2.2.1.length c3', .slice C4 x.2.2.2.length c4', .int .i64 s2, .int .i64 p2, .int .i64 r] rfl rfl _ _ bR8 (by kernel_rfl) rfl (by simp [Value.oneCell']) ?_; intro wE bE hgE)
        have oE : OwnFl w.heap.size wE _ _ _ _ _ := OwnFl.rowI oO8 bR8 (by decide) (by decide) (by decide) hgE
        have BE := B8.grown hgE B8.size (fun k hk => by injection hk with hk; subst hk; exact hgR)
        have q_0 := bE.cell 0
        have q_1 := bE.cell 1
        have q_2 := bE.cell 2
        have q_3 := bE.cell 3
        have q_4 := bE.cell 4
        have q_5 := bE.cell 5
        have q_6 := bE.cell 6
        simp only [List.getElem?_toArray, List.getElem?_cons_zero, List.getElem?_cons_succ] at q_0 q_1 q_2 q_3 q_4 q_5 q_6
        refine bodyPost_ret (v := .tuple #[.agg #[.slice C1 x.1.length c1', .slice C2 x.2.1.length c2', .slice C3 x.2.2.1.length c3', .slice C4 x.2.2.2.length c4', .int .i64 s2, .int .i64 p2, .int .i64 r], .bool true]) (by simp [results, Tryz.results6, go_sem, q_0, q_1, q_2, q_3, q_4, q_5, q_6]) rfl ⟨C1, c1', C2, c2', C3, c3', C4, c4', rfl, oE, BE⟩
end Go.Proofs.YtmmeomjclfgljaaGreat
