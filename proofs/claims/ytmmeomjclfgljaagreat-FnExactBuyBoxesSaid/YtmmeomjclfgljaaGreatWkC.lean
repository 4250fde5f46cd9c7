/- Workshops copied, on both sides. Conditions: sizes. -/
import Derived.Test.YtmmeomjclfgljaaGreatLawBase
import Derived.Test.YtmmeomjclfgljaaGreatFlCopyI
import Derived.Test.YtmmeomjclfgljaaGreatFlCopy
import Derived.Test.YtmmeomjclfgljaaGreatFloorOkL
namespace Go.Proofs.YtmmeomjclfgljaaGreat
open Go.ChangeShapes Go.WideShapes Go.ChangeAt Go.RowKit
set_option linter.unusedVariables false
set_option linter.unusedSimpArgs false

set_option maxHeartbeats 4000000 in
set_option maxRecDepth 100000 in
theorem copyWkI_any (v1 v2 v3 v4 : Value) (x : Fl) (s p r : Int) (w : World) (h1 : Rd 1 RInt w v1 x.1) (h2 : Rd 3 RDom w v2 x.2.1) (h3 : Rd 3 RDom w v3 x.2.2.1) (h4 : Rd 2 RPair w v4 x.2.2.2) (hs : Small4 x) :
    Calls Tryz.prog 23 #[.agg #[v1, v2, v3, v4, .int .i64 s, .int .i64 p, .int .i64 r]] w (RetWk x s p r w) := by
  obtain ⟨A1, c1, rfl, hc1, hm1⟩ := h1.form
  obtain ⟨A2, c2, rfl, hc2, hm2⟩ := h2.form
  obtain ⟨A3, c3, rfl, hc3, hm3⟩ := h3.form
  obtain ⟨A4, c4, rfl, hc4, hm4⟩ := h4.form
  have B0 := (((Below.refl w.heap.size w).al (.cells #[.slice A1 x.1.length c1, .slice A2 x.2.1.length c2, .slice A3 x.2.2.1.length c3, .slice A4 x.2.2.2.length c4, .int .i64 s, .int .i64 p, .int .i64 r] 40)).al (.cells #[.slice none 0 0, .slice none 0 0, .slice none 0 0, .slice none 0 0, .int .i64 0, .int .i64 0, .int .i64 0] 40)).al (.cells #[.slice A1 x.1.length c1, .slice A2 x.2.1.length c2, .slice A3 x.2.2.1.length c3, .slice A4 x.2.2.2.length c4, .int .i64 s, .int .i64 p, .int .i64 r] 40)
  have bP := ((Blk.new_ w 40 #[.slice A1 x.1.length c1, .slice A2 x.2.1.length c2, .slice A3 x.2.2.1.length c3, .slice A4 x.2.2.2.length c4, .int .i64 s, .int .i64 p, .int .i64 r]).alloc (.cells #[.slice none 0 0, .slice none 0 0, .slice none 0 0, .slice none 0 0, .int .i64 0, .int .i64 0, .int .i64 0] 40)).alloc (.cells #[.slice A1 x.1.length c1, .slice A2 x.2.1.length c2, .slice A3 x.2.2.1.length c3, .slice A4 x.2.2.2.length c4, .int .i64 s, .int .i64 p, .int .i64 r] 40)
  have bR := (Blk.new2 (w.alloc (.cells #[.slice A1 x.1.length c1, .slice A2 x.2.1.length c2, .slice A3 x.2.2.1.length c3, .slice A4 x.2.2.2.length c4, .int .i64 s, .int .i64 p, .int .i64 r] 40)) 40 #[.slice none 0 0, .slice none 0 0, .slice none 0 0, .slice none 0 0, .int .i64 0, .int .i64 0, .int .i64 0] (w.heap.size + 1) (by simp)).alloc (.cells #[.slice A1 x.1.length c1, .slice A2 x.2.1.length c2, .slice A3 x.2.2.1.length c3, .slice A4 x.2.2.2.length c4, .int .i64 s, .int .i64 p, .int .i64 r] 40)
  have bO := Blk.new2 ((w.alloc (.cells #[.slice A1 x.1.length c1, .slice A2 x.2.1.length c2, .slice A3 x.2.2.1.length c3, .slice A4 x.2.2.2.length c4, .int .i64 s, .int .i64 p, .int .i64 r] 40)).alloc (.cells #[.slice none 0 0, .slice none 0 0, .slice none 0 0, .slice none 0 0, .int .i64 0, .int .i64 0, .int .i64 0] 40)) 40 #[.slice A1 x.1.length c1, .slice A2 x.2.1.length c2, .slice A3 x.2.2.1.length c3, .slice A4 x.2.2.2.length c4, .int .i64 s, .int .i64 p, .int .i64 r] (w.heap.size + 1 + 1) (by simp)
  go_enter Tryz.func23, Tryz.ntmps23
  go_wp2_with fail
  obtain ⟨W0, hW0⟩ : ∃ W0, W0 = ((w.alloc (.cells #[.slice A1 x.1.length c1, .slice A2 x.2.1.length c2, .slice A3 x.2.2.1.length c3, .slice A4 x.2.2.2.length c4, .int .i64 s, .int .i64 p, .int .i64 r] 40)).alloc (.cells #[.slice none 0 0, .slice none 0 0, .slice none 0 0, .slice none 0 0, .int .i64 0, .int .i64 0, .int .i64 0] 40)).alloc (.cells #[.slice A1 x.1.length c1, .slice A2 x.2.1.length c2, .slice A3 x.2.2.1.length c3, .slice A4 x.2.2.2.length c4, .int .i64 s, .int .i64 p, .int .i64 r] 40) := ⟨_, rfl⟩
  obtain ⟨gP, hgP⟩ : ∃ g, g = w.heap.size := ⟨_, rfl⟩
  obtain ⟨gR, hgR'⟩ : ∃ g, g = w.heap.size + 1 := ⟨_, rfl⟩
  obtain ⟨gO, hgO'⟩ : ∃ g, g = w.heap.size + 1 + 1 := ⟨_, rfl⟩
  rw [← hW0] at B0 bP bR bO ⊢
  rw [← hgO'] at bO ⊢
  rw [← hgR'] at bR ⊢
  rw [← hgP] at bP ⊢
  have hgR : w.heap.size ≤ gR := by omega
  have hgO : w.heap.size ≤ gO := by omega
  have hPR : gP ≠ gR := by omega
  have hPO : gP ≠ gO := by omega
  have hRO : gR ≠ gO := by omega
  have hOR := hRO.symm
  clear hW0 hgP hgR' hgO'
  have z_0 := bP.cell 0
  have z_1 := bP.cell 1
  have z_2 := bP.cell 2
  have z_3 := bP.cell 3
  have z_4 := bP.cell 4
  have z_5 := bP.cell 5
  have z_6 := bP.cell 6
  simp only [List.getElem?_toArray, List.getElem?_cons_zero, List.getElem?_cons_succ] at z_0 z_1 z_2 z_3 z_4 z_5 z_6
  refine (copyFlI_any _ _ _ _ x _ (h1.below RE.stays B0) (h2.below RE.stays B0) (h3.below RE.stays B0) (h4.below RE.stays B0) hs).mono ?_
  rintro e w1 ⟨D1, d1, D2, d2, D3, d3, D4, d4, rfl, oF, hb1⟩
  have oF := oF.mono B0.size
  have B1 := B0.tr hb1
  have bR1 := bR.bl hb1
  have bO1 := bO.bl hb1
  clear z_0 z_1 z_2 z_3 z_4 z_5 z_6
  have o_0 := bO1.cell 0
  have o_1 := bO1.cell 1
  have o_2 := bO1.cell 2
  have o_3 := bO1.cell 3
  have o_4 := bO1.cell 4
  have o_5 := bO1.cell 5
  have o_6 := bO1.cell 6
  simp only [List.getElem?_toArray, List.getElem?_cons_zero, List.getElem?_cons_succ] at o_0 o_1 o_2 o_3 o_4 o_5 o_6
  have fO : ∀ j, w1.frozen? ⟨gO, j, none⟩ = false := fun j => bO1.frozen j
  have hgg := gr_set (gr_set (gr_set (gr_set (World.grownBy.refl w1 (some gO)) 0 (.slice D1 x.1.length d1)) 1 (.slice D2 x.2.1.length d2)) 2 (.slice D3 x.2.2.1.length d3)) 3 (.slice D4 x.2.2.2.length d4)
  have bR5 := bR1.grown hgg (by simp; omega)
  have oF5 := OwnFl.rowI oF bO1 (by decide) (by decide) (by decide) hgg
  have B5 := B1.grown hgg B1.size (fun k hk => by injection hk with hk; subst hk; exact hgO)
  go_wp2_with (refine wpList_storeRow rfl 40 _ _ rfl gR #[.slice D1 x.1.length d1, .slice D2 x.2.1.length d2, .slice D3 x.2.2.1.length d3, .slice D4 x.2.2.2.length d4, .int .i64 s, .int .i64 p, .int .i64 r] rfl rfl _ _ bR5 (by kernel_rfl) rfl (by simp [Value.oneCell']) ?_; intro wE bE hgE)
  have oE : OwnFl w.heap.size wE _ _ _ _ _ := OwnFl.rowI oF5 bR5 (by decide) (by decide) (by decide) hgE
  have BE := B5.grown hgE B5.size (fun k hk => by injection hk with hk; subst hk; exact hgR)
  have q_0 := bE.cell 0
  have q_1 := bE.cell 1
  have q_2 := bE.cell 2
  have q_3 := bE.cell 3
  have q_4 := bE.cell 4
  have q_5 := bE.cell 5
  have q_6 := bE.cell 6
  simp only [List.getElem?_toArray, List.getElem?_cons_zero, List.getElem?_cons_succ] at q_0 q_1 q_2 q_3 q_4 q_5 q_6
  refine bodyPost_ret (v := .agg #[.slice D1 x.1.length d1, .slice D2 x.2.1.length d2, .slice D3 x.2.2.1.length d3, .slice D4 x.2.2.2.length d4, .int .i64 s, .int .i64 p, .int .i64 r]) (by simp [results, Tryz.results23, go_sem, q_0, q_1, q_2, q_3, q_4, q_5, q_6]) rfl ⟨D1, d1, D2, d2, D3, d3, D4, d4, rfl, oE, BE⟩
abbrev oWkC0 : Oper := { dst := some 3, op := Go.Op.fieldAddr 40 (Go.Operand.tmp 1) 0, type := 0, pos := "l38_workshop.go:10", after := #[], guard := none }
abbrev oWkC1 : Oper := { dst := some 4, op := Go.Op.load 38 (Go.Operand.tmp 3), type := 38, pos := "l38_workshop.go:10", after := #[{ on := 0, ground := Go.Ground.data }], guard := none }
abbrev oWkC2 : Oper := { dst := some 6, op := Go.Op.fieldAddr 40 (Go.Operand.tmp 1) 1, type := 0, pos := "l38_workshop.go:10", after := #[], guard := none }
abbrev oWkC3 : Oper := { dst := some 7, op := Go.Op.load 3 (Go.Operand.tmp 6), type := 3, pos := "l38_workshop.go:10", after := #[{ on := 3, ground := Go.Ground.data }], guard := none }
abbrev oWkC4 : Oper := { dst := some 8, op := Go.Op.fieldAddr 40 (Go.Operand.tmp 1) 2, type := 0, pos := "l38_workshop.go:10", after := #[], guard := none }
abbrev oWkC5 : Oper := { dst := some 9, op := Go.Op.load 3 (Go.Operand.tmp 8), type := 3, pos := "l38_workshop.go:10", after := #[{ on := 5, ground := Go.Ground.data }], guard := none }
abbrev oWkC6 : Oper := { dst := some 10, op := Go.Op.fieldAddr 40 (Go.Operand.tmp 1) 3, type := 0, pos := "l38_workshop.go:10", after := #[], guard := none }
abbrev oWkC7 : Oper := { dst := some 11, op := Go.Op.load 3 (Go.Operand.tmp 10), type := 3, pos := "l38_workshop.go:10", after := #[{ on := 7, ground := Go.Ground.data }], guard := none }
abbrev oWkC8 : Oper := { dst := some 5, op := Go.Op.call { callee := Go.Callee.value (Go.Operand.func 35), args := #[Go.Operand.tmp 4], argTypes := #[38] }, type := 38, pos := "l38_workshop.go:10", after := #[{ on := 1, ground := Go.Ground.data }], guard := none }
abbrev oWkC9 : Oper := { dst := some 12, op := Go.Op.build 40 #[(0, Go.Operand.tmp 5), (1, Go.Operand.tmp 7), (2, Go.Operand.tmp 9), (3, Go.Operand.tmp 11)], type := 40, pos := "l38_workshop.go:10", after := #[{ on := 2, ground := Go.Ground.data }, { on := 4, ground := Go.Ground.data }, { on := 6, ground := Go.Ground.data }, { on := 8, ground := Go.Ground.data }], guard := none }
abbrev oWkC10 : Oper := { dst := none, op := Go.Op.store 40 (Go.Operand.tmp 2) (Go.Operand.tmp 12), type := 0, pos := "l38_workshop.go:10", after := #[{ on := 9, ground := Go.Ground.data }, { on := 2, ground := Go.Ground.chain }, { on := 0, ground := Go.Ground.phase }, { on := 1, ground := Go.Ground.phase }, { on := 2, ground := Go.Ground.phase }, { on := 3, ground := Go.Ground.phase }, { on := 4, ground := Go.Ground.phase }, { on := 5, ground := Go.Ground.phase }, { on := 6, ground := Go.Ground.phase }, { on := 7, ground := Go.Ground.phase }, { on := 8, ground := Go.Ground.phase }, { on := 9, ground := Go.Ground.phase }], guard := none }
set_option maxHeartbeats 4000000 in
set_option maxRecDepth 100000 in
theorem copyWkS_any (v1 v2 v3 v4 : Value) (x : Fl) (s p r : Int) (w : World) (h1 : Rd 1 RInt w v1 x.1) (h2 : Rd 3 RDom w v2 x.2.1) (h3 : Rd 3 RDom w v3 x.2.2.1) (h4 : Rd 2 RPair w v4 x.2.2.2) (hs : Small4 x) :
    Calls Tryz.prog 16 #[.agg #[v1, v2, v3, v4, .int .i64 s, .int .i64 p, .int .i64 r]] w (RetWk x s p r w) := by
  obtain ⟨A1, c1, rfl, hc1, hm1⟩ := h1.form
  obtain ⟨A2, c2, rfl, hc2, hm2⟩ := h2.form
  obtain ⟨A3, c3, rfl, hc3, hm3⟩ := h3.form
  obtain ⟨A4, c4, rfl, hc4, hm4⟩ := h4.form
  have B0 := ((Below.refl w.heap.size w).al (.cells #[.slice A1 x.1.length c1, .slice A2 x.2.1.length c2, .slice A3 x.2.2.1.length c3, .slice A4 x.2.2.2.length c4, .int .i64 s, .int .i64 p, .int .i64 r] 40)).al (.cells #[.slice none 0 0, .slice none 0 0, .slice none 0 0, .slice none 0 0, .int .i64 0, .int .i64 0, .int .i64 0] 40)
  have bP := (Blk.new_ w 40 #[.slice A1 x.1.length c1, .slice A2 x.2.1.length c2, .slice A3 x.2.2.1.length c3, .slice A4 x.2.2.2.length c4, .int .i64 s, .int .i64 p, .int .i64 r]).alloc (.cells #[.slice none 0 0, .slice none 0 0, .slice none 0 0, .slice none 0 0, .int .i64 0, .int .i64 0, .int .i64 0] 40)
  have bR := Blk.new2 (w.alloc (.cells #[.slice A1 x.1.length c1, .slice A2 x.2.1.length c2, .slice A3 x.2.2.1.length c3, .slice A4 x.2.2.2.length c4, .int .i64 s, .int .i64 p, .int .i64 r] 40)) 40 #[.slice none 0 0, .slice none 0 0, .slice none 0 0, .slice none 0 0, .int .i64 0, .int .i64 0, .int .i64 0] (w.heap.size + 1) (by simp)
  go_enter Tryz.func16, Tryz.ntmps16
  go_wp2_with fail
  obtain ⟨W0, hW0⟩ : ∃ W0, W0 = (w.alloc (.cells #[.slice A1 x.1.length c1, .slice A2 x.2.1.length c2, .slice A3 x.2.2.1.length c3, .slice A4 x.2.2.2.length c4, .int .i64 s, .int .i64 p, .int .i64 r] 40)).alloc (.cells #[.slice none 0 0, .slice none 0 0, .slice none 0 0, .slice none 0 0, .int .i64 0, .int .i64 0, .int .i64 0] 40) := ⟨_, rfl⟩
  obtain ⟨gP, hgP⟩ : ∃ g, g = w.heap.size := ⟨_, rfl⟩
  obtain ⟨gR, hgR'⟩ : ∃ g, g = w.heap.size + 1 := ⟨_, rfl⟩
  rw [← hW0] at B0 bP bR ⊢
  rw [← hgR'] at bR ⊢
  rw [← hgP] at bP ⊢
  have hgR : w.heap.size ≤ gR := by omega
  have hPR : gP ≠ gR := by omega
  have hp0 := bP.lt
  have hr0 := bR.lt
  clear hW0 hgP hgR'
  have z_0 := bP.cell 0
  have z_1 := bP.cell 1
  have z_2 := bP.cell 2
  have z_3 := bP.cell 3
  have z_4 := bP.cell 4
  have z_5 := bP.cell 5
  have z_6 := bP.cell 6
  simp only [List.getElem?_toArray, List.getElem?_cons_zero, List.getElem?_cons_succ] at z_0 z_1 z_2 z_3 z_4 z_5 z_6
  have Bw : Below W0.heap.size W0 W0.drew := (Below.refl _ _).drew
  have hz : W0.heap.size ≤ W0.drew.heap.size := by simp
  refine wp_region_held_drew (S := (fun w' => w'.cell? ⟨gP, 0, none⟩ = some (.slice A1 x.1.length c1) ∧ w'.cell? ⟨gP, 1, none⟩ = some (.slice A2 x.2.1.length c2) ∧ w'.cell? ⟨gP, 2, none⟩ = some (.slice A3 x.2.2.1.length c3) ∧ w'.cell? ⟨gP, 3, none⟩ = some (.slice A4 x.2.2.2.length c4) ∧ w'.cell? ⟨gP, 4, none⟩ = some (.int .i64 s) ∧ w'.cell? ⟨gP, 5, none⟩ = some (.int .i64 p) ∧ w'.cell? ⟨gP, 6, none⟩ = some (.int .i64 r))) (by kernel_rfl) ?_ (fun hHeld => ?_)
  · (try dsimp only); (try go_keep)
  refine tk 0 oWkC0 rfl (by kernel_rfl) (v := ?_) (fun _ _ _ h => h) (Or.inl ⟨by rfl, ?_⟩) (by assumption) ?_
  rotate_left 1
  · (intro wS hSw; (try dsimp only at hSw); dsimp only [oWkC0]; go_simp; (all_goals with_reducible rfl))
  simp only [oWkC0, putL, List.set]
  refine tk 1 oWkC1 rfl (by kernel_rfl) (v := ?_) (fun _ _ _ h => h) (Or.inl ⟨by rfl, ?_⟩) (by assumption) ?_
  rotate_left 1
  · (intro wS hSw; (try dsimp only at hSw); dsimp only [oWkC1]; go_simp; (all_goals with_reducible rfl))
  simp only [oWkC1, putL, List.set]
  refine tk 3 oWkC2 rfl (by kernel_rfl) (v := ?_) (fun _ _ _ h => h) (Or.inl ⟨by rfl, ?_⟩) (by assumption) ?_
  rotate_left 1
  · (intro wS hSw; (try dsimp only at hSw); dsimp only [oWkC2]; go_simp; (all_goals with_reducible rfl))
  simp only [oWkC2, putL, List.set]
  refine tk 4 oWkC3 rfl (by kernel_rfl) (v := ?_) (fun _ _ _ h => h) (Or.inl ⟨by rfl, ?_⟩) (by assumption) ?_
  rotate_left 1
  · (intro wS hSw; (try dsimp only at hSw); dsimp only [oWkC3]; go_simp; (all_goals with_reducible rfl))
  simp only [oWkC3, putL, List.set]
  refine tk 5 oWkC4 rfl (by kernel_rfl) (v := ?_) (fun _ _ _ h => h) (Or.inl ⟨by rfl, ?_⟩) (by assumption) ?_
  rotate_left 1
  · (intro wS hSw; (try dsimp only at hSw); dsimp only [oWkC4]; go_simp; (all_goals with_reducible rfl))
  simp only [oWkC4, putL, List.set]
  refine tk 6 oWkC5 rfl (by kernel_rfl) (v := ?_) (fun _ _ _ h => h) (Or.inl ⟨by rfl, ?_⟩) (by assumption) ?_
  rotate_left 1
  · (intro wS hSw; (try dsimp only at hSw); dsimp only [oWkC5]; go_simp; (all_goals with_reducible rfl))
  simp only [oWkC5, putL, List.set]
  refine tk 7 oWkC6 rfl (by kernel_rfl) (v := ?_) (fun _ _ _ h => h) (Or.inl ⟨by rfl, ?_⟩) (by assumption) ?_
  rotate_left 1
  · (intro wS hSw; (try dsimp only at hSw); dsimp only [oWkC6]; go_simp; (all_goals with_reducible rfl))
  simp only [oWkC6, putL, List.set]
  refine tk 8 oWkC7 rfl (by kernel_rfl) (v := ?_) (fun _ _ _ h => h) (Or.inl ⟨by rfl, ?_⟩) (by assumption) ?_
  rotate_left 1
  · (intro wS hSw; (try dsimp only at hSw); dsimp only [oWkC7]; go_simp; (all_goals with_reducible rfl))
  simp only [oWkC7, putL, List.set]
  refine wpAnyH_ready (rs := [2]) (by kernel_rfl) (by simp) ?_
  refine AllReadyH.cons (o := oWkC8) rfl (fun K hK => ?_) AllReadyH.nil
  dsimp only [oWkC8]
  go_simp
  (first | (go_at_call 35; go_must (refine (copyFlS_any _ _ _ _ x _ (h1.below RE.stays (B0.tr Bw)) (h2.below RE.stays (B0.tr Bw)) (h3.below RE.stays (B0.tr Bw)) (h4.below RE.stays (B0.tr Bw)) hs).mono ?_; rintro e wX ⟨D1, d1, D2, d2, D3, d3, D4, d4, rfl, oF, hbX⟩; have bR1 := (bR.bl Bw).bl hbX; have oF1 := oF.mono (B0.tr Bw).size;obtain ⟨hcX, hfX, hzX⟩ := bkn hbX W0.heap.size hz; have hz := hzX; have Bw := Bw.tr hbX); (try go_wp2_with fail)))
  refine hK.out _ _ ?_ (fun hHeld => ?_)
  · (try dsimp only); (try go_keep)
  clear hK K
  (try simp only [Act.put, List.setIfInBounds_toArray, List.set_cons_zero, List.set_cons_succ])
  refine tk 9 oWkC9 rfl (by kernel_rfl) (v := ?_) (fun _ _ _ h => h) (Or.inl ⟨by rfl, ?_⟩) (by assumption) ?_
  rotate_left 1
  · (intro wS hSw; (try dsimp only at hSw); dsimp only [oWkC9]; go_simp; (all_goals with_reducible rfl))
  simp only [oWkC9, putL, List.set]
  refine wpAnyH_ready (rs := [10]) (by kernel_rfl) (by simp) ?_
  refine AllReadyH.cons (o := oWkC10) rfl (fun K hK => ?_) AllReadyH.nil
  (refine step_storeRow rfl 40 _ _ rfl gR #[.slice D1 x.1.length d1, .slice D2 x.2.1.length d2, .slice D3 x.2.2.1.length d3, .slice D4 x.2.2.2.length d4, .int .i64 s, .int .i64 p, .int .i64 r] rfl rfl _ _ bR1 (by kernel_rfl) rfl (by simp [Value.oneCell']) ?_; intro wE bE hgE; have oE := OwnFl.rowI oF1 bR1 (by decide) (by decide) (by decide) hgE; have BE := (B0.tr Bw).grown hgE (B0.tr Bw).size (fun k hk => by injection hk with hk; subst hk; exact hgR); have bPE := (bP.bl Bw).grown hgE (by simp; omega); have c_0 := bPE.cell 0; have c_1 := bPE.cell 1; have c_2 := bPE.cell 2; have c_3 := bPE.cell 3; have c_4 := bPE.cell 4; have c_5 := bPE.cell 5; have c_6 := bPE.cell 6; simp only [List.getElem?_toArray, List.getElem?_cons_zero, List.getElem?_cons_succ] at c_0 c_1 c_2 c_3 c_4 c_5 c_6)
  refine hK.out _ _ ?_ (fun hHeld => ?_)
  · (try dsimp only); (try go_keep)
  clear hK K
  (try simp only [Act.put, List.setIfInBounds_toArray, List.set_cons_zero, List.set_cons_succ])
  refine wpAnyH_done (by kernel_rfl) ?_ _
  go_wp2_with fail
  have q_0 := bE.cell 0
  have q_1 := bE.cell 1
  have q_2 := bE.cell 2
  have q_3 := bE.cell 3
  have q_4 := bE.cell 4
  have q_5 := bE.cell 5
  have q_6 := bE.cell 6
  simp only [List.getElem?_toArray, List.getElem?_cons_zero, List.getElem?_cons_succ] at q_0 q_1 q_2 q_3 q_4 q_5 q_6
  refine bodyPost_ret (v := .agg #[.slice D1 x.1.length d1, .slice D2 x.2.1.length d2, .slice D3 x.2.2.1.length d3, .slice D4 x.2.2.2.length d4, .int .i64 s, .int .i64 p, .int .i64 r]) (by simp [results, Tryz.results16, go_sem, q_0, q_1, q_2, q_3, q_4, q_5, q_6]) rfl ⟨D1, d1, D2, d2, D3, d3, D4, d4, rfl, oE, BE⟩
end Go.Proofs.YtmmeomjclfgljaaGreat
