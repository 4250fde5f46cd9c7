/- Workshops copied, a place turned, a workshop audited: the reference's side. Conditions: sizes. -/
import Derived.Test.YtnlljkdfapllpaaWkI
import Derived.Test.YtnlljkdfapllpaaFlDoS
namespace Go.Proofs.Ytnlljkdfapllpaa
open Go.ChangeShapes Go.WideShapes Go.ChangeAt Go.RowKit
set_option linter.unusedVariables false
set_option linter.unusedSimpArgs false

abbrev op_WkS_specl38Copy_1_0 : Oper := { dst := some 3, op := Go.Op.fieldAddr 52 (Go.Operand.tmp 1) 0, type := 0, pos := "l38_workshop.go:10", after := #[], guard := none }
abbrev op_WkS_specl38Copy_1_1 : Oper := { dst := some 4, op := Go.Op.load 34 (Go.Operand.tmp 3), type := 34, pos := "l38_workshop.go:10", after := #[{ on := 0, ground := Go.Ground.data }], guard := none }
abbrev op_WkS_specl38Copy_1_3 : Oper := { dst := some 6, op := Go.Op.fieldAddr 52 (Go.Operand.tmp 1) 1, type := 0, pos := "l38_workshop.go:10", after := #[], guard := none }
abbrev op_WkS_specl38Copy_1_4 : Oper := { dst := some 7, op := Go.Op.load 3 (Go.Operand.tmp 6), type := 3, pos := "l38_workshop.go:10", after := #[{ on := 3, ground := Go.Ground.data }], guard := none }
abbrev op_WkS_specl38Copy_1_5 : Oper := { dst := some 8, op := Go.Op.fieldAddr 52 (Go.Operand.tmp 1) 2, type := 0, pos := "l38_workshop.go:10", after := #[], guard := none }
abbrev op_WkS_specl38Copy_1_6 : Oper := { dst := some 9, op := Go.Op.load 3 (Go.Operand.tmp 8), type := 3, pos := "l38_workshop.go:10", after := #[{ on := 5, ground := Go.Ground.data }], guard := none }
abbrev op_WkS_specl38Copy_1_7 : Oper := { dst := some 10, op := Go.Op.fieldAddr 52 (Go.Operand.tmp 1) 3, type := 0, pos := "l38_workshop.go:10", after := #[], guard := none }
abbrev op_WkS_specl38Copy_1_8 : Oper := { dst := some 11, op := Go.Op.load 3 (Go.Operand.tmp 10), type := 3, pos := "l38_workshop.go:10", after := #[{ on := 7, ground := Go.Ground.data }], guard := none }
abbrev op_WkS_specl38Copy_1_2 : Oper := { dst := some 5, op := Go.Op.call { callee := Go.Callee.value (Go.Operand.func 78), args := #[Go.Operand.tmp 4], argTypes := #[34] }, type := 34, pos := "l38_workshop.go:10", after := #[{ on := 1, ground := Go.Ground.data }], guard := none }
abbrev op_WkS_specl38Copy_1_9 : Oper := { dst := some 12, op := Go.Op.build 52 #[(0, Go.Operand.tmp 5), (1, Go.Operand.tmp 7), (2, Go.Operand.tmp 9), (3, Go.Operand.tmp 11)], type := 52, pos := "l38_workshop.go:10", after := #[{ on := 2, ground := Go.Ground.data }, { on := 4, ground := Go.Ground.data }, { on := 6, ground := Go.Ground.data }, { on := 8, ground := Go.Ground.data }], guard := none }
abbrev op_WkS_specl38Copy_1_10 : Oper := { dst := none, op := Go.Op.store 52 (Go.Operand.tmp 2) (Go.Operand.tmp 12), type := 0, pos := "l38_workshop.go:10", after := #[{ on := 9, ground := Go.Ground.data }, { on := 2, ground := Go.Ground.chain }, { on := 0, ground := Go.Ground.phase }, { on := 1, ground := Go.Ground.phase }, { on := 2, ground := Go.Ground.phase }, { on := 3, ground := Go.Ground.phase }, { on := 4, ground := Go.Ground.phase }, { on := 5, ground := Go.Ground.phase }, { on := 6, ground := Go.Ground.phase }, { on := 7, ground := Go.Ground.phase }, { on := 8, ground := Go.Ground.phase }, { on := 9, ground := Go.Ground.phase }], guard := none }
set_option maxHeartbeats 4000000 in
set_option maxRecDepth 100000 in
theorem copyWkS_any (v1 v2 v3 v4 : Value) (x : Fl) (s p r : Int) (w : World) (h1 : Rd 1 RInt w v1 x.1) (h2 : Rd 3 RDom w v2 x.2.1) (h3 : Rd 3 RDom w v3 x.2.2.1) (h4 : Rd 2 RPair w v4 x.2.2.2) (hs : Small4 x) :
    Calls Try.prog 90 #[.agg #[v1, v2, v3, v4, .int .i64 s, .int .i64 p, .int .i64 r]] w (RetWk x s p r w) := by
  obtain ⟨A1, c1, rfl, hc1, hm1⟩ := h1.form
  obtain ⟨A2, c2, rfl, hc2, hm2⟩ := h2.form
  obtain ⟨A3, c3, rfl, hc3, hm3⟩ := h3.form
  obtain ⟨A4, c4, rfl, hc4, hm4⟩ := h4.form
  have B0 := ((Below.refl w.heap.size w).al (.cells #[.slice A1 x.1.length c1, .slice A2 x.2.1.length c2, .slice A3 x.2.2.1.length c3, .slice A4 x.2.2.2.length c4, .int .i64 s, .int .i64 p, .int .i64 r] 52)).al (.cells #[.slice none 0 0, .slice none 0 0, .slice none 0 0, .slice none 0 0, .int .i64 0, .int .i64 0, .int .i64 0] 52)
  have bP := (Blk.new_ w 52 #[.slice A1 x.1.length c1, .slice A2 x.2.1.length c2, .slice A3 x.2.2.1.length c3, .slice A4 x.2.2.2.length c4, .int .i64 s, .int .i64 p, .int .i64 r]).alloc (.cells #[.slice none 0 0, .slice none 0 0, .slice none 0 0, .slice none 0 0, .int .i64 0, .int .i64 0, .int .i64 0] 52)
  have bR := Blk.new2 (w.alloc (.cells #[.slice A1 x.1.length c1, .slice A2 x.2.1.length c2, .slice A3 x.2.2.1.length c3, .slice A4 x.2.2.2.length c4, .int .i64 s, .int .i64 p, .int .i64 r] 52)) 52 #[.slice none 0 0, .slice none 0 0, .slice none 0 0, .slice none 0 0, .int .i64 0, .int .i64 0, .int .i64 0] (w.heap.size + 1) (by simp)
  go_enter Try.func90, Try.ntmps90
  go_wp2_with fail
  obtain ⟨W0, hW0⟩ : ∃ W0, W0 = (w.alloc (.cells #[.slice A1 x.1.length c1, .slice A2 x.2.1.length c2, .slice A3 x.2.2.1.length c3, .slice A4 x.2.2.2.length c4, .int .i64 s, .int .i64 p, .int .i64 r] 52)).alloc (.cells #[.slice none 0 0, .slice none 0 0, .slice none 0 0, .slice none 0 0, .int .i64 0, .int .i64 0, .int .i64 0] 52) := ⟨_, rfl⟩
  obtain ⟨gP, hgP⟩ : ∃ g, g = w.heap.size := ⟨_, rfl⟩
  obtain ⟨gR, hgR'⟩ : ∃ g, g = w.heap.size + 1 := ⟨_, rfl⟩
  rw [← hW0] at B0 bP bR ⊢
  rw [← hgR'] at bR ⊢
  rw [← hgP] at bP ⊢
  have hgR : w.heap.size ≤ gR := by omega
  have hPR : gP ≠ gR := by omega
  have hp0 := bP.lt
  have hr0 := bR.lt
  clear hW0 hgP hgR'
  have z_0 := bP.cell 0
  have z_1 := bP.cell 1
  have z_2 := bP.cell 2
  have z_3 := bP.cell 3
  have z_4 := bP.cell 4
  have z_5 := bP.cell 5
  have z_6 := bP.cell 6
  simp only [List.getElem?_toArray, List.getElem?_cons_zero, List.getElem?_cons_succ] at z_0 z_1 z_2 z_3 z_4 z_5 z_6
  have Bw : Below W0.heap.size W0 W0.drew := (Below.refl _ _).drew
  have hz : W0.heap.size ≤ W0.drew.heap.size := by simp
  refine wp_region_held_drew (S := (fun w' => w'.cell? ⟨gP, 0, none⟩ = some (.slice A1 x.1.length c1) ∧ w'.cell? ⟨gP, 1, none⟩ = some (.slice A2 x.2.1.length c2) ∧ w'.cell? ⟨gP, 2, none⟩ = some (.slice A3 x.2.2.1.length c3) ∧ w'.cell? ⟨gP, 3, none⟩ = some (.slice A4 x.2.2.2.length c4) ∧ w'.cell? ⟨gP, 4, none⟩ = some (.int .i64 s) ∧ w'.cell? ⟨gP, 5, none⟩ = some (.int .i64 p) ∧ w'.cell? ⟨gP, 6, none⟩ = some (.int .i64 r))) (by kernel_rfl) ?_ (fun hHeld => ?_)
  · (try dsimp only); (try go_keep)
  refine wpAnyH_take (i := 0) (oi := op_WkS_specl38Copy_1_0) (v := ?_) rfl (by kernel_rfl) (by kernel_rfl) (by kernel_rfl) (fun _ _ _ h => h) (Or.inl ⟨by rfl, ?_⟩) (by assumption) ?_
  rotate_left 1
  · (intro wS hSw; (try dsimp only at hSw); dsimp only [op_WkS_specl38Copy_1_0]; go_simp; (all_goals with_reducible rfl))
  simp only [op_WkS_specl38Copy_1_0, Act.put, List.setIfInBounds_toArray, List.set_cons_zero, List.set_cons_succ]
  refine wpAnyH_take (i := 1) (oi := op_WkS_specl38Copy_1_1) (v := ?_) rfl (by kernel_rfl) (by kernel_rfl) (by kernel_rfl) (fun _ _ _ h => h) (Or.inl ⟨by rfl, ?_⟩) (by assumption) ?_
  rotate_left 1
  · (intro wS hSw; (try dsimp only at hSw); dsimp only [op_WkS_specl38Copy_1_1]; go_simp; (all_goals with_reducible rfl))
  simp only [op_WkS_specl38Copy_1_1, Act.put, List.setIfInBounds_toArray, List.set_cons_zero, List.set_cons_succ]
  refine wpAnyH_take (i := 3) (oi := op_WkS_specl38Copy_1_3) (v := ?_) rfl (by kernel_rfl) (by kernel_rfl) (by kernel_rfl) (fun _ _ _ h => h) (Or.inl ⟨by rfl, ?_⟩) (by assumption) ?_
  rotate_left 1
  · (intro wS hSw; (try dsimp only at hSw); dsimp only [op_WkS_specl38Copy_1_3]; go_simp; (all_goals with_reducible rfl))
  simp only [op_WkS_specl38Copy_1_3, Act.put, List.setIfInBounds_toArray, List.set_cons_zero, List.set_cons_succ]
  refine wpAnyH_take (i := 4) (oi := op_WkS_specl38Copy_1_4) (v := ?_) rfl (by kernel_rfl) (by kernel_rfl) (by kernel_rfl) (fun _ _ _ h => h) (Or.inl ⟨by rfl, ?_⟩) (by assumption) ?_
  rotate_left 1
  · (intro wS hSw; (try dsimp only at hSw); dsimp only [op_WkS_specl38Copy_1_4]; go_simp; (all_goals with_reducible rfl))
  simp only [op_WkS_specl38Copy_1_4, Act.put, List.setIfInBounds_toArray, List.set_cons_zero, List.set_cons_succ]
  refine wpAnyH_take (i := 5) (oi := op_WkS_specl38Copy_1_5) (v := ?_) rfl (by kernel_rfl) (by kernel_rfl) (by kernel_rfl) (fun _ _ _ h => h) (Or.inl ⟨by rfl, ?_⟩) (by assumption) ?_
  rotate_left 1
  · (intro wS hSw; (try dsimp only at hSw); dsimp only [op_WkS_specl38Copy_1_5]; go_simp; (all_goals with_reducible rfl))
  simp only [op_WkS_specl38Copy_1_5, Act.put, List.setIfInBounds_toArray, List.set_cons_zero, List.set_cons_succ]
  refine wpAnyH_take (i := 6) (oi := op_WkS_specl38Copy_1_6) (v := ?_) rfl (by kernel_rfl) (by kernel_rfl) (by kernel_rfl) (fun _ _ _ h => h) (Or.inl ⟨by rfl, ?_⟩) (by assumption) ?_
  rotate_left 1
  · (intro wS hSw; (try dsimp only at hSw); dsimp only [op_WkS_specl38Copy_1_6]; go_simp; (all_goals with_reducible rfl))
  simp only [op_WkS_specl38Copy_1_6, Act.put, List.setIfInBounds_toArray, List.set_cons_zero, List.set_cons_succ]
  refine wpAnyH_take (i := 7) (oi := op_WkS_specl38Copy_1_7) (v := ?_) rfl (by kernel_rfl) (by kernel_rfl) (by kernel_rfl) (fun _ _ _ h => h) (Or.inl ⟨by rfl, ?_⟩) (by assumption) ?_
  rotate_left 1
  · (intro wS hSw; (try dsimp only at hSw); dsimp only [op_WkS_specl38Copy_1_7]; go_simp; (all_goals with_reducible rfl))
  simp only [op_WkS_specl38Copy_1_7, Act.put, List.setIfInBounds_toArray, List.set_cons_zero, List.set_cons_succ]
  refine wpAnyH_take (i := 8) (oi := op_WkS_specl38Copy_1_8) (v := ?_) rfl (by kernel_rfl) (by kernel_rfl) (by kernel_rfl) (fun _ _ _ h => h) (Or.inl ⟨by rfl, ?_⟩) (by assumption) ?_
  rotate_left 1
  · (intro wS hSw; (try dsimp only at hSw); dsimp only [op_WkS_specl38Copy_1_8]; go_simp; (all_goals with_reducible rfl))
  simp only [op_WkS_specl38Copy_1_8, Act.put, List.setIfInBounds_toArray, List.set_cons_zero, List.set_cons_succ]
  refine wpAnyH_ready (rs := [2]) (by kernel_rfl) (by simp) ?_
  refine AllReadyH.cons (o := op_WkS_specl38Copy_1_2) rfl (fun K hK => ?_) AllReadyH.nil
  dsimp only [op_WkS_specl38Copy_1_2]
  go_simp
  (first | (go_at_call 78; go_must (refine (copyFlS_any _ _ _ _ x _ (h1.below RE.stays (B0.tr Bw)) (h2.below RE.stays (B0.tr Bw)) (h3.below RE.stays (B0.tr Bw)) (h4.below RE.stays (B0.tr Bw)) hs).mono ?_; rintro e wX ⟨D1, d1, D2, d2, D3, d3, D4, d4, rfl, oF, hbX⟩; have bR1 := (bR.bl Bw).bl hbX; have oF1 := oF.mono (B0.tr Bw).size;obtain ⟨hcX, hfX, hzX⟩ := bkn hbX W0.heap.size hz; have hz := hzX; have Bw := Bw.tr hbX); (try go_wp2_with fail)))
  refine hK.out _ _ ?_ (fun hHeld => ?_)
  · (try dsimp only); (try go_keep)
  clear hK K
  (try simp only [Act.put, List.setIfInBounds_toArray, List.set_cons_zero, List.set_cons_succ])
  refine wpAnyH_take (i := 9) (oi := op_WkS_specl38Copy_1_9) (v := ?_) rfl (by kernel_rfl) (by kernel_rfl) (by kernel_rfl) (fun _ _ _ h => h) (Or.inl ⟨by rfl, ?_⟩) (by assumption) ?_
  rotate_left 1
  · (intro wS hSw; (try dsimp only at hSw); dsimp only [op_WkS_specl38Copy_1_9]; go_simp; (all_goals with_reducible rfl))
  simp only [op_WkS_specl38Copy_1_9, Act.put, List.setIfInBounds_toArray, List.set_cons_zero, List.set_cons_succ]
  refine wpAnyH_ready (rs := [10]) (by kernel_rfl) (by simp) ?_
  refine AllReadyH.cons (o := op_WkS_specl38Copy_1_10) rfl (fun K hK => ?_) AllReadyH.nil
  (refine step_storeRow rfl 52 _ _ rfl gR #[.slice D1 x.1.length d1, .slice D2 x.2.1.length d2, .slice D3 x.2.2.1.length d3, .slice D4 x.2.2.2.length d4, .int .i64 s, .int .i64 p, .int .i64 r] rfl rfl _ _ bR1 (by kernel_rfl) rfl (by simp [Value.oneCell']) ?_; intro wE bE hgE; have oE := OwnFl.rowI oF1 bR1 (by decide) (by decide) (by decide) hgE; have BE := (B0.tr Bw).grown hgE (B0.tr Bw).size (fun k hk => by injection hk with hk; subst hk; exact hgR); have bPE := (bP.bl Bw).grown hgE (by simp; omega); have c_0 := bPE.cell 0; have c_1 := bPE.cell 1; have c_2 := bPE.cell 2; have c_3 := bPE.cell 3; have c_4 := bPE.cell 4; have c_5 := bPE.cell 5; have c_6 := bPE.cell 6; simp only [List.getElem?_toArray, List.getElem?_cons_zero, List.getElem?_cons_succ] at c_0 c_1 c_2 c_3 c_4 c_5 c_6)
  refine hK.out _ _ ?_ (fun hHeld => ?_)
  · (try dsimp only); (try go_keep)
  clear hK K
  (try simp only [Act.put, List.setIfInBounds_toArray, List.set_cons_zero, List.set_cons_succ])
  refine wpAnyH_done (by kernel_rfl) ?_ _
  go_wp2_with fail
  have q_0 := bE.cell 0
  have q_1 := bE.cell 1
  have q_2 := bE.cell 2
  have q_3 := bE.cell 3
  have q_4 := bE.cell 4
  have q_5 := bE.cell 5
  have q_6 := bE.cell 6
  simp only [List.getElem?_toArray, List.getElem?_cons_zero, List.getElem?_cons_succ] at q_0 q_1 q_2 q_3 q_4 q_5 q_6
  refine bodyPost_ret (v := .agg #[.slice D1 x.1.length d1, .slice D2 x.2.1.length d2, .slice D3 x.2.2.1.length d3, .slice D4 x.2.2.2.length d4, .int .i64 s, .int .i64 p, .int .i64 r]) (by simp [results, Try.results90, go_sem, q_0, q_1, q_2, q_3, q_4, q_5, q_6]) rfl ⟨D1, d1, D2, d2, D3, d3, D4, d4, rfl, oE, BE⟩
set_option maxHeartbeats 4000000 in
set_option maxRecDepth 100000 in
theorem turnS_any (v1 v2 v3 v4 : Value) (x : Fl) (s p r cx cy : Int) (w : World) (h1 : Rd 1 RInt w v1 x.1) (h2 : Rd 3 RDom w v2 x.2.1) (h3 : Rd 3 RDom w v3 x.2.2.1) (h4 : Rd 2 RPair w v4 x.2.2.2) (hs : Small4 x) :
    Calls Try.prog 28 #[.agg #[v1, v2, v3, v4, .int .i64 s, .int .i64 p, .int .i64 r], .agg #[.int .i64 cx, .int .i64 cy]] w (RetWkB (turnFl (x, s, p, r) (cx, cy)) s p r (turnOk (x, s, p, r) (cx, cy)) w) := by
  obtain ⟨A1, c1, rfl, hc1, hm1⟩ := h1.form
  obtain ⟨A2, c2, rfl, hc2, hm2⟩ := h2.form
  obtain ⟨A3, c3, rfl, hc3, hm3⟩ := h3.form
  obtain ⟨A4, c4, rfl, hc4, hm4⟩ := h4.form
  obtain ⟨z, b, hz⟩ : ∃ z b, doFl x (cx, cy) = (z, b) := ⟨_, _, rfl⟩
  obtain ⟨k, hk⟩ : ∃ k, k = workOk (x, s, p, r) := ⟨_, rfl⟩
  have CF : ∀ (a1 a2 a3 a4 : Value) (w : World), Rd 1 RInt w a1 x.1 → Rd 3 RDom w a2 x.2.1 → Rd 3 RDom w a3 x.2.2.1 → Rd 2 RPair w a4 x.2.2.2 → Calls Try.prog 22 #[.agg #[a1, a2, a3, a4], .agg #[.int .i64 cx, .int .i64 cy]] w (RetFlB z b w) := fun a1 a2 a3 a4 w k1 k2 k3 k4 => by
    have := doS_any a1 a2 a3 a4 x cx cy w k1 k2 k3 k4 hs
    rw [hz] at this; exact this
  have hT : turnOk (x, s, p, r) (cx, cy) = (k && b) := by unfold turnOk; rw [← hk]; simp only [hz]
  have hF : turnFl (x, s, p, r) (cx, cy) = if (k && b) = true then z else x := by unfold turnFl; rw [hT]; simp only [hz]
  obtain ⟨zz, hzz⟩ : ∃ q, q = if (k && b) = true then z else x := ⟨_, rfl⟩
  obtain ⟨bb, hbb⟩ : ∃ q, q = (k && b) := ⟨_, rfl⟩
  rw [hT, hF, ← hzz, ← hbb]
  have HZ := Lib.hid hzz; have HB := Lib.hid hbb; have HK := Lib.hid hk
  clear hT hF hz hzz hbb hk
  have B0 := (((Below.refl w.heap.size w).al (.cells #[.slice A1 x.1.length c1, .slice A2 x.2.1.length c2, .slice A3 x.2.2.1.length c3, .slice A4 x.2.2.2.length c4, .int .i64 s, .int .i64 p, .int .i64 r] 52)).al (.cells #[.int .i64 cx, .int .i64 cy] 44)).al (.cells #[.slice none 0 0, .slice none 0 0, .slice none 0 0, .slice none 0 0, .int .i64 0, .int .i64 0, .int .i64 0] 52)
  have bP := ((Blk.new_ w 52 #[.slice A1 x.1.length c1, .slice A2 x.2.1.length c2, .slice A3 x.2.2.1.length c3, .slice A4 x.2.2.2.length c4, .int .i64 s, .int .i64 p, .int .i64 r]).alloc (.cells #[.int .i64 cx, .int .i64 cy] 44)).alloc (.cells #[.slice none 0 0, .slice none 0 0, .slice none 0 0, .slice none 0 0, .int .i64 0, .int .i64 0, .int .i64 0] 52)
  have bC := (Blk.new2 (w.alloc (.cells #[.slice A1 x.1.length c1, .slice A2 x.2.1.length c2, .slice A3 x.2.2.1.length c3, .slice A4 x.2.2.2.length c4, .int .i64 s, .int .i64 p, .int .i64 r] 52)) 44 #[.int .i64 cx, .int .i64 cy] (w.heap.size + 1) (by simp)).alloc (.cells #[.slice none 0 0, .slice none 0 0, .slice none 0 0, .slice none 0 0, .int .i64 0, .int .i64 0, .int .i64 0] 52)
  have bR := Blk.new2 ((w.alloc (.cells #[.slice A1 x.1.length c1, .slice A2 x.2.1.length c2, .slice A3 x.2.2.1.length c3, .slice A4 x.2.2.2.length c4, .int .i64 s, .int .i64 p, .int .i64 r] 52)).alloc (.cells #[.int .i64 cx, .int .i64 cy] 44)) 52 #[.slice none 0 0, .slice none 0 0, .slice none 0 0, .slice none 0 0, .int .i64 0, .int .i64 0, .int .i64 0] (w.heap.size + 1 + 1) (by simp)
  go_enter Try.func28, Try.ntmps28
  go_wp2_with fail
  obtain ⟨W0, hW0⟩ : ∃ W0, W0 = ((w.alloc (.cells #[.slice A1 x.1.length c1, .slice A2 x.2.1.length c2, .slice A3 x.2.2.1.length c3, .slice A4 x.2.2.2.length c4, .int .i64 s, .int .i64 p, .int .i64 r] 52)).alloc (.cells #[.int .i64 cx, .int .i64 cy] 44)).alloc (.cells #[.slice none 0 0, .slice none 0 0, .slice none 0 0, .slice none 0 0, .int .i64 0, .int .i64 0, .int .i64 0] 52) := ⟨_, rfl⟩
  obtain ⟨gP, hgP⟩ : ∃ g, g = w.heap.size := ⟨_, rfl⟩
  obtain ⟨gC, hgC⟩ : ∃ g, g = w.heap.size + 1 := ⟨_, rfl⟩
  obtain ⟨gR, hgR'⟩ : ∃ g, g = w.heap.size + 1 + 1 := ⟨_, rfl⟩
  rw [← hW0] at B0 bP bC bR ⊢
  rw [← hgR'] at bR ⊢
  rw [← hgC] at bC ⊢
  rw [← hgP] at bP ⊢
  have hgR : w.heap.size ≤ gR := by omega
  clear hW0 hgP hgC hgR'
  have y_0 := bP.cell 0
  have y_1 := bP.cell 1
  have y_2 := bP.cell 2
  have y_3 := bP.cell 3
  have y_4 := bP.cell 4
  have y_5 := bP.cell 5
  have y_6 := bP.cell 6
  simp only [List.getElem?_toArray, List.getElem?_cons_zero, List.getElem?_cons_succ] at y_0 y_1 y_2 y_3 y_4 y_5 y_6
  refine (copyWkS_any _ _ _ _ x s p r _ (h1.below RE.stays B0) (h2.below RE.stays B0) (h3.below RE.stays B0) (h4.below RE.stays B0) hs).mono ?_
  rintro e w1 ⟨C1, c1', C2, c2', C3, c3', C4, c4', rfl, oO, hb1⟩
  have oO := oO.mono B0.size
  have hgO : w.heap.size ≤ w1.heap.size := (B0.tr hb1).size
  have bO1 := Blk.new_ w1 52 #[.slice C1 x.1.length c1', .slice C2 x.2.1.length c2', .slice C3 x.2.2.1.length c3', .slice C4 x.2.2.2.length c4', .int .i64 s, .int .i64 p, .int .i64 r]
  have oO1 := oO.alloc (.cells #[.slice C1 x.1.length c1', .slice C2 x.2.1.length c2', .slice C3 x.2.2.1.length c3', .slice C4 x.2.2.2.length c4', .int .i64 s, .int .i64 p, .int .i64 r] 52)
  have B1 := (B0.tr hb1).al (.cells #[.slice C1 x.1.length c1', .slice C2 x.2.1.length c2', .slice C3 x.2.2.1.length c3', .slice C4 x.2.2.2.length c4', .int .i64 s, .int .i64 p, .int .i64 r] 52)
  have bP1 := (bP.bl hb1).alloc (.cells #[.slice C1 x.1.length c1', .slice C2 x.2.1.length c2', .slice C3 x.2.2.1.length c3', .slice C4 x.2.2.2.length c4', .int .i64 s, .int .i64 p, .int .i64 r] 52)
  have bC1 := (bC.bl hb1).alloc (.cells #[.slice C1 x.1.length c1', .slice C2 x.2.1.length c2', .slice C3 x.2.2.1.length c3', .slice C4 x.2.2.2.length c4', .int .i64 s, .int .i64 p, .int .i64 r] 52)
  have bR1 := (bR.bl hb1).alloc (.cells #[.slice C1 x.1.length c1', .slice C2 x.2.1.length c2', .slice C3 x.2.2.1.length c3', .slice C4 x.2.2.2.length c4', .int .i64 s, .int .i64 p, .int .i64 r] 52)
  have hRl := (bR.bl hb1).lt
  have hPl := (bP.bl hb1).lt
  have hCl := (bC.bl hb1).lt
  have hPn : gP ≠ w1.heap.size := by omega
  have hCn : gC ≠ w1.heap.size := by omega
  obtain ⟨gO, hgO'⟩ : ∃ g, g = w1.heap.size := ⟨_, rfl⟩
  have hRO : gR ≠ gO := by omega
  have hOR := hRO.symm
  have hgO : w.heap.size ≤ gO := by omega
  clear oO y_0 y_1 y_2 y_3 y_4 y_5 y_6
  have y_0 := bP1.cell 0
  have y_1 := bP1.cell 1
  have y_2 := bP1.cell 2
  have y_3 := bP1.cell 3
  have y_4 := bP1.cell 4
  have y_5 := bP1.cell 5
  have y_6 := bP1.cell 6
  simp only [List.getElem?_toArray, List.getElem?_cons_zero, List.getElem?_cons_succ] at y_0 y_1 y_2 y_3 y_4 y_5 y_6
  go_wp2_with fail
  refine (workOkS_any _ _ _ _ (x, s, p, r) _ (h1.below RE.stays B1) (h2.below RE.stays B1) (h3.below RE.stays B1) (h4.below RE.stays B1) hs.2.1).mono ?_
  rintro e w2 ⟨rfl, hb2⟩
  rw [← hgO'] at bO1 ⊢
  rw [← HK.out]
  clear hgO' y_0 y_1 y_2 y_3 y_4 y_5 y_6
  have B1 := B1.tr hb2
  have bP1 := bP1.bl hb2
  have bC1 := bC1.bl hb2
  have bR1 := bR1.bl hb2
  have bO1 := bO1.bl hb2
  have oO1 := oO1.below hb2
  have hgOl := bO1.lt
  cases k
  · obtain rfl : x = zz := by rw [HZ.out]; rfl
    obtain rfl : bb = false := by rw [HB.out]; rfl
    have y_0 := bO1.cell 0
    have y_1 := bO1.cell 1
    have y_2 := bO1.cell 2
    have y_3 := bO1.cell 3
    have y_4 := bO1.cell 4
    have y_5 := bO1.cell 5
    have y_6 := bO1.cell 6
    simp only [List.getElem?_toArray, List.getElem?_cons_zero, List.getElem?_cons_succ] at y_0 y_1 y_2 y_3 y_4 y_5 y_6
    go_wp2_with (refine wpList_storeRow rfl 52 _ _ rfl gR #[.slice C1 x.1.length c1', .slice C2 x.2.1.length c2', .slice C3 x.2.2.1.length c3', .slice C4 x.2.2.2.length c4', .int .i64 s, .int .i64 p, .int .i64 r] rfl rfl _ _ bR1 (by kernel_rfl) rfl (by simp [Value.oneCell']) ?_; intro wE bE hgE)
    have oE : OwnFl w.heap.size wE _ _ _ _ _ := OwnFl.rowI oO1 bR1 (by decide) (by decide) (by decide) hgE
    have BE := B1.grown hgE B1.size (fun k hk => by injection hk with hk; subst hk; exact hgR)
    have q_0 := bE.cell 0
    have q_1 := bE.cell 1
    have q_2 := bE.cell 2
    have q_3 := bE.cell 3
    have q_4 := bE.cell 4
    have q_5 := bE.cell 5
    have q_6 := bE.cell 6
    simp only [List.getElem?_toArray, List.getElem?_cons_zero, List.getElem?_cons_succ] at q_0 q_1 q_2 q_3 q_4 q_5 q_6
    refine bodyPost_ret (v := .tuple #[.agg #[.slice C1 x.1.length c1', .slice C2 x.2.1.length c2', .slice C3 x.2.2.1.length c3', .slice C4 x.2.2.2.length c4', .int .i64 s, .int .i64 p, .int .i64 r], .bool false]) (by simp [results, Try.results28, go_sem, q_0, q_1, q_2, q_3, q_4, q_5, q_6]) rfl ⟨C1, c1', C2, c2', C3, c3', C4, c4', rfl, oE, BE⟩
  · skip
    have y_0 := bP1.cell 0
    have y_1 := bP1.cell 1
    have y_2 := bP1.cell 2
    have y_3 := bP1.cell 3
    have y_4 := bP1.cell 4
    have y_5 := bP1.cell 5
    have y_6 := bP1.cell 6
    simp only [List.getElem?_toArray, List.getElem?_cons_zero, List.getElem?_cons_succ] at y_0 y_1 y_2 y_3 y_4 y_5 y_6
    have d_0 := bC1.cell 0
    have d_1 := bC1.cell 1
    simp only [List.getElem?_toArray, List.getElem?_cons_zero, List.getElem?_cons_succ] at d_0 d_1
    have hb0 := hb2
    clear hb2
    go_wp2_with fail
    refine (CF _ _ _ _ _ (h1.below RE.stays B1) (h2.below RE.stays B1) (h3.below RE.stays B1) (h4.below RE.stays B1)).mono ?_
    rintro e w2 ⟨D1, d1, D2, d2, D3, d3, D4, d4, rfl, oD, hb2⟩
    clear y_0 y_1 y_2 y_3 y_4 y_5 y_6 d_0 d_1
    have oD := oD.mono B1.size
    have bF2 := Blk.new_ w2 34 #[.slice D1 z.1.length d1, .slice D2 z.2.1.length d2, .slice D3 z.2.2.1.length d3, .slice D4 z.2.2.2.length d4]
    have oD2 := oD.alloc (.cells #[.slice D1 z.1.length d1, .slice D2 z.2.1.length d2, .slice D3 z.2.2.1.length d3, .slice D4 z.2.2.2.length d4] 34)
    have oO2 := (oO1.below hb2).alloc (.cells #[.slice D1 z.1.length d1, .slice D2 z.2.1.length d2, .slice D3 z.2.2.1.length d3, .slice D4 z.2.2.2.length d4] 34)
    have B2 := (B1.tr hb2).al (.cells #[.slice D1 z.1.length d1, .slice D2 z.2.1.length d2, .slice D3 z.2.2.1.length d3, .slice D4 z.2.2.2.length d4] 34)
    have bP2 := (bP1.bl hb2).alloc (.cells #[.slice D1 z.1.length d1, .slice D2 z.2.1.length d2, .slice D3 z.2.2.1.length d3, .slice D4 z.2.2.2.length d4] 34)
    have bR2 := (bR1.bl hb2).alloc (.cells #[.slice D1 z.1.length d1, .slice D2 z.2.1.length d2, .slice D3 z.2.2.1.length d3, .slice D4 z.2.2.2.length d4] 34)
    have bO2 := (bO1.bl hb2).alloc (.cells #[.slice D1 z.1.length d1, .slice D2 z.2.1.length d2, .slice D3 z.2.2.1.length d3, .slice D4 z.2.2.2.length d4] 34)
    have hPl2 := (bP1.bl hb2).lt
    have hOl2 := (bO1.bl hb2).lt
    have hRl2 := (bR1.bl hb2).lt
    have hPn2 : gP ≠ w2.heap.size := by omega
    obtain ⟨gF, hgF'⟩ : ∃ g, g = w2.heap.size := ⟨_, rfl⟩
    have hFO : gF ≠ gO := by omega
    have hFR : gF ≠ gR := by omega
    have hOF := hFO.symm
    have hRF := hFR.symm
    clear oD oO1
    cases b
    · obtain rfl : x = zz := by rw [HZ.out]; rfl
      obtain rfl : bb = false := by rw [HB.out]; rfl
      have y_0 := bO2.cell 0
      have y_1 := bO2.cell 1
      have y_2 := bO2.cell 2
      have y_3 := bO2.cell 3
      have y_4 := bO2.cell 4
      have y_5 := bO2.cell 5
      have y_6 := bO2.cell 6
      simp only [List.getElem?_toArray, List.getElem?_cons_zero, List.getElem?_cons_succ] at y_0 y_1 y_2 y_3 y_4 y_5 y_6
      go_wp2_with (refine wpList_storeRow rfl 52 _ _ rfl gR #[.slice C1 x.1.length c1', .slice C2 x.2.1.length c2', .slice C3 x.2.2.1.length c3', .slice C4 x.2.2.2.length c4', .int .i64 s, .int .i64 p, .int .i64 r] rfl rfl _ _ bR2 (by kernel_rfl) rfl (by simp [Value.oneCell']) ?_; intro wE bE hgE)
      have oE : OwnFl w.heap.size wE _ _ _ _ _ := OwnFl.rowI oO2 bR2 (by decide) (by decide) (by decide) hgE
      have BE := B2.grown hgE B2.size (fun k hk => by injection hk with hk; subst hk; exact hgR)
      have q_0 := bE.cell 0
      have q_1 := bE.cell 1
      have q_2 := bE.cell 2
      have q_3 := bE.cell 3
      have q_4 := bE.cell 4
      have q_5 := bE.cell 5
      have q_6 := bE.cell 6
      simp only [List.getElem?_toArray, List.getElem?_cons_zero, List.getElem?_cons_succ] at q_0 q_1 q_2 q_3 q_4 q_5 q_6
      refine bodyPost_ret (v := .tuple #[.agg #[.slice C1 x.1.length c1', .slice C2 x.2.1.length c2', .slice C3 x.2.2.1.length c3', .slice C4 x.2.2.2.length c4', .int .i64 s, .int .i64 p, .int .i64 r], .bool false]) (by simp [results, Try.results28, go_sem, q_0, q_1, q_2, q_3, q_4, q_5, q_6]) rfl ⟨C1, c1', C2, c2', C3, c3', C4, c4', rfl, oE, BE⟩
    · obtain rfl : z = zz := by rw [HZ.out]; rfl
      obtain rfl : bb = true := by rw [HB.out]; rfl
      go_upto_region 7 with (fail)
      obtain ⟨W3, hW3⟩ : ∃ W3, W3 = w2.alloc (.cells #[.slice D1 z.1.length d1, .slice D2 z.2.1.length d2, .slice D3 z.2.2.1.length d3, .slice D4 z.2.2.2.length d4] 34) := ⟨_, rfl⟩
      rw [← hW3] at bF2 bR2 bO2 oD2 B2 ⊢
      rw [← hgF'] at bF2 ⊢
      clear hW3 hgF'
      have f_0 := bF2.cell 0
      have f_1 := bF2.cell 1
      have f_2 := bF2.cell 2
      have f_3 := bF2.cell 3
      simp only [List.getElem?_toArray, List.getElem?_cons_zero, List.getElem?_cons_succ] at f_0 f_1 f_2 f_3
      have hgOl2 := bO2.lt
      have hgFl := bF2.lt
      have o_0 := bO2.cell 0
      have o_1 := bO2.cell 1
      have o_2 := bO2.cell 2
      have o_3 := bO2.cell 3
      have o_4 := bO2.cell 4
      have o_5 := bO2.cell 5
      have o_6 := bO2.cell 6
      simp only [List.getElem?_toArray, List.getElem?_cons_zero, List.getElem?_cons_succ] at o_0 o_1 o_2 o_3 o_4 o_5 o_6
      have fO : ∀ j, W3.frozen? ⟨gO, j, none⟩ = false := fun j => bO2.frozen j
      have hgg := gr_set (gr_set (gr_set (gr_set (World.grownBy.refl W3 (some gO)) 0 (.slice D1 z.1.length d1)) 1 (.slice D2 z.2.1.length d2)) 2 (.slice D3 z.2.2.1.length d3)) 3 (.slice D4 z.2.2.2.length d4)
      have bR5 := bR2.grown hgg (by simp; omega)
      have oF5 := OwnFl.rowI oD2 bO2 (by decide) (by decide) (by decide) hgg
      have B5 := B2.grown hgg B2.size (fun k hk => by injection hk with hk; subst hk; exact hgO)
      go_wp2_with (refine wpList_storeRow rfl 52 _ _ rfl gR #[.slice D1 z.1.length d1, .slice D2 z.2.1.length d2, .slice D3 z.2.2.1.length d3, .slice D4 z.2.2.2.length d4, .int .i64 s, .int .i64 p, .int .i64 r] rfl rfl _ _ bR5 (by kernel_rfl) rfl (by simp [Value.oneCell']) ?_; intro wE bE hgE)
      have oE : OwnFl w.heap.size wE _ _ _ _ _ := OwnFl.rowI oF5 bR5 (by decide) (by decide) (by decide) hgE
      have BE := B5.grown hgE B5.size (fun k hk => by injection hk with hk; subst hk; exact hgR)
      have q_0 := bE.cell 0
      have q_1 := bE.cell 1
      have q_2 := bE.cell 2
      have q_3 := bE.cell 3
      have q_4 := bE.cell 4
      have q_5 := bE.cell 5
      have q_6 := bE.cell 6
      simp only [List.getElem?_toArray, List.getElem?_cons_zero, List.getElem?_cons_succ] at q_0 q_1 q_2 q_3 q_4 q_5 q_6
      refine bodyPost_ret (v := .tuple #[.agg #[.slice D1 z.1.length d1, .slice D2 z.2.1.length d2, .slice D3 z.2.2.1.length d3, .slice D4 z.2.2.2.length d4, .int .i64 s, .int .i64 p, .int .i64 r], .bool true]) (by simp [results, Try.results28, go_sem, q_0, q_1, q_2, q_3, q_4, q_5, q_6]) rfl ⟨D1, d1, D2, d2, D3, d3, D4, d4, rfl, oE, BE⟩
theorem run_fieldNow (a b c d : Value) (w : World) : (Instr.field 34 (.agg #[a, b, c, d]) 2).run Try.prog w = .ok c w := by
  simp [Instr.field, run_underlying Try.underlying34, part, asAgg, isAgg, go_sem]
abbrev op_WkS_specAuditWorkshop_1_0 : Oper := { dst := some 3, op := Go.Op.load 52 (Go.Operand.tmp 1), type := 52, pos := "l38_workshop.go:77", after := #[], guard := none }
abbrev op_WkS_specAuditWorkshop_1_1 : Oper := { dst := some 4, op := Go.Op.call { callee := Go.Callee.value (Go.Operand.func 91), args := #[Go.Operand.tmp 3], argTypes := #[52] }, type := 4, pos := "l38_workshop.go:77", after := #[{ on := 0, ground := Go.Ground.data }], guard := none }
abbrev op_WkS_specAuditWorkshop_1_2 : Oper := { dst := some 5, op := Go.Op.move (Go.Operand.tmp 4), type := 4, pos := "l38_workshop.go:77", after := #[{ on := 1, ground := Go.Ground.data }, { on := 1, ground := Go.Ground.chain }], guard := none }
abbrev op_WkS_specAuditWorkshop_1_3 : Oper := { dst := some 6, op := Go.Op.fieldAddr 52 (Go.Operand.tmp 1) 0, type := 0, pos := "l38_workshop.go:77", after := #[{ on := 2, ground := Go.Ground.guard }], guard := some (2, true) }
abbrev op_WkS_specAuditWorkshop_1_4 : Oper := { dst := some 7, op := Go.Op.load 34 (Go.Operand.tmp 6), type := 34, pos := "l38_workshop.go:77", after := #[{ on := 3, ground := Go.Ground.data }, { on := 2, ground := Go.Ground.guard }], guard := some (2, true) }
abbrev op_WkS_specAuditWorkshop_1_5 : Oper := { dst := some 8, op := Go.Op.call { callee := Go.Callee.value (Go.Operand.func 25), args := #[Go.Operand.tmp 7], argTypes := #[34] }, type := 34, pos := "l38_workshop.go:77", after := #[{ on := 4, ground := Go.Ground.data }, { on := 2, ground := Go.Ground.chain }, { on := 2, ground := Go.Ground.guard }], guard := some (2, true) }
abbrev op_WkS_specAuditWorkshop_1_6 : Oper := { dst := some 9, op := Go.Op.field 34 (Go.Operand.tmp 8) 2, type := 31, pos := "l38_workshop.go:77", after := #[{ on := 5, ground := Go.Ground.data }, { on := 2, ground := Go.Ground.guard }], guard := some (2, true) }
abbrev op_WkS_specAuditWorkshop_1_7 : Oper := { dst := some 10, op := Go.Op.fieldAddr 52 (Go.Operand.tmp 1) 0, type := 0, pos := "l38_workshop.go:77", after := #[{ on := 2, ground := Go.Ground.guard }], guard := some (2, true) }
abbrev op_WkS_specAuditWorkshop_1_8 : Oper := { dst := some 11, op := Go.Op.fieldAddr 34 (Go.Operand.tmp 10) 1, type := 0, pos := "l38_workshop.go:77", after := #[{ on := 7, ground := Go.Ground.data }, { on := 2, ground := Go.Ground.guard }], guard := some (2, true) }
abbrev op_WkS_specAuditWorkshop_1_9 : Oper := { dst := some 12, op := Go.Op.load 31 (Go.Operand.tmp 11), type := 31, pos := "l38_workshop.go:77", after := #[{ on := 8, ground := Go.Ground.data }, { on := 2, ground := Go.Ground.guard }], guard := some (2, true) }
abbrev op_WkS_specAuditWorkshop_1_10 : Oper := { dst := some 13, op := Go.Op.call { callee := Go.Callee.value (Go.Operand.func 94), args := #[Go.Operand.tmp 9, Go.Operand.tmp 12], argTypes := #[31, 31] }, type := 4, pos := "l38_workshop.go:77", after := #[{ on := 6, ground := Go.Ground.data }, { on := 9, ground := Go.Ground.data }, { on := 5, ground := Go.Ground.chain }, { on := 2, ground := Go.Ground.guard }], guard := some (2, true) }
abbrev op_WkS_specAuditWorkshop_1_11 : Oper := { dst := some 14, op := Go.Op.pick (Go.Operand.tmp 5) (Go.Operand.tmp 13) (Go.Operand.const (Go.Value.bool false)), type := 4, pos := "l38_workshop.go:77", after := #[{ on := 2, ground := Go.Ground.data }, { on := 10, ground := Go.Ground.data }], guard := none }
abbrev op_WkS_specAuditWorkshop_1_12 : Oper := { dst := some 2, op := Go.Op.assign (Go.Operand.tmp 14), type := 4, pos := "l38_workshop.go:77", after := #[{ on := 11, ground := Go.Ground.data }, { on := 10, ground := Go.Ground.chain }, { on := 0, ground := Go.Ground.phase }, { on := 1, ground := Go.Ground.phase }, { on := 2, ground := Go.Ground.phase }, { on := 3, ground := Go.Ground.phase }, { on := 4, ground := Go.Ground.phase }, { on := 5, ground := Go.Ground.phase }, { on := 6, ground := Go.Ground.phase }, { on := 7, ground := Go.Ground.phase }, { on := 8, ground := Go.Ground.phase }, { on := 9, ground := Go.Ground.phase }, { on := 10, ground := Go.Ground.phase }, { on := 11, ground := Go.Ground.phase }], guard := none }
set_option maxHeartbeats 2000000 in
set_option maxRecDepth 100000 in
theorem auditS_any (v1 v2 v3 v4 : Value) (x : Fl) (s p r : Int) (w : World) (h1 : Rd 1 RInt w v1 x.1) (h2 : Rd 3 RDom w v2 x.2.1) (h3 : Rd 3 RDom w v3 x.2.2.1) (h4 : Rd 2 RPair w v4 x.2.2.2) (hs : Small4 x) :
    Calls Try.prog 34 #[.agg #[v1, v2, v3, v4, .int .i64 s, .int .i64 p, .int .i64 r]] w (Ret (.bool (workOk (x, s, p, r))) w) := by
  obtain ⟨A1, c1, rfl, hc1, hm1⟩ := h1.form
  obtain ⟨A2, c2, rfl, hc2, hm2⟩ := h2.form
  obtain ⟨A3, c3, rfl, hc3, hm3⟩ := h3.form
  obtain ⟨A4, c4, rfl, hc4, hm4⟩ := h4.form
  have B0 := (Below.refl w.heap.size w).al (.cells #[.slice A1 x.1.length c1, .slice A2 x.2.1.length c2, .slice A3 x.2.2.1.length c3, .slice A4 x.2.2.2.length c4, .int .i64 s, .int .i64 p, .int .i64 r] 52)
  have bP := Blk.new_ w 52 #[.slice A1 x.1.length c1, .slice A2 x.2.1.length c2, .slice A3 x.2.2.1.length c3, .slice A4 x.2.2.2.length c4, .int .i64 s, .int .i64 p, .int .i64 r]
  obtain ⟨k, hk⟩ : ∃ k, k = workOk (x, s, p, r) := ⟨_, rfl⟩
  have hfl : k = true → flOk x = true := fun q => work_flOk (hk ▸ q)
  rw [← hk]
  have HK := Lib.hid hk; clear hk
  go_enter Try.func34, Try.ntmps34
  go_wp2_with fail
  obtain ⟨W0, hW0⟩ : ∃ W0, W0 = w.alloc (.cells #[.slice A1 x.1.length c1, .slice A2 x.2.1.length c2, .slice A3 x.2.2.1.length c3, .slice A4 x.2.2.2.length c4, .int .i64 s, .int .i64 p, .int .i64 r] 52) := ⟨_, rfl⟩
  obtain ⟨gP, hgP⟩ : ∃ g, g = w.heap.size := ⟨_, rfl⟩
  rw [← hW0] at B0 bP ⊢
  rw [← hgP] at bP ⊢
  clear hW0 hgP
  have hp0 := bP.lt
  have z_0 := bP.cell 0
  have z_1 := bP.cell 1
  have z_2 := bP.cell 2
  have z_3 := bP.cell 3
  have z_4 := bP.cell 4
  have z_5 := bP.cell 5
  have z_6 := bP.cell 6
  simp only [List.getElem?_toArray, List.getElem?_cons_zero, List.getElem?_cons_succ] at z_0 z_1 z_2 z_3 z_4 z_5 z_6
  have Bw : Below W0.heap.size W0 W0.drew := (Below.refl _ _).drew
  have hz : W0.heap.size ≤ W0.drew.heap.size := by simp
  cases k
  · skip
    refine wp_region_held_drew (S := (fun w' => w'.cell? ⟨gP, 0, none⟩ = some (.slice A1 x.1.length c1) ∧ w'.cell? ⟨gP, 1, none⟩ = some (.slice A2 x.2.1.length c2) ∧ w'.cell? ⟨gP, 2, none⟩ = some (.slice A3 x.2.2.1.length c3) ∧ w'.cell? ⟨gP, 3, none⟩ = some (.slice A4 x.2.2.2.length c4) ∧ w'.cell? ⟨gP, 4, none⟩ = some (.int .i64 s) ∧ w'.cell? ⟨gP, 5, none⟩ = some (.int .i64 p) ∧ w'.cell? ⟨gP, 6, none⟩ = some (.int .i64 r))) (by kernel_rfl) ?_ (fun hHeld => ?_)
    · (try dsimp only); (try go_keep)
    refine wpAnyH_take (i := 0) (oi := op_WkS_specAuditWorkshop_1_0) (v := ?_) rfl (by kernel_rfl) (by kernel_rfl) (by kernel_rfl) (fun _ _ _ h => h) (Or.inl ⟨by rfl, ?_⟩) (by assumption) ?_
    rotate_left 1
    · (intro wS hSw; (try dsimp only at hSw); dsimp only [op_WkS_specAuditWorkshop_1_0]; go_simp; (all_goals with_reducible rfl))
    simp only [op_WkS_specAuditWorkshop_1_0, Act.put, List.setIfInBounds_toArray, List.set_cons_zero, List.set_cons_succ]
    refine wpAnyH_ready (rs := [1]) (by kernel_rfl) (by simp) ?_
    refine AllReadyH.cons (o := op_WkS_specAuditWorkshop_1_1) rfl (fun K hK => ?_) AllReadyH.nil
    dsimp only [op_WkS_specAuditWorkshop_1_1]
    go_simp
    (first | (go_at_call 91; go_must (refine (workOkS_any _ _ _ _ (x, s, p, r) _ (h1.below RE.stays (B0.tr Bw)) (h2.below RE.stays (B0.tr Bw)) (h3.below RE.stays (B0.tr Bw)) (h4.below RE.stays (B0.tr Bw)) hs.2.1).mono ?_; rintro e wX ⟨rfl, hbX⟩; rw [← HK.out];obtain ⟨hcX, hfX, hzX⟩ := bkn hbX W0.heap.size hz; have hz := hzX; have Bw := Bw.tr hbX); (try go_wp2_with fail)))
    refine hK.out _ _ ?_ (fun hHeld => ?_)
    · (try dsimp only); (try go_keep)
    clear hK K
    (try simp only [Act.put, List.setIfInBounds_toArray, List.set_cons_zero, List.set_cons_succ])
    refine wpAnyH_take (i := 2) (oi := op_WkS_specAuditWorkshop_1_2) (v := ?_) rfl (by kernel_rfl) (by kernel_rfl) (by kernel_rfl) (fun _ _ _ h => h) (Or.inl ⟨by rfl, ?_⟩) (by assumption) ?_
    rotate_left 1
    · (intro wS hSw; (try dsimp only at hSw); dsimp only [op_WkS_specAuditWorkshop_1_2]; go_simp; (all_goals with_reducible rfl))
    simp only [op_WkS_specAuditWorkshop_1_2, Act.put, List.setIfInBounds_toArray, List.set_cons_zero, List.set_cons_succ]
    refine wpAnyH_take (i := 3) (oi := op_WkS_specAuditWorkshop_1_3) (v := undef) rfl (by kernel_rfl) (by kernel_rfl) (by kernel_rfl) (fun _ _ _ h => h) (Or.inr ⟨by rfl, rfl⟩) (by assumption) ?_
    simp only [op_WkS_specAuditWorkshop_1_3, Act.put, List.setIfInBounds_toArray, List.set_cons_zero, List.set_cons_succ]
    refine wpAnyH_take (i := 4) (oi := op_WkS_specAuditWorkshop_1_4) (v := undef) rfl (by kernel_rfl) (by kernel_rfl) (by kernel_rfl) (fun _ _ _ h => h) (Or.inr ⟨by rfl, rfl⟩) (by assumption) ?_
    simp only [op_WkS_specAuditWorkshop_1_4, Act.put, List.setIfInBounds_toArray, List.set_cons_zero, List.set_cons_succ]
    refine wpAnyH_take (i := 5) (oi := op_WkS_specAuditWorkshop_1_5) (v := undef) rfl (by kernel_rfl) (by kernel_rfl) (by kernel_rfl) (fun _ _ _ h => h) (Or.inr ⟨by rfl, rfl⟩) (by assumption) ?_
    simp only [op_WkS_specAuditWorkshop_1_5, Act.put, List.setIfInBounds_toArray, List.set_cons_zero, List.set_cons_succ]
    refine wpAnyH_take (i := 6) (oi := op_WkS_specAuditWorkshop_1_6) (v := undef) rfl (by kernel_rfl) (by kernel_rfl) (by kernel_rfl) (fun _ _ _ h => h) (Or.inr ⟨by rfl, rfl⟩) (by assumption) ?_
    simp only [op_WkS_specAuditWorkshop_1_6, Act.put, List.setIfInBounds_toArray, List.set_cons_zero, List.set_cons_succ]
    refine wpAnyH_take (i := 7) (oi := op_WkS_specAuditWorkshop_1_7) (v := undef) rfl (by kernel_rfl) (by kernel_rfl) (by kernel_rfl) (fun _ _ _ h => h) (Or.inr ⟨by rfl, rfl⟩) (by assumption) ?_
    simp only [op_WkS_specAuditWorkshop_1_7, Act.put, List.setIfInBounds_toArray, List.set_cons_zero, List.set_cons_succ]
    refine wpAnyH_take (i := 8) (oi := op_WkS_specAuditWorkshop_1_8) (v := undef) rfl (by kernel_rfl) (by kernel_rfl) (by kernel_rfl) (fun _ _ _ h => h) (Or.inr ⟨by rfl, rfl⟩) (by assumption) ?_
    simp only [op_WkS_specAuditWorkshop_1_8, Act.put, List.setIfInBounds_toArray, List.set_cons_zero, List.set_cons_succ]
    refine wpAnyH_take (i := 9) (oi := op_WkS_specAuditWorkshop_1_9) (v := undef) rfl (by kernel_rfl) (by kernel_rfl) (by kernel_rfl) (fun _ _ _ h => h) (Or.inr ⟨by rfl, rfl⟩) (by assumption) ?_
    simp only [op_WkS_specAuditWorkshop_1_9, Act.put, List.setIfInBounds_toArray, List.set_cons_zero, List.set_cons_succ]
    refine wpAnyH_take (i := 10) (oi := op_WkS_specAuditWorkshop_1_10) (v := undef) rfl (by kernel_rfl) (by kernel_rfl) (by kernel_rfl) (fun _ _ _ h => h) (Or.inr ⟨by rfl, rfl⟩) (by assumption) ?_
    simp only [op_WkS_specAuditWorkshop_1_10, Act.put, List.setIfInBounds_toArray, List.set_cons_zero, List.set_cons_succ]
    refine wpAnyH_take (i := 11) (oi := op_WkS_specAuditWorkshop_1_11) (v := ?_) rfl (by kernel_rfl) (by kernel_rfl) (by kernel_rfl) (fun _ _ _ h => h) (Or.inl ⟨by rfl, ?_⟩) (by assumption) ?_
    rotate_left 1
    · (intro wS hSw; (try dsimp only at hSw); dsimp only [op_WkS_specAuditWorkshop_1_11]; go_simp; (all_goals with_reducible rfl))
    simp only [op_WkS_specAuditWorkshop_1_11, Act.put, List.setIfInBounds_toArray, List.set_cons_zero, List.set_cons_succ]
    refine wpAnyH_take (i := 12) (oi := op_WkS_specAuditWorkshop_1_12) (v := ?_) rfl (by kernel_rfl) (by kernel_rfl) (by kernel_rfl) (fun _ _ _ h => h) (Or.inl ⟨by rfl, ?_⟩) (by assumption) ?_
    rotate_left 1
    · (intro wS hSw; (try dsimp only at hSw); dsimp only [op_WkS_specAuditWorkshop_1_12]; go_simp; (all_goals with_reducible rfl))
    simp only [op_WkS_specAuditWorkshop_1_12, Act.put, List.setIfInBounds_toArray, List.set_cons_zero, List.set_cons_succ]
    refine wpAnyH_done (by kernel_rfl) ?_ _
    go_wp2
    go_ret
    exact ⟨rfl, B0.tr Bw⟩
  · have hf := hfl rfl
    obtain ⟨y, hy⟩ : ∃ y, y = undoAllFl x := ⟨_, rfl⟩
    have hnow : y.2.2.1 = x.2.1 := by rw [hy]; exact audit_now hf
    have CU : ∀ (a1 a2 a3 a4 : Value) (w : World), Rd 1 RInt w a1 x.1 → Rd 3 RDom w a2 x.2.1 → Rd 3 RDom w a3 x.2.2.1 → Rd 2 RPair w a4 x.2.2.2 → Calls Try.prog 25 #[.agg #[a1, a2, a3, a4]] w (RetFloor y w) := fun a1 a2 a3 a4 w k1 k2 k3 k4 => by
      rw [hy]; exact undoAllS_any a1 a2 a3 a4 x w k1 k2 k3 k4 hs
    have HN := Lib.hid hnow
    have hfld := run_fieldNow
    clear hy hf hfl hnow
    refine wp_region_held_drew (S := (fun w' => w'.cell? ⟨gP, 0, none⟩ = some (.slice A1 x.1.length c1) ∧ w'.cell? ⟨gP, 1, none⟩ = some (.slice A2 x.2.1.length c2) ∧ w'.cell? ⟨gP, 2, none⟩ = some (.slice A3 x.2.2.1.length c3) ∧ w'.cell? ⟨gP, 3, none⟩ = some (.slice A4 x.2.2.2.length c4) ∧ w'.cell? ⟨gP, 4, none⟩ = some (.int .i64 s) ∧ w'.cell? ⟨gP, 5, none⟩ = some (.int .i64 p) ∧ w'.cell? ⟨gP, 6, none⟩ = some (.int .i64 r))) (by kernel_rfl) ?_ (fun hHeld => ?_)
    · (try dsimp only); (try go_keep)
    refine wpAnyH_take (i := 0) (oi := op_WkS_specAuditWorkshop_1_0) (v := ?_) rfl (by kernel_rfl) (by kernel_rfl) (by kernel_rfl) (fun _ _ _ h => h) (Or.inl ⟨by rfl, ?_⟩) (by assumption) ?_
    rotate_left 1
    · (intro wS hSw; (try dsimp only at hSw); dsimp only [op_WkS_specAuditWorkshop_1_0]; go_simp; (all_goals with_reducible rfl))
    simp only [op_WkS_specAuditWorkshop_1_0, Act.put, List.setIfInBounds_toArray, List.set_cons_zero, List.set_cons_succ]
    refine wpAnyH_ready (rs := [1]) (by kernel_rfl) (by simp) ?_
    refine AllReadyH.cons (o := op_WkS_specAuditWorkshop_1_1) rfl (fun K hK => ?_) AllReadyH.nil
    dsimp only [op_WkS_specAuditWorkshop_1_1]
    go_simp
    (first | (go_at_call 91; go_must (refine (workOkS_any _ _ _ _ (x, s, p, r) _ (h1.below RE.stays (B0.tr Bw)) (h2.below RE.stays (B0.tr Bw)) (h3.below RE.stays (B0.tr Bw)) (h4.below RE.stays (B0.tr Bw)) hs.2.1).mono ?_; rintro e wX ⟨rfl, hbX⟩; rw [← HK.out];obtain ⟨hcX, hfX, hzX⟩ := bkn hbX W0.heap.size hz; have hz := hzX; have Bw := Bw.tr hbX); (try go_wp2_with fail)) | (go_at_call 25; go_must (refine (CU _ _ _ _ _ (h1.below RE.stays (B0.tr Bw)) (h2.below RE.stays (B0.tr Bw)) (h3.below RE.stays (B0.tr Bw)) (h4.below RE.stays (B0.tr Bw))).mono ?_; rintro e wX ⟨D1, d1, D2, d2, D3, d3, D4, d4, rfl, oD, hbX⟩; obtain ⟨hcX, hfX, hzX⟩ := bkn hbX W0.heap.size hz; have hz := hzX; have Bw := Bw.tr hbX); (try go_wp2_with fail)) | (go_at_call 94; go_must (refine (sameDomS_same _ _ x.2.1 _ (rd_as oD.rc HN.out) (h2.below RE.stays (B0.tr Bw))).mono ?_; rintro e wX ⟨rfl, hbX⟩; obtain ⟨hcX, hfX, hzX⟩ := bkn hbX W0.heap.size hz; have hz := hzX; have Bw := Bw.tr hbX); (try go_wp2_with fail)))
    refine hK.out _ _ ?_ (fun hHeld => ?_)
    · (try dsimp only); (try go_keep)
    clear hK K
    (try simp only [Act.put, List.setIfInBounds_toArray, List.set_cons_zero, List.set_cons_succ])
    refine wpAnyH_take (i := 2) (oi := op_WkS_specAuditWorkshop_1_2) (v := ?_) rfl (by kernel_rfl) (by kernel_rfl) (by kernel_rfl) (fun _ _ _ h => h) (Or.inl ⟨by rfl, ?_⟩) (by assumption) ?_
    rotate_left 1
    · (intro wS hSw; (try dsimp only at hSw); dsimp only [op_WkS_specAuditWorkshop_1_2]; go_simp; (all_goals with_reducible rfl))
    simp only [op_WkS_specAuditWorkshop_1_2, Act.put, List.setIfInBounds_toArray, List.set_cons_zero, List.set_cons_succ]
    refine wpAnyH_take (i := 3) (oi := op_WkS_specAuditWorkshop_1_3) (v := ?_) rfl (by kernel_rfl) (by kernel_rfl) (by kernel_rfl) (fun _ _ _ h => h) (Or.inl ⟨by rfl, ?_⟩) (by assumption) ?_
    rotate_left 1
    · (intro wS hSw; (try dsimp only at hSw); dsimp only [op_WkS_specAuditWorkshop_1_3]; go_simp; (all_goals with_reducible rfl))
    simp only [op_WkS_specAuditWorkshop_1_3, Act.put, List.setIfInBounds_toArray, List.set_cons_zero, List.set_cons_succ]
    refine wpAnyH_take (i := 4) (oi := op_WkS_specAuditWorkshop_1_4) (v := ?_) rfl (by kernel_rfl) (by kernel_rfl) (by kernel_rfl) (fun _ _ _ h => h) (Or.inl ⟨by rfl, ?_⟩) (by assumption) ?_
    rotate_left 1
    · (intro wS hSw; (try dsimp only at hSw); dsimp only [op_WkS_specAuditWorkshop_1_4]; go_simp; (all_goals with_reducible rfl))
    simp only [op_WkS_specAuditWorkshop_1_4, Act.put, List.setIfInBounds_toArray, List.set_cons_zero, List.set_cons_succ]
    refine wpAnyH_take (i := 7) (oi := op_WkS_specAuditWorkshop_1_7) (v := ?_) rfl (by kernel_rfl) (by kernel_rfl) (by kernel_rfl) (fun _ _ _ h => h) (Or.inl ⟨by rfl, ?_⟩) (by assumption) ?_
    rotate_left 1
    · (intro wS hSw; (try dsimp only at hSw); dsimp only [op_WkS_specAuditWorkshop_1_7]; go_simp; (all_goals with_reducible rfl))
    simp only [op_WkS_specAuditWorkshop_1_7, Act.put, List.setIfInBounds_toArray, List.set_cons_zero, List.set_cons_succ]
    refine wpAnyH_take (i := 8) (oi := op_WkS_specAuditWorkshop_1_8) (v := ?_) rfl (by kernel_rfl) (by kernel_rfl) (by kernel_rfl) (fun _ _ _ h => h) (Or.inl ⟨by rfl, ?_⟩) (by assumption) ?_
    rotate_left 1
    · (intro wS hSw; (try dsimp only at hSw); dsimp only [op_WkS_specAuditWorkshop_1_8]; go_simp; (all_goals with_reducible rfl))
    simp only [op_WkS_specAuditWorkshop_1_8, Act.put, List.setIfInBounds_toArray, List.set_cons_zero, List.set_cons_succ]
    refine wpAnyH_take (i := 9) (oi := op_WkS_specAuditWorkshop_1_9) (v := ?_) rfl (by kernel_rfl) (by kernel_rfl) (by kernel_rfl) (fun _ _ _ h => h) (Or.inl ⟨by rfl, ?_⟩) (by assumption) ?_
    rotate_left 1
    · (intro wS hSw; (try dsimp only at hSw); dsimp only [op_WkS_specAuditWorkshop_1_9]; go_simp; (all_goals with_reducible rfl))
    simp only [op_WkS_specAuditWorkshop_1_9, Act.put, List.setIfInBounds_toArray, List.set_cons_zero, List.set_cons_succ]
    refine wpAnyH_ready (rs := [5]) (by kernel_rfl) (by simp) ?_
    refine AllReadyH.cons (o := op_WkS_specAuditWorkshop_1_5) rfl (fun K hK => ?_) AllReadyH.nil
    dsimp only [op_WkS_specAuditWorkshop_1_5]
    go_simp
    (first | (go_at_call 91; go_must (refine (workOkS_any _ _ _ _ (x, s, p, r) _ (h1.below RE.stays (B0.tr Bw)) (h2.below RE.stays (B0.tr Bw)) (h3.below RE.stays (B0.tr Bw)) (h4.below RE.stays (B0.tr Bw)) hs.2.1).mono ?_; rintro e wX ⟨rfl, hbX⟩; rw [← HK.out];obtain ⟨hcX, hfX, hzX⟩ := bkn hbX W0.heap.size hz; have hz := hzX; have Bw := Bw.tr hbX); (try go_wp2_with fail)) | (go_at_call 25; go_must (refine (CU _ _ _ _ _ (h1.below RE.stays (B0.tr Bw)) (h2.below RE.stays (B0.tr Bw)) (h3.below RE.stays (B0.tr Bw)) (h4.below RE.stays (B0.tr Bw))).mono ?_; rintro e wX ⟨D1, d1, D2, d2, D3, d3, D4, d4, rfl, oD, hbX⟩; obtain ⟨hcX, hfX, hzX⟩ := bkn hbX W0.heap.size hz; have hz := hzX; have Bw := Bw.tr hbX); (try go_wp2_with fail)) | (go_at_call 94; go_must (refine (sameDomS_same _ _ x.2.1 _ (rd_as oD.rc HN.out) (h2.below RE.stays (B0.tr Bw))).mono ?_; rintro e wX ⟨rfl, hbX⟩; obtain ⟨hcX, hfX, hzX⟩ := bkn hbX W0.heap.size hz; have hz := hzX; have Bw := Bw.tr hbX); (try go_wp2_with fail)))
    refine hK.out _ _ ?_ (fun hHeld => ?_)
    · (try dsimp only); (try go_keep)
    clear hK K
    (try simp only [Act.put, List.setIfInBounds_toArray, List.set_cons_zero, List.set_cons_succ])
    refine wpAnyH_take (i := 6) (oi := op_WkS_specAuditWorkshop_1_6) (v := ?_) rfl (by kernel_rfl) (by kernel_rfl) (by kernel_rfl) (fun _ _ _ h => h) (Or.inl ⟨by rfl, ?_⟩) (by assumption) ?_
    rotate_left 1
    · (intro wS hSw; (try dsimp only at hSw); dsimp only [op_WkS_specAuditWorkshop_1_6]; go_simp; (all_goals with_reducible rfl))
    simp only [op_WkS_specAuditWorkshop_1_6, Act.put, List.setIfInBounds_toArray, List.set_cons_zero, List.set_cons_succ]
    refine wpAnyH_ready (rs := [10]) (by kernel_rfl) (by simp) ?_
    refine AllReadyH.cons (o := op_WkS_specAuditWorkshop_1_10) rfl (fun K hK => ?_) AllReadyH.nil
    dsimp only [op_WkS_specAuditWorkshop_1_10]
    go_simp
    (first | (go_at_call 91; go_must (refine (workOkS_any _ _ _ _ (x, s, p, r) _ (h1.below RE.stays (B0.tr Bw)) (h2.below RE.stays (B0.tr Bw)) (h3.below RE.stays (B0.tr Bw)) (h4.below RE.stays (B0.tr Bw)) hs.2.1).mono ?_; rintro e wX ⟨rfl, hbX⟩; rw [← HK.out];obtain ⟨hcX, hfX, hzX⟩ := bkn hbX W0.heap.size hz; have hz := hzX; have Bw := Bw.tr hbX); (try go_wp2_with fail)) | (go_at_call 25; go_must (refine (CU _ _ _ _ _ (h1.below RE.stays (B0.tr Bw)) (h2.below RE.stays (B0.tr Bw)) (h3.below RE.stays (B0.tr Bw)) (h4.below RE.stays (B0.tr Bw))).mono ?_; rintro e wX ⟨D1, d1, D2, d2, D3, d3, D4, d4, rfl, oD, hbX⟩; obtain ⟨hcX, hfX, hzX⟩ := bkn hbX W0.heap.size hz; have hz := hzX; have Bw := Bw.tr hbX); (try go_wp2_with fail)) | (go_at_call 94; go_must (refine (sameDomS_same _ _ x.2.1 _ (rd_as oD.rc HN.out) (h2.below RE.stays (B0.tr Bw))).mono ?_; rintro e wX ⟨rfl, hbX⟩; obtain ⟨hcX, hfX, hzX⟩ := bkn hbX W0.heap.size hz; have hz := hzX; have Bw := Bw.tr hbX); (try go_wp2_with fail)))
    refine hK.out _ _ ?_ (fun hHeld => ?_)
    · (try dsimp only); (try go_keep)
    clear hK K
    (try simp only [Act.put, List.setIfInBounds_toArray, List.set_cons_zero, List.set_cons_succ])
    refine wpAnyH_take (i := 11) (oi := op_WkS_specAuditWorkshop_1_11) (v := ?_) rfl (by kernel_rfl) (by kernel_rfl) (by kernel_rfl) (fun _ _ _ h => h) (Or.inl ⟨by rfl, ?_⟩) (by assumption) ?_
    rotate_left 1
    · (intro wS hSw; (try dsimp only at hSw); dsimp only [op_WkS_specAuditWorkshop_1_11]; go_simp; (all_goals with_reducible rfl))
    simp only [op_WkS_specAuditWorkshop_1_11, Act.put, List.setIfInBounds_toArray, List.set_cons_zero, List.set_cons_succ]
    refine wpAnyH_take (i := 12) (oi := op_WkS_specAuditWorkshop_1_12) (v := ?_) rfl (by kernel_rfl) (by kernel_rfl) (by kernel_rfl) (fun _ _ _ h => h) (Or.inl ⟨by rfl, ?_⟩) (by assumption) ?_
    rotate_left 1
    · (intro wS hSw; (try dsimp only at hSw); dsimp only [op_WkS_specAuditWorkshop_1_12]; go_simp; (all_goals with_reducible rfl))
    simp only [op_WkS_specAuditWorkshop_1_12, Act.put, List.setIfInBounds_toArray, List.set_cons_zero, List.set_cons_succ]
    refine wpAnyH_done (by kernel_rfl) ?_ _
    go_wp2
    go_ret
    exact ⟨rfl, B0.tr Bw⟩
end Go.Proofs.Ytnlljkdfapllpaa
