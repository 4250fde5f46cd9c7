/- The pairs of dominoes over a square, the place of a domino in a list, the kind of a flip, of the reference: the walks. No conditions but sizes. -/
import Derived.Test.YtkbndchgmokabaaSortS
import Derived.Test.YtkbndchgmokabaaFlipI3
namespace Go.Proofs.Ytkbndchgmokabaa
open Go.ChangeShapes Go.WideShapes Go.ChangeAt Go.RowKit
set_option linter.unusedVariables false
set_option linter.unusedSimpArgs false

set_option maxHeartbeats 1000000 in
set_option maxRecDepth 100000 in
theorem pairS_dn (x y : Int) (w : World) (h : inFlip (x, y) = true) : Calls Try.prog 181 #[.agg #[.int .i64 x, .int .i64 y], .bool true] w (Ret (.tuple #[.agg #[.int .i64 x, .int .i64 y, .bool true], .agg #[.int .i64 (x + 1), .int .i64 y, .bool true]]) w) := by
  unfold inFlip at h
  rw [Bool.and_eq_true, decide_eq_true_eq, decide_eq_true_eq] at h
  simp only at h
  obtain ⟨⟨x0, x1⟩, y0, y1⟩ := h
  have hA := (Below.refl w.heap.size w).al (.cells #[.int .i64 x, .int .i64 y] 70)
  go_enter Try.func181, Try.ntmps181
  have e1 : IntKind.i64.wrap (x + 1) = x + 1 := IntWalk.i64_in _ (by omega)
  have e2 : IntKind.i64.wrap (y + 1) = y + 1 := IntWalk.i64_in _ (by omega)
  go_wp2_with fail
  obtain ⟨W3, hW⟩ : ∃ W3, W3 = ((w.alloc (.cells #[.int .i64 x, .int .i64 y] 70)).alloc (.cells #[.int .i64 0, .int .i64 0, .bool false] 73)).alloc (.cells #[.int .i64 0, .int .i64 0, .bool false] 73) := ⟨_, rfl⟩
  have bC : Blk W3 w.heap.size 70 #[.int .i64 x, .int .i64 y] := by rw [hW]; exact ((Blk.new_ w _ _).alloc _).alloc _
  have b1 : Blk W3 (w.heap.size + 1) 73 #[.int .i64 0, .int .i64 0, .bool false] := by rw [hW]; exact (Blk.new2 _ _ _ _ (by simp)).alloc _
  have b2 : Blk W3 (w.heap.size + 1 + 1) 73 #[.int .i64 0, .int .i64 0, .bool false] := by rw [hW]; exact Blk.new2 _ _ _ _ (by simp)
  have B3 : Below w.heap.size w W3 := by rw [hW]; exact (hA.al _).al _
  rw [← hW]
  obtain ⟨g0, hg0⟩ : ∃ g0, g0 = w.heap.size := ⟨_, rfl⟩
  obtain ⟨g1, hg1⟩ : ∃ g1, g1 = w.heap.size + 1 := ⟨_, rfl⟩
  obtain ⟨g2, hg2⟩ : ∃ g2, g2 = w.heap.size + 1 + 1 := ⟨_, rfl⟩
  rw [← hg2] at b2 ⊢
  rw [← hg1] at b1 ⊢
  rw [← hg0] at bC ⊢
  have hn1 : g0 ≠ g1 := by omega
  have hn2 : g0 ≠ g2 := by omega
  have hn3 : g1 ≠ g2 := by omega
  have hl1 : w.heap.size ≤ g1 := by omega
  have hl2 : w.heap.size ≤ g2 := by omega
  clear hW hg0 hg1 hg2 hA
  have c0 := bC.cell 0
  have c1 := bC.cell 1
  simp only [List.getElem?_toArray, List.getElem?_cons_zero, List.getElem?_cons_succ] at c0 c1
  have B4 : Below w.heap.size w W3.drew := B3.drew
  have b1' : Blk W3.drew g1 73 #[.int .i64 0, .int .i64 0, .bool false] := b1
  have b2' : Blk W3.drew g2 73 #[.int .i64 0, .int .i64 0, .bool false] := b2
  have bC' : Blk W3.drew g0 70 #[.int .i64 x, .int .i64 y] := bC
  clear b1 b2 bC B3
  refine wp_region_held_drew (S := (fun w' => w'.cell? ⟨g0, 0, none⟩ = some (.int .i64 x) ∧ w'.cell? ⟨g0, 1, none⟩ = some (.int .i64 y))) (by kernel_rfl) ?_ (fun hHeld => ?_)
  · (try dsimp only); (try go_keep)
  refine wpAnyH_take (i := 0) (oi := { dst := some 7, op := Go.Op.fieldAddr 70 (Go.Operand.tmp 2) 0, type := 0, pos := "l11_flip.go:8", after := #[], guard := none }) (v := ?_) rfl (by kernel_rfl) (by kernel_rfl) (by kernel_rfl) (fun _ _ _ h => h) (Or.inl ⟨by rfl, ?_⟩) (by assumption) ?_
  rotate_left 1
  · (intro wS hSw; (try dsimp only at hSw); go_simp; (all_goals with_reducible rfl))
  simp only [Act.put, List.setIfInBounds_toArray, List.set_cons_zero, List.set_cons_succ]
  refine wpAnyH_take (i := 1) (oi := { dst := some 8, op := Go.Op.load 3 (Go.Operand.tmp 7), type := 3, pos := "l11_flip.go:8", after := #[{ on := 0, ground := Go.Ground.data }], guard := none }) (v := ?_) rfl (by kernel_rfl) (by kernel_rfl) (by kernel_rfl) (fun _ _ _ h => h) (Or.inl ⟨by rfl, ?_⟩) (by assumption) ?_
  rotate_left 1
  · (intro wS hSw; (try dsimp only at hSw); go_simp; (all_goals with_reducible rfl))
  simp only [Act.put, List.setIfInBounds_toArray, List.set_cons_zero, List.set_cons_succ]
  refine wpAnyH_take (i := 2) (oi := { dst := some 9, op := Go.Op.fieldAddr 70 (Go.Operand.tmp 2) 1, type := 0, pos := "l11_flip.go:8", after := #[], guard := none }) (v := ?_) rfl (by kernel_rfl) (by kernel_rfl) (by kernel_rfl) (fun _ _ _ h => h) (Or.inl ⟨by rfl, ?_⟩) (by assumption) ?_
  rotate_left 1
  · (intro wS hSw; (try dsimp only at hSw); go_simp; (all_goals with_reducible rfl))
  simp only [Act.put, List.setIfInBounds_toArray, List.set_cons_zero, List.set_cons_succ]
  refine wpAnyH_take (i := 3) (oi := { dst := some 10, op := Go.Op.load 3 (Go.Operand.tmp 9), type := 3, pos := "l11_flip.go:8", after := #[{ on := 2, ground := Go.Ground.data }], guard := none }) (v := ?_) rfl (by kernel_rfl) (by kernel_rfl) (by kernel_rfl) (fun _ _ _ h => h) (Or.inl ⟨by rfl, ?_⟩) (by assumption) ?_
  rotate_left 1
  · (intro wS hSw; (try dsimp only at hSw); go_simp; (all_goals with_reducible rfl))
  simp only [Act.put, List.setIfInBounds_toArray, List.set_cons_zero, List.set_cons_succ]
  refine wpAnyH_take (i := 4) (oi := { dst := some 11, op := Go.Op.build 73 #[(0, Go.Operand.tmp 8), (1, Go.Operand.tmp 10), (2, Go.Operand.const (Go.Value.bool true))], type := 73, pos := "l11_flip.go:8", after := #[{ on := 1, ground := Go.Ground.data }, { on := 3, ground := Go.Ground.data }], guard := none }) (v := ?_) rfl (by kernel_rfl) (by kernel_rfl) (by kernel_rfl) (fun _ _ _ h => h) (Or.inl ⟨by rfl, ?_⟩) (by assumption) ?_
  rotate_left 1
  · (intro wS hSw; (try dsimp only at hSw); go_simp; (all_goals with_reducible rfl))
  simp only [Act.put, List.setIfInBounds_toArray, List.set_cons_zero, List.set_cons_succ]
  refine wpAnyH_take (i := 5) (oi := { dst := some 12, op := Go.Op.fieldAddr 70 (Go.Operand.tmp 2) 0, type := 0, pos := "l11_flip.go:8", after := #[{ on := 11, ground := Go.Ground.gcOnly Go.Departure.lateStores }], guard := none }) (v := ?_) rfl (by kernel_rfl) (by kernel_rfl) (by kernel_rfl) (fun _ _ _ h => h) (Or.inl ⟨by rfl, ?_⟩) (by assumption) ?_
  rotate_left 1
  · (intro wS hSw; (try dsimp only at hSw); go_simp; (all_goals with_reducible rfl))
  simp only [Act.put, List.setIfInBounds_toArray, List.set_cons_zero, List.set_cons_succ]
  refine wpAnyH_take (i := 6) (oi := { dst := some 13, op := Go.Op.load 3 (Go.Operand.tmp 12), type := 3, pos := "l11_flip.go:8", after := #[{ on := 5, ground := Go.Ground.data }, { on := 11, ground := Go.Ground.gcOnly Go.Departure.lateStores }], guard := none }) (v := ?_) rfl (by kernel_rfl) (by kernel_rfl) (by kernel_rfl) (fun _ _ _ h => h) (Or.inl ⟨by rfl, ?_⟩) (by assumption) ?_
  rotate_left 1
  · (intro wS hSw; (try dsimp only at hSw); go_simp; (all_goals with_reducible rfl))
  simp only [Act.put, List.setIfInBounds_toArray, List.set_cons_zero, List.set_cons_succ]
  refine wpAnyH_take (i := 7) (oi := { dst := some 14, op := Go.Op.binOp Go.BinOp.add 3 (Go.Operand.tmp 13) (Go.Operand.const (Go.Value.int Go.IntKind.i64 1)) 3, type := 3, pos := "l11_flip.go:8", after := #[{ on := 6, ground := Go.Ground.data }, { on := 11, ground := Go.Ground.gcOnly Go.Departure.lateStores }], guard := none }) (v := ?_) rfl (by kernel_rfl) (by kernel_rfl) (by kernel_rfl) (fun _ _ _ h => h) (Or.inl ⟨by rfl, ?_⟩) (by assumption) ?_
  rotate_left 1
  · (intro wS hSw; (try dsimp only at hSw); go_simp; (all_goals with_reducible rfl))
  simp only [Act.put, List.setIfInBounds_toArray, List.set_cons_zero, List.set_cons_succ]
  refine wpAnyH_take (i := 8) (oi := { dst := some 15, op := Go.Op.fieldAddr 70 (Go.Operand.tmp 2) 1, type := 0, pos := "l11_flip.go:8", after := #[{ on := 11, ground := Go.Ground.gcOnly Go.Departure.lateStores }], guard := none }) (v := ?_) rfl (by kernel_rfl) (by kernel_rfl) (by kernel_rfl) (fun _ _ _ h => h) (Or.inl ⟨by rfl, ?_⟩) (by assumption) ?_
  rotate_left 1
  · (intro wS hSw; (try dsimp only at hSw); go_simp; (all_goals with_reducible rfl))
  simp only [Act.put, List.setIfInBounds_toArray, List.set_cons_zero, List.set_cons_succ]
  refine wpAnyH_take (i := 9) (oi := { dst := some 16, op := Go.Op.load 3 (Go.Operand.tmp 15), type := 3, pos := "l11_flip.go:8", after := #[{ on := 8, ground := Go.Ground.data }, { on := 11, ground := Go.Ground.gcOnly Go.Departure.lateStores }], guard := none }) (v := ?_) rfl (by kernel_rfl) (by kernel_rfl) (by kernel_rfl) (fun _ _ _ h => h) (Or.inl ⟨by rfl, ?_⟩) (by assumption) ?_
  rotate_left 1
  · (intro wS hSw; (try dsimp only at hSw); go_simp; (all_goals with_reducible rfl))
  simp only [Act.put, List.setIfInBounds_toArray, List.set_cons_zero, List.set_cons_succ]
  refine wpAnyH_take (i := 10) (oi := { dst := some 17, op := Go.Op.build 73 #[(0, Go.Operand.tmp 14), (1, Go.Operand.tmp 16), (2, Go.Operand.const (Go.Value.bool true))], type := 73, pos := "l11_flip.go:8", after := #[{ on := 7, ground := Go.Ground.data }, { on := 9, ground := Go.Ground.data }, { on := 11, ground := Go.Ground.gcOnly Go.Departure.lateStores }], guard := none }) (v := ?_) rfl (by kernel_rfl) (by kernel_rfl) (by kernel_rfl) (fun _ _ _ h => h) (Or.inl ⟨by rfl, ?_⟩) (by assumption) ?_
  rotate_left 1
  · (intro wS hSw; (try dsimp only at hSw); go_simp; (all_goals with_reducible rfl))
  simp only [Act.put, List.setIfInBounds_toArray, List.set_cons_zero, List.set_cons_succ]
  refine wpAnyH_ready (rs := [11]) (by kernel_rfl) (by simp) ?_
  refine AllReadyH.cons (o := { dst := none, op := Go.Op.store 73 (Go.Operand.tmp 4) (Go.Operand.tmp 11), type := 0, pos := "l11_flip.go:8", after := #[{ on := 4, ground := Go.Ground.data }, { on := 0, ground := Go.Ground.phase }, { on := 1, ground := Go.Ground.phase }, { on := 2, ground := Go.Ground.phase }, { on := 3, ground := Go.Ground.phase }, { on := 4, ground := Go.Ground.phase }, { on := 5, ground := Go.Ground.textOnly Go.Departure.lateStores }, { on := 6, ground := Go.Ground.textOnly Go.Departure.lateStores }, { on := 7, ground := Go.Ground.textOnly Go.Departure.lateStores }, { on := 8, ground := Go.Ground.textOnly Go.Departure.lateStores }, { on := 9, ground := Go.Ground.textOnly Go.Departure.lateStores }, { on := 10, ground := Go.Ground.textOnly Go.Departure.lateStores }], guard := none }) rfl (fun K hK => ?_) AllReadyH.nil
  (first | (refine step_storeRow rfl 73 _ _ rfl g1 #[.int .i64 x, .int .i64 y, .bool true] rfl rfl _ _ b1' (by kernel_rfl) rfl (by simp [Value.oneCell']) ?_; intro wS hbS hgS; have b1' := hbS; have b2' := b2'.grown hgS (by simp; omega); have bC' := bC'.grown hgS (by simp; omega); have B4 := B4.grown hgS B4.size (fun k hk => by injection hk with hk; omega); have c0 := bC'.cell 0; have c1 := bC'.cell 1; simp only [List.getElem?_toArray, List.getElem?_cons_zero, List.getElem?_cons_succ] at c0 c1) | (refine step_storeRow rfl 73 _ _ rfl g2 #[.int .i64 (x + 1), .int .i64 y, .bool true] rfl rfl _ _ b2' (by kernel_rfl) rfl (by simp [Value.oneCell']) ?_; intro wS hbS hgS; have b2' := hbS; have b1' := b1'.grown hgS (by simp; omega); have bC' := bC'.grown hgS (by simp; omega); have B4 := B4.grown hgS B4.size (fun k hk => by injection hk with hk; omega); have c0 := bC'.cell 0; have c1 := bC'.cell 1; simp only [List.getElem?_toArray, List.getElem?_cons_zero, List.getElem?_cons_succ] at c0 c1))
  refine hK.out _ _ ?_ (fun hHeld => ?_)
  · (try dsimp only); (try go_keep)
  clear hK K
  (try simp only [Act.put, List.setIfInBounds_toArray, List.set_cons_zero, List.set_cons_succ])
  refine wpAnyH_ready (rs := [12]) (by kernel_rfl) (by simp) ?_
  refine AllReadyH.cons (o := { dst := none, op := Go.Op.store 73 (Go.Operand.tmp 5) (Go.Operand.tmp 17), type := 0, pos := "l11_flip.go:8", after := #[{ on := 10, ground := Go.Ground.data }, { on := 11, ground := Go.Ground.chain }, { on := 0, ground := Go.Ground.phase }, { on := 1, ground := Go.Ground.phase }, { on := 2, ground := Go.Ground.phase }, { on := 3, ground := Go.Ground.phase }, { on := 4, ground := Go.Ground.phase }, { on := 5, ground := Go.Ground.phase }, { on := 6, ground := Go.Ground.phase }, { on := 7, ground := Go.Ground.phase }, { on := 8, ground := Go.Ground.phase }, { on := 9, ground := Go.Ground.phase }, { on := 10, ground := Go.Ground.phase }, { on := 11, ground := Go.Ground.phase }], guard := none }) rfl (fun K hK => ?_) AllReadyH.nil
  (first | (refine step_storeRow rfl 73 _ _ rfl g1 #[.int .i64 x, .int .i64 y, .bool true] rfl rfl _ _ b1' (by kernel_rfl) rfl (by simp [Value.oneCell']) ?_; intro wS hbS hgS; have b1' := hbS; have b2' := b2'.grown hgS (by simp; omega); have bC' := bC'.grown hgS (by simp; omega); have B4 := B4.grown hgS B4.size (fun k hk => by injection hk with hk; omega); have c0 := bC'.cell 0; have c1 := bC'.cell 1; simp only [List.getElem?_toArray, List.getElem?_cons_zero, List.getElem?_cons_succ] at c0 c1) | (refine step_storeRow rfl 73 _ _ rfl g2 #[.int .i64 (x + 1), .int .i64 y, .bool true] rfl rfl _ _ b2' (by kernel_rfl) rfl (by simp [Value.oneCell']) ?_; intro wS hbS hgS; have b2' := hbS; have b1' := b1'.grown hgS (by simp; omega); have bC' := bC'.grown hgS (by simp; omega); have B4 := B4.grown hgS B4.size (fun k hk => by injection hk with hk; omega); have c0 := bC'.cell 0; have c1 := bC'.cell 1; simp only [List.getElem?_toArray, List.getElem?_cons_zero, List.getElem?_cons_succ] at c0 c1))
  refine hK.out _ _ ?_ (fun hHeld => ?_)
  · (try dsimp only); (try go_keep)
  clear hK K
  (try simp only [Act.put, List.setIfInBounds_toArray, List.set_cons_zero, List.set_cons_succ])
  refine wpAnyH_done (by kernel_rfl) ?_ _
  all_goals
    have u_0 := b1'.cell 0
    have u_1 := b1'.cell 1
    have u_2 := b1'.cell 2
    simp only [List.getElem?_toArray, List.getElem?_cons_zero, List.getElem?_cons_succ] at u_0 u_1 u_2
    have t_0 := b2'.cell 0
    have t_1 := b2'.cell 1
    have t_2 := b2'.cell 2
    simp only [List.getElem?_toArray, List.getElem?_cons_zero, List.getElem?_cons_succ] at t_0 t_1 t_2
    go_wp2_with fail
    refine bodyPost_ret (v := .tuple #[.agg #[.int .i64 x, .int .i64 y, .bool true], .agg #[.int .i64 (x + 1), .int .i64 y, .bool true]]) (by simp [results, Try.results181, go_sem, u_0, u_1, u_2, t_0, t_1, t_2]) rfl ⟨rfl, B4⟩
set_option maxHeartbeats 1000000 in
set_option maxRecDepth 100000 in
theorem pairS_ac (x y : Int) (w : World) (h : inFlip (x, y) = true) : Calls Try.prog 181 #[.agg #[.int .i64 x, .int .i64 y], .bool false] w (Ret (.tuple #[.agg #[.int .i64 x, .int .i64 y, .bool false], .agg #[.int .i64 x, .int .i64 (y + 1), .bool false]]) w) := by
  unfold inFlip at h
  rw [Bool.and_eq_true, decide_eq_true_eq, decide_eq_true_eq] at h
  simp only at h
  obtain ⟨⟨x0, x1⟩, y0, y1⟩ := h
  have hA := (Below.refl w.heap.size w).al (.cells #[.int .i64 x, .int .i64 y] 70)
  go_enter Try.func181, Try.ntmps181
  have e1 : IntKind.i64.wrap (x + 1) = x + 1 := IntWalk.i64_in _ (by omega)
  have e2 : IntKind.i64.wrap (y + 1) = y + 1 := IntWalk.i64_in _ (by omega)
  go_wp2_with fail
  obtain ⟨W3, hW⟩ : ∃ W3, W3 = ((w.alloc (.cells #[.int .i64 x, .int .i64 y] 70)).alloc (.cells #[.int .i64 0, .int .i64 0, .bool false] 73)).alloc (.cells #[.int .i64 0, .int .i64 0, .bool false] 73) := ⟨_, rfl⟩
  have bC : Blk W3 w.heap.size 70 #[.int .i64 x, .int .i64 y] := by rw [hW]; exact ((Blk.new_ w _ _).alloc _).alloc _
  have b1 : Blk W3 (w.heap.size + 1) 73 #[.int .i64 0, .int .i64 0, .bool false] := by rw [hW]; exact (Blk.new2 _ _ _ _ (by simp)).alloc _
  have b2 : Blk W3 (w.heap.size + 1 + 1) 73 #[.int .i64 0, .int .i64 0, .bool false] := by rw [hW]; exact Blk.new2 _ _ _ _ (by simp)
  have B3 : Below w.heap.size w W3 := by rw [hW]; exact (hA.al _).al _
  rw [← hW]
  obtain ⟨g0, hg0⟩ : ∃ g0, g0 = w.heap.size := ⟨_, rfl⟩
  obtain ⟨g1, hg1⟩ : ∃ g1, g1 = w.heap.size + 1 := ⟨_, rfl⟩
  obtain ⟨g2, hg2⟩ : ∃ g2, g2 = w.heap.size + 1 + 1 := ⟨_, rfl⟩
  rw [← hg2] at b2 ⊢
  rw [← hg1] at b1 ⊢
  rw [← hg0] at bC ⊢
  have hn1 : g0 ≠ g1 := by omega
  have hn2 : g0 ≠ g2 := by omega
  have hn3 : g1 ≠ g2 := by omega
  have hl1 : w.heap.size ≤ g1 := by omega
  have hl2 : w.heap.size ≤ g2 := by omega
  clear hW hg0 hg1 hg2 hA
  have c0 := bC.cell 0
  have c1 := bC.cell 1
  simp only [List.getElem?_toArray, List.getElem?_cons_zero, List.getElem?_cons_succ] at c0 c1
  have B4 : Below w.heap.size w W3.drew := B3.drew
  have b1' : Blk W3.drew g1 73 #[.int .i64 0, .int .i64 0, .bool false] := b1
  have b2' : Blk W3.drew g2 73 #[.int .i64 0, .int .i64 0, .bool false] := b2
  have bC' : Blk W3.drew g0 70 #[.int .i64 x, .int .i64 y] := bC
  clear b1 b2 bC B3
  refine wp_region_held_drew (S := (fun w' => w'.cell? ⟨g0, 0, none⟩ = some (.int .i64 x) ∧ w'.cell? ⟨g0, 1, none⟩ = some (.int .i64 y))) (by kernel_rfl) ?_ (fun hHeld => ?_)
  · (try dsimp only); (try go_keep)
  refine wpAnyH_take (i := 0) (oi := { dst := some 18, op := Go.Op.fieldAddr 70 (Go.Operand.tmp 2) 0, type := 0, pos := "l11_flip.go:10", after := #[], guard := none }) (v := ?_) rfl (by kernel_rfl) (by kernel_rfl) (by kernel_rfl) (fun _ _ _ h => h) (Or.inl ⟨by rfl, ?_⟩) (by assumption) ?_
  rotate_left 1
  · (intro wS hSw; (try dsimp only at hSw); go_simp; (all_goals with_reducible rfl))
  simp only [Act.put, List.setIfInBounds_toArray, List.set_cons_zero, List.set_cons_succ]
  refine wpAnyH_take (i := 1) (oi := { dst := some 19, op := Go.Op.load 3 (Go.Operand.tmp 18), type := 3, pos := "l11_flip.go:10", after := #[{ on := 0, ground := Go.Ground.data }], guard := none }) (v := ?_) rfl (by kernel_rfl) (by kernel_rfl) (by kernel_rfl) (fun _ _ _ h => h) (Or.inl ⟨by rfl, ?_⟩) (by assumption) ?_
  rotate_left 1
  · (intro wS hSw; (try dsimp only at hSw); go_simp; (all_goals with_reducible rfl))
  simp only [Act.put, List.setIfInBounds_toArray, List.set_cons_zero, List.set_cons_succ]
  refine wpAnyH_take (i := 2) (oi := { dst := some 20, op := Go.Op.fieldAddr 70 (Go.Operand.tmp 2) 1, type := 0, pos := "l11_flip.go:10", after := #[], guard := none }) (v := ?_) rfl (by kernel_rfl) (by kernel_rfl) (by kernel_rfl) (fun _ _ _ h => h) (Or.inl ⟨by rfl, ?_⟩) (by assumption) ?_
  rotate_left 1
  · (intro wS hSw; (try dsimp only at hSw); go_simp; (all_goals with_reducible rfl))
  simp only [Act.put, List.setIfInBounds_toArray, List.set_cons_zero, List.set_cons_succ]
  refine wpAnyH_take (i := 3) (oi := { dst := some 21, op := Go.Op.load 3 (Go.Operand.tmp 20), type := 3, pos := "l11_flip.go:10", after := #[{ on := 2, ground := Go.Ground.data }], guard := none }) (v := ?_) rfl (by kernel_rfl) (by kernel_rfl) (by kernel_rfl) (fun _ _ _ h => h) (Or.inl ⟨by rfl, ?_⟩) (by assumption) ?_
  rotate_left 1
  · (intro wS hSw; (try dsimp only at hSw); go_simp; (all_goals with_reducible rfl))
  simp only [Act.put, List.setIfInBounds_toArray, List.set_cons_zero, List.set_cons_succ]
  refine wpAnyH_take (i := 4) (oi := { dst := some 22, op := Go.Op.build 73 #[(0, Go.Operand.tmp 19), (1, Go.Operand.tmp 21)], type := 73, pos := "l11_flip.go:10", after := #[{ on := 1, ground := Go.Ground.data }, { on := 3, ground := Go.Ground.data }], guard := none }) (v := ?_) rfl (by kernel_rfl) (by kernel_rfl) (by kernel_rfl) (fun _ _ _ h => h) (Or.inl ⟨by rfl, ?_⟩) (by assumption) ?_
  rotate_left 1
  · (intro wS hSw; (try dsimp only at hSw); go_simp; (all_goals with_reducible rfl))
  simp only [Act.put, List.setIfInBounds_toArray, List.set_cons_zero, List.set_cons_succ]
  refine wpAnyH_take (i := 5) (oi := { dst := some 23, op := Go.Op.fieldAddr 70 (Go.Operand.tmp 2) 0, type := 0, pos := "l11_flip.go:10", after := #[{ on := 11, ground := Go.Ground.gcOnly Go.Departure.lateStores }], guard := none }) (v := ?_) rfl (by kernel_rfl) (by kernel_rfl) (by kernel_rfl) (fun _ _ _ h => h) (Or.inl ⟨by rfl, ?_⟩) (by assumption) ?_
  rotate_left 1
  · (intro wS hSw; (try dsimp only at hSw); go_simp; (all_goals with_reducible rfl))
  simp only [Act.put, List.setIfInBounds_toArray, List.set_cons_zero, List.set_cons_succ]
  refine wpAnyH_take (i := 6) (oi := { dst := some 24, op := Go.Op.load 3 (Go.Operand.tmp 23), type := 3, pos := "l11_flip.go:10", after := #[{ on := 5, ground := Go.Ground.data }, { on := 11, ground := Go.Ground.gcOnly Go.Departure.lateStores }], guard := none }) (v := ?_) rfl (by kernel_rfl) (by kernel_rfl) (by kernel_rfl) (fun _ _ _ h => h) (Or.inl ⟨by rfl, ?_⟩) (by assumption) ?_
  rotate_left 1
  · (intro wS hSw; (try dsimp only at hSw); go_simp; (all_goals with_reducible rfl))
  simp only [Act.put, List.setIfInBounds_toArray, List.set_cons_zero, List.set_cons_succ]
  refine wpAnyH_take (i := 7) (oi := { dst := some 25, op := Go.Op.fieldAddr 70 (Go.Operand.tmp 2) 1, type := 0, pos := "l11_flip.go:10", after := #[{ on := 11, ground := Go.Ground.gcOnly Go.Departure.lateStores }], guard := none }) (v := ?_) rfl (by kernel_rfl) (by kernel_rfl) (by kernel_rfl) (fun _ _ _ h => h) (Or.inl ⟨by rfl, ?_⟩) (by assumption) ?_
  rotate_left 1
  · (intro wS hSw; (try dsimp only at hSw); go_simp; (all_goals with_reducible rfl))
  simp only [Act.put, List.setIfInBounds_toArray, List.set_cons_zero, List.set_cons_succ]
  refine wpAnyH_take (i := 8) (oi := { dst := some 26, op := Go.Op.load 3 (Go.Operand.tmp 25), type := 3, pos := "l11_flip.go:10", after := #[{ on := 7, ground := Go.Ground.data }, { on := 11, ground := Go.Ground.gcOnly Go.Departure.lateStores }], guard := none }) (v := ?_) rfl (by kernel_rfl) (by kernel_rfl) (by kernel_rfl) (fun _ _ _ h => h) (Or.inl ⟨by rfl, ?_⟩) (by assumption) ?_
  rotate_left 1
  · (intro wS hSw; (try dsimp only at hSw); go_simp; (all_goals with_reducible rfl))
  simp only [Act.put, List.setIfInBounds_toArray, List.set_cons_zero, List.set_cons_succ]
  refine wpAnyH_take (i := 9) (oi := { dst := some 27, op := Go.Op.binOp Go.BinOp.add 3 (Go.Operand.tmp 26) (Go.Operand.const (Go.Value.int Go.IntKind.i64 1)) 3, type := 3, pos := "l11_flip.go:10", after := #[{ on := 8, ground := Go.Ground.data }, { on := 11, ground := Go.Ground.gcOnly Go.Departure.lateStores }], guard := none }) (v := ?_) rfl (by kernel_rfl) (by kernel_rfl) (by kernel_rfl) (fun _ _ _ h => h) (Or.inl ⟨by rfl, ?_⟩) (by assumption) ?_
  rotate_left 1
  · (intro wS hSw; (try dsimp only at hSw); go_simp; (all_goals with_reducible rfl))
  simp only [Act.put, List.setIfInBounds_toArray, List.set_cons_zero, List.set_cons_succ]
  refine wpAnyH_take (i := 10) (oi := { dst := some 28, op := Go.Op.build 73 #[(0, Go.Operand.tmp 24), (1, Go.Operand.tmp 27)], type := 73, pos := "l11_flip.go:10", after := #[{ on := 6, ground := Go.Ground.data }, { on := 9, ground := Go.Ground.data }, { on := 11, ground := Go.Ground.gcOnly Go.Departure.lateStores }], guard := none }) (v := ?_) rfl (by kernel_rfl) (by kernel_rfl) (by kernel_rfl) (fun _ _ _ h => h) (Or.inl ⟨by rfl, ?_⟩) (by assumption) ?_
  rotate_left 1
  · (intro wS hSw; (try dsimp only at hSw); go_simp; (all_goals with_reducible rfl))
  simp only [Act.put, List.setIfInBounds_toArray, List.set_cons_zero, List.set_cons_succ]
  refine wpAnyH_ready (rs := [11]) (by kernel_rfl) (by simp) ?_
  refine AllReadyH.cons (o := { dst := none, op := Go.Op.store 73 (Go.Operand.tmp 4) (Go.Operand.tmp 22), type := 0, pos := "l11_flip.go:10", after := #[{ on := 4, ground := Go.Ground.data }, { on := 0, ground := Go.Ground.phase }, { on := 1, ground := Go.Ground.phase }, { on := 2, ground := Go.Ground.phase }, { on := 3, ground := Go.Ground.phase }, { on := 4, ground := Go.Ground.phase }, { on := 5, ground := Go.Ground.textOnly Go.Departure.lateStores }, { on := 6, ground := Go.Ground.textOnly Go.Departure.lateStores }, { on := 7, ground := Go.Ground.textOnly Go.Departure.lateStores }, { on := 8, ground := Go.Ground.textOnly Go.Departure.lateStores }, { on := 9, ground := Go.Ground.textOnly Go.Departure.lateStores }, { on := 10, ground := Go.Ground.textOnly Go.Departure.lateStores }], guard := none }) rfl (fun K hK => ?_) AllReadyH.nil
  (first | (refine step_storeRow rfl 73 _ _ rfl g1 #[.int .i64 x, .int .i64 y, .bool false] rfl rfl _ _ b1' (by kernel_rfl) rfl (by simp [Value.oneCell']) ?_; intro wS hbS hgS; have b1' := hbS; have b2' := b2'.grown hgS (by simp; omega); have bC' := bC'.grown hgS (by simp; omega); have B4 := B4.grown hgS B4.size (fun k hk => by injection hk with hk; omega); have c0 := bC'.cell 0; have c1 := bC'.cell 1; simp only [List.getElem?_toArray, List.getElem?_cons_zero, List.getElem?_cons_succ] at c0 c1) | (refine step_storeRow rfl 73 _ _ rfl g2 #[.int .i64 x, .int .i64 (y + 1), .bool false] rfl rfl _ _ b2' (by kernel_rfl) rfl (by simp [Value.oneCell']) ?_; intro wS hbS hgS; have b2' := hbS; have b1' := b1'.grown hgS (by simp; omega); have bC' := bC'.grown hgS (by simp; omega); have B4 := B4.grown hgS B4.size (fun k hk => by injection hk with hk; omega); have c0 := bC'.cell 0; have c1 := bC'.cell 1; simp only [List.getElem?_toArray, List.getElem?_cons_zero, List.getElem?_cons_succ] at c0 c1))
  refine hK.out _ _ ?_ (fun hHeld => ?_)
  · (try dsimp only); (try go_keep)
  clear hK K
  (try simp only [Act.put, List.setIfInBounds_toArray, List.set_cons_zero, List.set_cons_succ])
  refine wpAnyH_ready (rs := [12]) (by kernel_rfl) (by simp) ?_
  refine AllReadyH.cons (o := { dst := none, op := Go.Op.store 73 (Go.Operand.tmp 5) (Go.Operand.tmp 28), type := 0, pos := "l11_flip.go:10", after := #[{ on := 10, ground := Go.Ground.data }, { on := 11, ground := Go.Ground.chain }, { on := 0, ground := Go.Ground.phase }, { on := 1, ground := Go.Ground.phase }, { on := 2, ground := Go.Ground.phase }, { on := 3, ground := Go.Ground.phase }, { on := 4, ground := Go.Ground.phase }, { on := 5, ground := Go.Ground.phase }, { on := 6, ground := Go.Ground.phase }, { on := 7, ground := Go.Ground.phase }, { on := 8, ground := Go.Ground.phase }, { on := 9, ground := Go.Ground.phase }, { on := 10, ground := Go.Ground.phase }, { on := 11, ground := Go.Ground.phase }], guard := none }) rfl (fun K hK => ?_) AllReadyH.nil
  (first | (refine step_storeRow rfl 73 _ _ rfl g1 #[.int .i64 x, .int .i64 y, .bool false] rfl rfl _ _ b1' (by kernel_rfl) rfl (by simp [Value.oneCell']) ?_; intro wS hbS hgS; have b1' := hbS; have b2' := b2'.grown hgS (by simp; omega); have bC' := bC'.grown hgS (by simp; omega); have B4 := B4.grown hgS B4.size (fun k hk => by injection hk with hk; omega); have c0 := bC'.cell 0; have c1 := bC'.cell 1; simp only [List.getElem?_toArray, List.getElem?_cons_zero, List.getElem?_cons_succ] at c0 c1) | (refine step_storeRow rfl 73 _ _ rfl g2 #[.int .i64 x, .int .i64 (y + 1), .bool false] rfl rfl _ _ b2' (by kernel_rfl) rfl (by simp [Value.oneCell']) ?_; intro wS hbS hgS; have b2' := hbS; have b1' := b1'.grown hgS (by simp; omega); have bC' := bC'.grown hgS (by simp; omega); have B4 := B4.grown hgS B4.size (fun k hk => by injection hk with hk; omega); have c0 := bC'.cell 0; have c1 := bC'.cell 1; simp only [List.getElem?_toArray, List.getElem?_cons_zero, List.getElem?_cons_succ] at c0 c1))
  refine hK.out _ _ ?_ (fun hHeld => ?_)
  · (try dsimp only); (try go_keep)
  clear hK K
  (try simp only [Act.put, List.setIfInBounds_toArray, List.set_cons_zero, List.set_cons_succ])
  refine wpAnyH_done (by kernel_rfl) ?_ _
  all_goals
    have u_0 := b1'.cell 0
    have u_1 := b1'.cell 1
    have u_2 := b1'.cell 2
    simp only [List.getElem?_toArray, List.getElem?_cons_zero, List.getElem?_cons_succ] at u_0 u_1 u_2
    have t_0 := b2'.cell 0
    have t_1 := b2'.cell 1
    have t_2 := b2'.cell 2
    simp only [List.getElem?_toArray, List.getElem?_cons_zero, List.getElem?_cons_succ] at t_0 t_1 t_2
    go_wp2_with fail
    refine bodyPost_ret (v := .tuple #[.agg #[.int .i64 x, .int .i64 y, .bool false], .agg #[.int .i64 x, .int .i64 (y + 1), .bool false]]) (by simp [results, Try.results181, go_sem, u_0, u_1, u_2, t_0, t_1, t_2]) rfl ⟨rfl, B4⟩
def ixGo (d : Dm) : List Dm → Nat → Int
  | [], _ => -1
  | e :: r, k => if e = d then (k : Int) else ixGo d r (k + 1)
theorem ixGo_cons (d e : Dm) (r : List Dm) (k : Nat) : ixGo d (e :: r) k = if e = d then (k : Int) else ixGo d r (k + 1) := rfl
theorem ixGo_has (d : Dm) : ∀ (l : List Dm) (k : Nat), (l.contains d = true → 0 ≤ ixGo d l k) ∧ (l.contains d = false → ixGo d l k = -1)
  | [], k => by simp [ixGo]
  | e :: r, k => by
    have := ixGo_has d r (k + 1)
    unfold ixGo
    by_cases h : e = d
    · subst h; simp
    · rw [if_neg h, List.contains_cons, show (d == e) = false by rw [beq_eq_false_iff_ne]; exact fun q => h q.symm, Bool.false_or]; exact this
set_option maxHeartbeats 1000000 in
set_option maxRecDepth 100000 in
theorem hasS_any (v : Value) (l : List Dm) (x y : Int) (d : Bool) (w : World) (h : Rd 3 RDom w v l) : Calls Try.prog 130 #[v, .agg #[.int .i64 x, .int .i64 y, .bool d]] w (Ret (.int .i64 (ixGo (x, y, d) l 0)) w) := by
  obtain ⟨A, c, rfl, hc, hm⟩ := h.form
  have hA := ((Below.refl w.heap.size w).al (.cells #[.int .i64 x, .int .i64 y, .bool d] 73))
  have hx := Blk.new_ w 73 #[.int .i64 x, .int .i64 y, .bool d]
  obtain ⟨R, hR⟩ : ∃ R, R = ixGo (x, y, d) l 0 := ⟨_, rfl⟩
  rw [← hR]
  have HR := Lib.hid hR; clear hR
  go_enter Try.func130, Try.ntmps130
  go_wp2
  go_loopw [5] (fun s9 wr => ∃ k : Nat, k ≤ l.length ∧ s9 = .int .i64 k ∧ Hid (ixGo (x, y, d) (l.drop k) k = R) ∧ Below (w.alloc (.cells #[.int .i64 x, .int .i64 y, .bool d] 73)).heap.size (w.alloc (.cells #[.int .i64 x, .int .i64 y, .bool d] 73)) wr) (fun i _ => l.length - (intOf i).toNat)
  case atStart => exact ⟨0, Nat.zero_le _, rfl, Lib.hid HR.out.symm, Below.refl _ _⟩
  case round =>
    obtain ⟨k, hk, rfl, Hg, hbel⟩ := hrel
    have z := hx.bl hbel
    have z_0 := z.cell 0
    have z_1 := z.cell 1
    have z_2 := z.cell 2
    simp only [List.getElem?_toArray, List.getElem?_cons_zero, List.getElem?_cons_succ] at z_0 z_1 z_2
    have hwl := z.lt
    by_cases hlt : k < l.length
    · obtain ⟨b, off, rfl, hb, q1, q2, q3⟩ := ((h.below RE.stays hA).below RE.stays hbel).atDom hlt
      have hltI : (k : Int) < (l.length : Int) := by omega
      have hg := Hg.out
      rw [List.drop_eq_getElem_cons hlt] at hg
      obtain ⟨e, he⟩ : ∃ e, e = l[k] := ⟨_, rfl⟩
      rw [← he] at q1 q2 q3 hg
      obtain ⟨ex, ey, ed⟩ := e
      simp only at q1 q2 q3
      have Hg2 := Lib.hid hg; clear hg he
      by_cases h1 : x = ex
      · obtain rfl : x = ex := h1
        by_cases h2 : y = ey
        · obtain rfl : y = ey := h2
          by_cases h3 : d = ed
          · obtain rfl : d = ed := h3
            have HG := Lib.hid (show (k : Int) = R by rw [← Hg2.out, ixGo_cons, if_pos rfl])
            go_wp2_with fail
            go_quiet (fail)
            go_wp2
            go_ret
            exact ⟨retI HG.out, hA.tr (below_drewN hbel _)⟩
          · have h3' : ¬ ed = d := fun q => h3 q.symm
            have HG := Lib.hid (show ixGo (x, y, d) (l.drop (k + 1)) (k + 1) = R by rw [← Hg2.out, ixGo_cons, if_neg (by simp [*])])
            go_wp2_with fail
            go_quiet (fail)
            go_wp2
            go_roundw
            case rel => exact ⟨k + 1, by omega, by go_num, HG, below_drewN hbel _⟩
            case measure => simp [intOf]; omega
        · have h2' : ¬ ey = y := fun q => h2 q.symm
          have HG := Lib.hid (show ixGo (x, y, d) (l.drop (k + 1)) (k + 1) = R by rw [← Hg2.out, ixGo_cons, if_neg (by simp [*])])
          go_wp2_with fail
          go_quiet (fail)
          go_wp2
          go_roundw
          case rel => exact ⟨k + 1, by omega, by go_num, HG, below_drewN hbel _⟩
          case measure => simp [intOf]; omega
      · have h1' : ¬ ex = x := fun q => h1 q.symm
        have HG := Lib.hid (show ixGo (x, y, d) (l.drop (k + 1)) (k + 1) = R by rw [← Hg2.out, ixGo_cons, if_neg (by simp [*])])
        go_wp2_with fail
        go_quiet (fail)
        go_wp2
        go_roundw
        case rel => exact ⟨k + 1, by omega, by go_num, HG, below_drewN hbel _⟩
        case measure => simp [intOf]; omega
    · obtain rfl : k = l.length := by omega
      have hg := Hg.out
      rw [List.drop_of_length_le (Nat.le_refl _)] at hg
      have hg2 : (-1 : Int) = R := hg
      have HG := Lib.hid hg2; clear hg hg2
      go_wp2
      go_ret
      exact ⟨retI HG.out, hA.tr hbel⟩
theorem hasS_yes (v : Value) (l : List Dm) (x y : Int) (d : Bool) (w : World) (h : Rd 3 RDom w v l) (hc : l.contains (x, y, d) = true) : ∃ r : Int, 0 ≤ r ∧ Calls Try.prog 130 #[v, .agg #[.int .i64 x, .int .i64 y, .bool d]] w (Ret (.int .i64 r) w) :=
  ⟨_, (ixGo_has (x, y, d) l 0).1 hc, hasS_any v l x y d w h⟩
theorem hasS_no (v : Value) (l : List Dm) (x y : Int) (d : Bool) (w : World) (h : Rd 3 RDom w v l) (hc : l.contains (x, y, d) = false) : Calls Try.prog 130 #[v, .agg #[.int .i64 x, .int .i64 y, .bool d]] w (Ret (.int .i64 (-1)) w) := by
  have := hasS_any v l x y d w h
  rw [(ixGo_has (x, y, d) l 0).2 hc] at this; exact this
set_option maxHeartbeats 4000000 in
set_option maxRecDepth 100000 in
theorem kindS_any (v : Value) (l : List Dm) (x y : Int) (w : World) (h : Rd 3 RDom w v l) : Calls Try.prog 180 #[v, .agg #[.int .i64 x, .int .i64 y]] w (Ret (.int .i64 (kindOf l (x, y) : Nat)) w) := by
  obtain ⟨A, c, rfl, hc, hm⟩ := h.form
  have hA := (Below.refl w.heap.size w).al (.cells #[.int .i64 x, .int .i64 y] 70)
  have bC0 := Blk.new_ w 70 #[.int .i64 x, .int .i64 y]
  have hin := inFlip_b x y
  rcases hx : inB x 0 6 with _ | _
  · have e : kindOf l (x, y) = 0 := kind_out (by rw [hin, hx]; rfl)
    rw [e]
    have Hx := Lib.hid hx; clear hx hin e
    go_enter Try.func180, Try.ntmps180
    go_wp2_with fail
    refine (in_any _ _ _ _).mono ?_
    rintro e w1 ⟨rfl, rfl⟩
    rw [Hx.out]
    go_wp2
    go_ret
    exact ⟨rfl, hA⟩
  · rcases hy : inB y 0 6 with _ | _
    · have e : kindOf l (x, y) = 0 := kind_out (by rw [hin, hx, hy]; rfl)
      rw [e]
      have Hx := Lib.hid hx; have Hy := Lib.hid hy; clear hx hy hin e
      go_enter Try.func180, Try.ntmps180
      go_wp2_with fail
      refine (in_any _ _ _ _).mono ?_
      rintro e w1 ⟨rfl, rfl⟩
      rw [Hx.out]
      go_wp2_with fail
      refine (in_any _ _ _ _).mono ?_
      rintro e w2 ⟨rfl, rfl⟩
      rw [Hy.out]
      go_wp2
      go_ret
      exact ⟨rfl, hA⟩
    · have hinf : inFlip (x, y) = true := by rw [hin, hx, hy]; rfl
      have hk : kindOf l (x, y) = if l.contains (x, y, false) && l.contains (x, y + 1, false) then 1 else if l.contains (x, y, true) && l.contains (x + 1, y, true) then 2 else 0 := by
        unfold kindOf hasBoth accOf dwnOf
        rw [hinf, if_pos rfl]
      obtain ⟨R, hR⟩ : ∃ R, R = kindOf l (x, y) := ⟨_, rfl⟩
      rw [← hR] at hk ⊢
      obtain ⟨a1, ha1⟩ : ∃ b, b = l.contains (x, y, false) := ⟨_, rfl⟩
      obtain ⟨a2, ha2⟩ : ∃ b, b = l.contains (x, y + 1, false) := ⟨_, rfl⟩
      obtain ⟨d1, hd1⟩ : ∃ b, b = l.contains (x, y, true) := ⟨_, rfl⟩
      obtain ⟨d2, hd2⟩ : ∃ b, b = l.contains (x + 1, y, true) := ⟨_, rfl⟩
      rw [← ha1, ← ha2, ← hd1, ← hd2] at hk
      have Hx := Lib.hid hx; have Hy := Lib.hid hy; have Hinf := Lib.hid hinf; have Ha1 := Lib.hid ha1.symm; have Ha2 := Lib.hid ha2.symm; have Hd1 := Lib.hid hd1.symm; have Hd2 := Lib.hid hd2.symm; have Hk := Lib.hid hk
      clear hx hy hin hinf ha1 ha2 hd1 hd2 hR hk
      go_enter Try.func180, Try.ntmps180
      go_wp2_with fail
      refine (in_any _ _ _ _).mono ?_
      rintro e w1 ⟨rfl, rfl⟩
      rw [Hx.out]
      go_wp2_with fail
      refine (in_any _ _ _ _).mono ?_
      rintro e w2 ⟨rfl, rfl⟩
      rw [Hy.out]
      go_wp2
      go_loopw [5] (fun s5 wr => ∃ kd : Nat, 1 ≤ kd ∧ kd ≤ 3 ∧ s5 = .int .i64 kd ∧ Hid ((2 ≤ kd → (a1 && a2) = false) ∧ (3 ≤ kd → (d1 && d2) = false)) ∧ Blk wr w.heap.size 70 #[.int .i64 x, .int .i64 y] ∧ Below w.heap.size w wr) (fun i _ => 3 - (intOf i).toNat)
      case atStart => exact ⟨1, by omega, by omega, rfl, Lib.hid ⟨fun q => by omega, fun q => by omega⟩, bC0, hA⟩
      case round =>
        obtain ⟨kd, hk1, hk3, rfl, Hg, hC, hbel⟩ := hrel
        clear bC0 hA
        have zc_0 := hC.cell 0
        have zc_1 := hC.cell 1
        simp only [List.getElem?_toArray, List.getElem?_cons_zero, List.getElem?_cons_succ] at zc_0 zc_1
        have hcase : kd = 1 ∨ kd = 2 ∨ kd = 3 := by omega
        rcases hcase with rfl | rfl | rfl
        · rw [show ((1 : Nat) : Int) = 1 from rfl]
          go_wp2_with fail
          refine (pairS_ac x y _ Hinf.out).mono ?_
          rintro e w3 ⟨rfl, hb3⟩
          have B3 := ((hbel.tr hb3).al (.cells #[.int .i64 x, .int .i64 y, .bool false] 73)).al (.cells #[.int .i64 x, .int .i64 (y + 1), .bool false] 73)
          have bC := ((hC.bl hb3).alloc (.cells #[.int .i64 x, .int .i64 y, .bool false] 73)).alloc (.cells #[.int .i64 x, .int .i64 (y + 1), .bool false] 73)
          have bd := (Blk.new_ w3 73 #[.int .i64 x, .int .i64 y, .bool false]).alloc (.cells #[.int .i64 x, .int .i64 (y + 1), .bool false] 73)
          have be := Blk.new2 (w3.alloc (.cells #[.int .i64 x, .int .i64 y, .bool false] 73)) 73 #[.int .i64 x, .int .i64 (y + 1), .bool false] (w3.heap.size + 1) (by simp)
          clear zc_0 zc_1
          have d_0 := bd.cell 0
          have d_1 := bd.cell 1
          have d_2 := bd.cell 2
          simp only [List.getElem?_toArray, List.getElem?_cons_zero, List.getElem?_cons_succ] at d_0 d_1 d_2
          have e_0 := be.cell 0
          have e_1 := be.cell 1
          have e_2 := be.cell 2
          simp only [List.getElem?_toArray, List.getElem?_cons_zero, List.getElem?_cons_succ] at e_0 e_1 e_2
          rcases a1 with _ | _
          · skip
            go_wp2_with fail
            refine (hasS_no _ l x y false _ (h.below RE.stays B3) Ha1.out).mono ?_
            rintro e w4 ⟨rfl, hb4⟩
            have B4 := B3.tr hb4
            clear d_0 d_1 d_2 e_0 e_1 e_2
            have bd := bd.bl hb4
            have be := be.bl hb4
            have bC := bC.bl hb4
            have d_0 := bd.cell 0
            have d_1 := bd.cell 1
            have d_2 := bd.cell 2
            simp only [List.getElem?_toArray, List.getElem?_cons_zero, List.getElem?_cons_succ] at d_0 d_1 d_2
            have e_0 := be.cell 0
            have e_1 := be.cell 1
            have e_2 := be.cell 2
            simp only [List.getElem?_toArray, List.getElem?_cons_zero, List.getElem?_cons_succ] at e_0 e_1 e_2
            go_wp2
            go_roundw
            case rel => exact ⟨2, by omega, by omega, by go_num, Lib.hid ⟨fun _ => rfl, fun q => by omega⟩, bC, B4⟩
            case measure => simp [intOf]
          · skip
            obtain ⟨r4, hr4, c4⟩ := hasS_yes _ l x y false _ (h.below RE.stays B3) Ha1.out
            go_wp2_with fail
            refine (c4).mono ?_
            rintro e w4 ⟨rfl, hb4⟩
            have B4 := B3.tr hb4
            clear d_0 d_1 d_2 e_0 e_1 e_2 c4
            have bd := bd.bl hb4
            have be := be.bl hb4
            have bC := bC.bl hb4
            have d_0 := bd.cell 0
            have d_1 := bd.cell 1
            have d_2 := bd.cell 2
            simp only [List.getElem?_toArray, List.getElem?_cons_zero, List.getElem?_cons_succ] at d_0 d_1 d_2
            have e_0 := be.cell 0
            have e_1 := be.cell 1
            have e_2 := be.cell 2
            simp only [List.getElem?_toArray, List.getElem?_cons_zero, List.getElem?_cons_succ] at e_0 e_1 e_2
            rcases a2 with _ | _
            · skip
              go_wp2_with fail
              refine (hasS_no _ l x (y + 1) false _ (h.below RE.stays B4) Ha2.out).mono ?_
              rintro e w5 ⟨rfl, hb5⟩
              have B5 := B4.tr hb5
              clear d_0 d_1 d_2 e_0 e_1 e_2
              have bd := bd.bl hb5
              have be := be.bl hb5
              have bC := bC.bl hb5
              have d_0 := bd.cell 0
              have d_1 := bd.cell 1
              have d_2 := bd.cell 2
              simp only [List.getElem?_toArray, List.getElem?_cons_zero, List.getElem?_cons_succ] at d_0 d_1 d_2
              have e_0 := be.cell 0
              have e_1 := be.cell 1
              have e_2 := be.cell 2
              simp only [List.getElem?_toArray, List.getElem?_cons_zero, List.getElem?_cons_succ] at e_0 e_1 e_2
              go_wp2
              go_roundw
              case rel => exact ⟨2, by omega, by omega, by go_num, Lib.hid ⟨fun _ => rfl, fun q => by omega⟩, bC, B5⟩
              case measure => simp [intOf]
            · skip
              obtain ⟨r5, hr5, c5⟩ := hasS_yes _ l x (y + 1) false _ (h.below RE.stays B4) Ha2.out
              go_wp2_with fail
              refine (c5).mono ?_
              rintro e w5 ⟨rfl, hb5⟩
              have B5 := B4.tr hb5
              clear d_0 d_1 d_2 e_0 e_1 e_2 c5
              have bd := bd.bl hb5
              have be := be.bl hb5
              have bC := bC.bl hb5
              have d_0 := bd.cell 0
              have d_1 := bd.cell 1
              have d_2 := bd.cell 2
              simp only [List.getElem?_toArray, List.getElem?_cons_zero, List.getElem?_cons_succ] at d_0 d_1 d_2
              have e_0 := be.cell 0
              have e_1 := be.cell 1
              have e_2 := be.cell 2
              simp only [List.getElem?_toArray, List.getElem?_cons_zero, List.getElem?_cons_succ] at e_0 e_1 e_2
              have HR : Hid ((1 : Int) = ((R : Nat) : Int)) := Lib.hid (by rw [Hk.out]; rfl)
              go_wp2
              go_ret
              exact ⟨retI HR.out, B5⟩
        · rw [show ((2 : Nat) : Int) = 2 from rfl]
          have haa := Hg.out.1 (by omega)
          have Haa := Lib.hid haa; clear haa
          go_wp2_with fail
          refine (pairS_dn x y _ Hinf.out).mono ?_
          rintro e w3 ⟨rfl, hb3⟩
          have B3 := ((hbel.tr hb3).al (.cells #[.int .i64 x, .int .i64 y, .bool true] 73)).al (.cells #[.int .i64 (x + 1), .int .i64 y, .bool true] 73)
          have bC := ((hC.bl hb3).alloc (.cells #[.int .i64 x, .int .i64 y, .bool true] 73)).alloc (.cells #[.int .i64 (x + 1), .int .i64 y, .bool true] 73)
          have bd := (Blk.new_ w3 73 #[.int .i64 x, .int .i64 y, .bool true]).alloc (.cells #[.int .i64 (x + 1), .int .i64 y, .bool true] 73)
          have be := Blk.new2 (w3.alloc (.cells #[.int .i64 x, .int .i64 y, .bool true] 73)) 73 #[.int .i64 (x + 1), .int .i64 y, .bool true] (w3.heap.size + 1) (by simp)
          clear zc_0 zc_1
          have d_0 := bd.cell 0
          have d_1 := bd.cell 1
          have d_2 := bd.cell 2
          simp only [List.getElem?_toArray, List.getElem?_cons_zero, List.getElem?_cons_succ] at d_0 d_1 d_2
          have e_0 := be.cell 0
          have e_1 := be.cell 1
          have e_2 := be.cell 2
          simp only [List.getElem?_toArray, List.getElem?_cons_zero, List.getElem?_cons_succ] at e_0 e_1 e_2
          rcases d1 with _ | _
          · skip
            go_wp2_with fail
            refine (hasS_no _ l x y true _ (h.below RE.stays B3) Hd1.out).mono ?_
            rintro e w4 ⟨rfl, hb4⟩
            have B4 := B3.tr hb4
            clear d_0 d_1 d_2 e_0 e_1 e_2
            have bd := bd.bl hb4
            have be := be.bl hb4
            have bC := bC.bl hb4
            have d_0 := bd.cell 0
            have d_1 := bd.cell 1
            have d_2 := bd.cell 2
            simp only [List.getElem?_toArray, List.getElem?_cons_zero, List.getElem?_cons_succ] at d_0 d_1 d_2
            have e_0 := be.cell 0
            have e_1 := be.cell 1
            have e_2 := be.cell 2
            simp only [List.getElem?_toArray, List.getElem?_cons_zero, List.getElem?_cons_succ] at e_0 e_1 e_2
            go_wp2
            go_roundw
            case rel => exact ⟨3, by omega, by omega, by go_num, Lib.hid ⟨fun _ => Haa.out, fun q => rfl⟩, bC, B4⟩
            case measure => simp [intOf]
          · skip
            obtain ⟨r4, hr4, c4⟩ := hasS_yes _ l x y true _ (h.below RE.stays B3) Hd1.out
            go_wp2_with fail
            refine (c4).mono ?_
            rintro e w4 ⟨rfl, hb4⟩
            have B4 := B3.tr hb4
            clear d_0 d_1 d_2 e_0 e_1 e_2 c4
            have bd := bd.bl hb4
            have be := be.bl hb4
            have bC := bC.bl hb4
            have d_0 := bd.cell 0
            have d_1 := bd.cell 1
            have d_2 := bd.cell 2
            simp only [List.getElem?_toArray, List.getElem?_cons_zero, List.getElem?_cons_succ] at d_0 d_1 d_2
            have e_0 := be.cell 0
            have e_1 := be.cell 1
            have e_2 := be.cell 2
            simp only [List.getElem?_toArray, List.getElem?_cons_zero, List.getElem?_cons_succ] at e_0 e_1 e_2
            rcases d2 with _ | _
            · skip
              go_wp2_with fail
              refine (hasS_no _ l (x + 1) y true _ (h.below RE.stays B4) Hd2.out).mono ?_
              rintro e w5 ⟨rfl, hb5⟩
              have B5 := B4.tr hb5
              clear d_0 d_1 d_2 e_0 e_1 e_2
              have bd := bd.bl hb5
              have be := be.bl hb5
              have bC := bC.bl hb5
              have d_0 := bd.cell 0
              have d_1 := bd.cell 1
              have d_2 := bd.cell 2
              simp only [List.getElem?_toArray, List.getElem?_cons_zero, List.getElem?_cons_succ] at d_0 d_1 d_2
              have e_0 := be.cell 0
              have e_1 := be.cell 1
              have e_2 := be.cell 2
              simp only [List.getElem?_toArray, List.getElem?_cons_zero, List.getElem?_cons_succ] at e_0 e_1 e_2
              go_wp2
              go_roundw
              case rel => exact ⟨3, by omega, by omega, by go_num, Lib.hid ⟨fun _ => Haa.out, fun q => rfl⟩, bC, B5⟩
              case measure => simp [intOf]
            · skip
              obtain ⟨r5, hr5, c5⟩ := hasS_yes _ l (x + 1) y true _ (h.below RE.stays B4) Hd2.out
              go_wp2_with fail
              refine (c5).mono ?_
              rintro e w5 ⟨rfl, hb5⟩
              have B5 := B4.tr hb5
              clear d_0 d_1 d_2 e_0 e_1 e_2 c5
              have bd := bd.bl hb5
              have be := be.bl hb5
              have bC := bC.bl hb5
              have d_0 := bd.cell 0
              have d_1 := bd.cell 1
              have d_2 := bd.cell 2
              simp only [List.getElem?_toArray, List.getElem?_cons_zero, List.getElem?_cons_succ] at d_0 d_1 d_2
              have e_0 := be.cell 0
              have e_1 := be.cell 1
              have e_2 := be.cell 2
              simp only [List.getElem?_toArray, List.getElem?_cons_zero, List.getElem?_cons_succ] at e_0 e_1 e_2
              have HR : Hid ((2 : Int) = ((R : Nat) : Int)) := Lib.hid (by rw [Hk.out, Haa.out]; rfl)
              go_wp2
              go_ret
              exact ⟨retI HR.out, B5⟩
        · rw [show ((3 : Nat) : Int) = 3 from rfl]
          have HR : Hid ((0 : Int) = ((R : Nat) : Int)) := Lib.hid (by rw [Hk.out, Hg.out.1 (by omega), Hg.out.2 (by omega)]; rfl)
          go_wp2
          go_ret
          exact ⟨retI HR.out, hbel⟩
end Go.Proofs.Ytkbndchgmokabaa
