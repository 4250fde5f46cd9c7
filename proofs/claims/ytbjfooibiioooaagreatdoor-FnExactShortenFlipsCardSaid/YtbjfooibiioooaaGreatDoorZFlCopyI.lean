/- Floors copied, by the program: the walk. Conditions: sizes. -/
import Derived.Test.YtbjfooibiioooaaGreatDoorZK8
import Derived.Test.YtbjfooibiioooaaGreatDoorZCopyDm
namespace Go.Proofs.YtbjfooibiioooaaGreatDoor
open Go.ChangeShapes Go.WideShapes Go.ChangeAt Go.RowKit
set_option linter.unusedVariables false
set_option linter.unusedSimpArgs false
abbrev oFlCopyI0 : Oper := { dst := some 3, op := Go.Op.fieldAddr 34 (Go.Operand.tmp 1) 0, type := 0, pos := "l37_journal.go:25", after := #[], guard := none }
abbrev oFlCopyI1 : Oper := { dst := some 4, op := Go.Op.load 30 (Go.Operand.tmp 3), type := 30, pos := "l37_journal.go:25", after := #[{ on := 0, ground := Go.Ground.data }], guard := none }
abbrev oFlCopyI2 : Oper := { dst := some 6, op := Go.Op.fieldAddr 34 (Go.Operand.tmp 1) 1, type := 0, pos := "l37_journal.go:25", after := #[], guard := none }
abbrev oFlCopyI3 : Oper := { dst := some 7, op := Go.Op.load 31 (Go.Operand.tmp 6), type := 31, pos := "l37_journal.go:25", after := #[{ on := 3, ground := Go.Ground.data }], guard := none }
abbrev oFlCopyI4 : Oper := { dst := some 9, op := Go.Op.fieldAddr 34 (Go.Operand.tmp 1) 2, type := 0, pos := "l37_journal.go:25", after := #[], guard := none }
abbrev oFlCopyI5 : Oper := { dst := some 10, op := Go.Op.load 31 (Go.Operand.tmp 9), type := 31, pos := "l37_journal.go:25", after := #[{ on := 6, ground := Go.Ground.data }], guard := none }
abbrev oFlCopyI6 : Oper := { dst := some 13, op := Go.Op.fieldAddr 34 (Go.Operand.tmp 1) 3, type := 0, pos := "l37_journal.go:25", after := #[], guard := none }
abbrev oFlCopyI7 : Oper := { dst := some 14, op := Go.Op.load 32 (Go.Operand.tmp 13), type := 32, pos := "l37_journal.go:25", after := #[{ on := 10, ground := Go.Ground.data }], guard := none }
abbrev oFlCopyI8 : Oper := { dst := some 5, op := Go.Op.call { callee := Go.Callee.value (Go.Operand.func 96), args := #[Go.Operand.tmp 4], argTypes := #[30] }, type := 30, pos := "l37_journal.go:25", after := #[{ on := 1, ground := Go.Ground.data }], guard := none }
abbrev oFlCopyI9 : Oper := { dst := some 8, op := Go.Op.call { callee := Go.Callee.value (Go.Operand.func 97), args := #[Go.Operand.tmp 7], argTypes := #[31] }, type := 31, pos := "l37_journal.go:25", after := #[{ on := 4, ground := Go.Ground.data }, { on := 2, ground := Go.Ground.chain }], guard := none }
abbrev oFlCopyI10 : Oper := { dst := some 11, op := Go.Op.call { callee := Go.Callee.value (Go.Operand.func 97), args := #[Go.Operand.tmp 10], argTypes := #[31] }, type := 31, pos := "l37_journal.go:25", after := #[{ on := 7, ground := Go.Ground.data }, { on := 5, ground := Go.Ground.chain }], guard := none }
abbrev oFlCopyI11 : Oper := { dst := some 12, op := Go.Op.buildSlice 32 0 #[], type := 32, pos := "l37_journal.go:25", after := #[], guard := none }
abbrev oFlCopyI12 : Oper := { dst := some 15, op := Go.Op.call { callee := Go.Callee.builtin Go.Builtin.append, args := #[Go.Operand.tmp 12, Go.Operand.tmp 14], argTypes := #[32, 32] }, type := 32, pos := "l37_journal.go:25", after := #[{ on := 9, ground := Go.Ground.data }, { on := 11, ground := Go.Ground.data }, { on := 8, ground := Go.Ground.chain }], guard := none }
abbrev oFlCopyI13 : Oper := { dst := some 16, op := Go.Op.build 34 #[(0, Go.Operand.tmp 5), (1, Go.Operand.tmp 8), (2, Go.Operand.tmp 11), (3, Go.Operand.tmp 15)], type := 34, pos := "l37_journal.go:25", after := #[{ on := 2, ground := Go.Ground.data }, { on := 5, ground := Go.Ground.data }, { on := 8, ground := Go.Ground.data }, { on := 12, ground := Go.Ground.data }], guard := none }
abbrev oFlCopyI14 : Oper := { dst := none, op := Go.Op.store 34 (Go.Operand.tmp 2) (Go.Operand.tmp 16), type := 0, pos := "l37_journal.go:25", after := #[{ on := 13, ground := Go.Ground.data }, { on := 12, ground := Go.Ground.chain }, { on := 0, ground := Go.Ground.phase }, { on := 1, ground := Go.Ground.phase }, { on := 2, ground := Go.Ground.phase }, { on := 3, ground := Go.Ground.phase }, { on := 4, ground := Go.Ground.phase }, { on := 5, ground := Go.Ground.phase }, { on := 6, ground := Go.Ground.phase }, { on := 7, ground := Go.Ground.phase }, { on := 8, ground := Go.Ground.phase }, { on := 9, ground := Go.Ground.phase }, { on := 10, ground := Go.Ground.phase }, { on := 11, ground := Go.Ground.phase }, { on := 12, ground := Go.Ground.phase }, { on := 13, ground := Go.Ground.phase }], guard := none }
set_option maxHeartbeats 4000000 in
set_option maxRecDepth 100000 in
theorem copyFlI_any (v1 v2 v3 v4 : Value) (x : Fl) (w : World) (h1 : Rd 1 RInt w v1 x.1) (h2 : Rd 3 RDom w v2 x.2.1) (h3 : Rd 3 RDom w v3 x.2.2.1) (h4 : Rd 2 RPair w v4 x.2.2.2) (hs : Small4 x) : Calls Tryz.prog 46 #[.agg #[v1, v2, v3, v4]] w (RetFloor x w) := by
 obtain ⟨rows, f, n, cs⟩ := x
 simp only at h1 h2 h3 h4
 obtain ⟨s1, s2, s3, s4⟩ := hs
 simp only at s1 s2 s3 s4
 obtain ⟨A1, c1, rfl, hc1, hm1⟩ := h1.form
 obtain ⟨A2, c2, rfl, hc2, hm2⟩ := h2.form
 obtain ⟨A3, c3, rfl, hc3, hm3⟩ := h3.form
 obtain ⟨A4, c4, rfl, hc4, hm4⟩ := h4.form
 have B0 := ((Below.refl w.heap.size w).al (.cells #[.slice A1 rows.length c1, .slice A2 f.length c2, .slice A3 n.length c3, .slice A4 cs.length c4] 34)).al (.cells #[.slice none 0 0, .slice none 0 0, .slice none 0 0, .slice none 0 0] 34)
 have bP := (Blk.new_ w 34 #[.slice A1 rows.length c1, .slice A2 f.length c2, .slice A3 n.length c3, .slice A4 cs.length c4]).alloc (.cells #[.slice none 0 0, .slice none 0 0, .slice none 0 0, .slice none 0 0] 34)
 have bR := Blk.new2 (w.alloc (.cells #[.slice A1 rows.length c1, .slice A2 f.length c2, .slice A3 n.length c3, .slice A4 cs.length c4] 34)) 34 #[.slice none 0 0, .slice none 0 0, .slice none 0 0, .slice none 0 0] (w.heap.size + 1) (by simp)
 have H4 : Hid (cs.length * 16 ≤ 140737488355328) := Lib.hid (by unfold Small at s4; omega)
 have M4 := Lib.hid s4.max
 go_enter Tryz.func46, Tryz.ntmps46
 go_wp2_with fail
 obtain ⟨W0, hW0⟩ : ∃ W0, W0 = (w.alloc (.cells #[.slice A1 rows.length c1, .slice A2 f.length c2, .slice A3 n.length c3, .slice A4 cs.length c4] 34)).alloc (.cells #[.slice none 0 0, .slice none 0 0, .slice none 0 0, .slice none 0 0] 34) := ⟨_, rfl⟩
 obtain ⟨gP, hgP⟩ : ∃ g, g = w.heap.size := ⟨_, rfl⟩
 obtain ⟨gR, hgR'⟩ : ∃ g, g = w.heap.size + 1 := ⟨_, rfl⟩
 rw [← hW0] at B0 bP bR ⊢
 rw [← hgR'] at bR ⊢
 rw [← hgP] at bP ⊢
 have hgR : w.heap.size ≤ gR := by omega
 have hPR : gP ≠ gR := by omega
 have hw0 : w.heap.size ≤ W0.heap.size := B0.size
 clear hW0 hgP hgR'
 have z_0 := bP.cell 0
 have z_1 := bP.cell 1
 have z_2 := bP.cell 2
 have z_3 := bP.cell 3
 simp only [List.getElem?_toArray, List.getElem?_cons_zero, List.getElem?_cons_succ] at z_0 z_1 z_2 z_3
 have hp0 := bP.lt
 have hr0 := bR.lt
 have Bw : Below W0.heap.size W0 W0.drew := (Below.refl _ _).drew
 have hz : W0.heap.size ≤ W0.drew.heap.size := by simp
 have bR := bR.bl Bw
 refine wp_region_held_drew (S := (fun w' => w'.cell? ⟨gP, 0, none⟩ = some (.slice A1 rows.length c1) ∧ w'.cell? ⟨gP, 1, none⟩ = some (.slice A2 f.length c2) ∧ w'.cell? ⟨gP, 2, none⟩ = some (.slice A3 n.length c3) ∧ w'.cell? ⟨gP, 3, none⟩ = some (.slice A4 cs.length c4))) (by kernel_rfl) ?_ (fun hHeld => ?_)
 · (try dsimp only); (try go_keep)
 refine tk 0 oFlCopyI0 rfl (by kernel_rfl) (v := ?_) (fun _ _ _ h => h) (Or.inl ⟨by rfl, ?_⟩) (by assumption) ?_
 rotate_left 1
 · (intro wS hSw; (try dsimp only at hSw); dsimp only [oFlCopyI0]; go_simp; (all_goals with_reducible rfl))
 simp only [oFlCopyI0, putL, List.set]
 refine tk 1 oFlCopyI1 rfl (by kernel_rfl) (v := ?_) (fun _ _ _ h => h) (Or.inl ⟨by rfl, ?_⟩) (by assumption) ?_
 rotate_left 1
 · (intro wS hSw; (try dsimp only at hSw); dsimp only [oFlCopyI1]; go_simp; (all_goals with_reducible rfl))
 simp only [oFlCopyI1, putL, List.set]
 refine tk 3 oFlCopyI2 rfl (by kernel_rfl) (v := ?_) (fun _ _ _ h => h) (Or.inl ⟨by rfl, ?_⟩) (by assumption) ?_
 rotate_left 1
 · (intro wS hSw; (try dsimp only at hSw); dsimp only [oFlCopyI2]; go_simp; (all_goals with_reducible rfl))
 simp only [oFlCopyI2, putL, List.set]
 refine tk 4 oFlCopyI3 rfl (by kernel_rfl) (v := ?_) (fun _ _ _ h => h) (Or.inl ⟨by rfl, ?_⟩) (by assumption) ?_
 rotate_left 1
 · (intro wS hSw; (try dsimp only at hSw); dsimp only [oFlCopyI3]; go_simp; (all_goals with_reducible rfl))
 simp only [oFlCopyI3, putL, List.set]
 refine tk 6 oFlCopyI4 rfl (by kernel_rfl) (v := ?_) (fun _ _ _ h => h) (Or.inl ⟨by rfl, ?_⟩) (by assumption) ?_
 rotate_left 1
 · (intro wS hSw; (try dsimp only at hSw); dsimp only [oFlCopyI4]; go_simp; (all_goals with_reducible rfl))
 simp only [oFlCopyI4, putL, List.set]
 refine tk 7 oFlCopyI5 rfl (by kernel_rfl) (v := ?_) (fun _ _ _ h => h) (Or.inl ⟨by rfl, ?_⟩) (by assumption) ?_
 rotate_left 1
 · (intro wS hSw; (try dsimp only at hSw); dsimp only [oFlCopyI5]; go_simp; (all_goals with_reducible rfl))
 simp only [oFlCopyI5, putL, List.set]
 refine tk 10 oFlCopyI6 rfl (by kernel_rfl) (v := ?_) (fun _ _ _ h => h) (Or.inl ⟨by rfl, ?_⟩) (by assumption) ?_
 rotate_left 1
 · (intro wS hSw; (try dsimp only at hSw); dsimp only [oFlCopyI6]; go_simp; (all_goals with_reducible rfl))
 simp only [oFlCopyI6, putL, List.set]
 refine tk 11 oFlCopyI7 rfl (by kernel_rfl) (v := ?_) (fun _ _ _ h => h) (Or.inl ⟨by rfl, ?_⟩) (by assumption) ?_
 rotate_left 1
 · (intro wS hSw; (try dsimp only at hSw); dsimp only [oFlCopyI7]; go_simp; (all_goals with_reducible rfl))
 simp only [oFlCopyI7, putL, List.set]
 refine wpAnyH_ready (rs := [2, 9]) (by kernel_rfl) (by simp) ?_
 refine AllReadyH.cons (o := oFlCopyI8) rfl (fun K hK => ?_) ?_
 dsimp only [oFlCopyI8]
 (go_simp; go_at_call 96; go_must (refine (copied_any _ rows _ (h1.below RE.stays (B0.tr Bw)) s1).mono ?_; rintro e wX ⟨C1, e1, rfl, own1, hbX⟩; have own1 := own1.mono (show w.heap.size ≤ _ by omega); have hgy := hbX.size; obtain ⟨hcX, hfX, hzX⟩ := bkn hbX W0.heap.size hz; have hz := hzX; have Bw := Bw.tr hbX; have bR := bR.bl hbX; (try have own1 := own1.below hbX); (try have own2 := own2.below hbX); (try have own3 := own3.below hbX); (try have own4 := own4.below hbX); (try have b3 := b3.bl hbX); (try have b7 := b7.bl hbX); (try have b11 := b11.bl hbX)))
 refine hK.out _ _ ?_ (fun hHeld => ?_)
 · (try dsimp only); (try go_keep)
 clear hK K
 (try simp only [Act.put, List.setIfInBounds_toArray, List.set_cons_zero, List.set_cons_succ])
 refine wpAnyH_ready (rs := [5, 9]) (by kernel_rfl) (by simp) ?_
 refine AllReadyH.cons (o := oFlCopyI9) rfl (fun K hK => ?_) ?_
 dsimp only [oFlCopyI9]
 (go_simp; go_at_call 97; go_must (refine (copyDomsI_any _ f _ (h2.below RE.stays (B0.tr Bw)) s2).mono ?_; rintro e wX ⟨C2, e2, rfl, own2, hbX⟩; have own2 := own2.mono (show w.heap.size ≤ _ by omega); have hgy := hbX.size; obtain ⟨hcX, hfX, hzX⟩ := bkn hbX W0.heap.size hz; have hz := hzX; have Bw := Bw.tr hbX; have bR := bR.bl hbX; (try have own1 := own1.below hbX); (try have own2 := own2.below hbX); (try have own3 := own3.below hbX); (try have own4 := own4.below hbX); (try have b3 := b3.bl hbX); (try have b7 := b7.bl hbX); (try have b11 := b11.bl hbX)))
 refine hK.out _ _ ?_ (fun hHeld => ?_)
 · (try dsimp only); (try go_keep)
 clear hK K
 (try simp only [Act.put, List.setIfInBounds_toArray, List.set_cons_zero, List.set_cons_succ])
 refine wpAnyH_ready (rs := [8, 9]) (by kernel_rfl) (by simp) ?_
 refine AllReadyH.cons (o := oFlCopyI10) rfl (fun K hK => ?_) ?_
 dsimp only [oFlCopyI10]
 (go_simp; go_at_call 97; go_must (refine (copyDomsI_any _ n _ (h3.below RE.stays (B0.tr Bw)) s3).mono ?_; rintro e wX ⟨C3, e3, rfl, own3, hbX⟩; have ap23 : ∀ k, (Value.slice C2 f.length e2).ownBlock = some k → (Value.slice C3 n.length e3).ownBlock ≠ some k := fun k q => own2.early own3 (Nat.le_refl _) q; have own3 := own3.mono (show w.heap.size ≤ _ by omega); have hgy := hbX.size; obtain ⟨hcX, hfX, hzX⟩ := bkn hbX W0.heap.size hz; have hz := hzX; have Bw := Bw.tr hbX; have bR := bR.bl hbX; (try have own1 := own1.below hbX); (try have own2 := own2.below hbX); (try have own3 := own3.below hbX); (try have own4 := own4.below hbX); (try have b3 := b3.bl hbX); (try have b7 := b7.bl hbX); (try have b11 := b11.bl hbX)))
 refine hK.out _ _ ?_ (fun hHeld => ?_)
 · (try dsimp only); (try go_keep)
 clear hK K
 (try simp only [Act.put, List.setIfInBounds_toArray, List.set_cons_zero, List.set_cons_succ])
 refine wpAnyH_ready (rs := [9]) (by kernel_rfl) (by simp) ?_
 refine AllReadyH.cons (o := oFlCopyI11) rfl (fun K hK => ?_) AllReadyH.nil
 (refine step_buildE rowCell rfl rfl ?_; intro g11 wX b11 hbX hg11a hg11b hgz; have hgy := hbX.size; obtain ⟨hcX, hfX, hzX⟩ := bkn hbX W0.heap.size hz; have hz := hzX; have Bw := Bw.tr hbX; have bR := bR.bl hbX; (try have own1 := own1.below hbX); (try have own2 := own2.below hbX); (try have own3 := own3.below hbX); (try have own4 := own4.below hbX); (try have b3 := b3.bl hbX); (try have b7 := b7.bl hbX); (try have b11 := b11.bl hbX))
 refine hK.out _ _ ?_ (fun hHeld => ?_)
 · (try dsimp only); (try go_keep)
 clear hK K
 (try simp only [Act.put, List.setIfInBounds_toArray, List.set_cons_zero, List.set_cons_succ])
 refine wpAnyH_ready (rs := [12]) (by kernel_rfl) (by simp) ?_
 refine AllReadyH.cons (o := oFlCopyI12) rfl (fun K hK => ?_) AllReadyH.nil
 (refine step_appE rowCell lenCell oneCell (B := w.heap.size) b11 (by omega) (h4.below RE.stays (B0.tr Bw)) H4.out M4.out rfl _ _ rfl rfl rfl ?_; intro C4 e4 wX own4 hbX hk4 hgz; have hgy := hbX.size; obtain ⟨hcX, hfX, hzX⟩ := bkn hbX W0.heap.size hz; have hz := hzX; have Bw := Bw.tr hbX; have bR := bR.bl hbX; (try have own1 := own1.below hbX); (try have own2 := own2.below hbX); (try have own3 := own3.below hbX); (try have own4 := own4.below hbX); (try have b3 := b3.bl hbX); (try have b7 := b7.bl hbX); (try have b11 := b11.bl hbX))
 refine hK.out _ _ ?_ (fun hHeld => ?_)
 · (try dsimp only); (try go_keep)
 clear hK K
 (try simp only [Act.put, List.setIfInBounds_toArray, List.set_cons_zero, List.set_cons_succ])
 refine tk 13 oFlCopyI13 rfl (by kernel_rfl) (v := ?_) (fun _ _ _ h => h) (Or.inl ⟨by rfl, ?_⟩) (by assumption) ?_
 rotate_left 1
 · (intro wS hSw; (try dsimp only at hSw); dsimp only [oFlCopyI13]; go_simp; (all_goals with_reducible rfl))
 simp only [oFlCopyI13, putL, List.set]
 refine wpAnyH_ready (rs := [14]) (by kernel_rfl) (by simp) ?_
 refine AllReadyH.cons (o := oFlCopyI14) rfl (fun K hK => ?_) AllReadyH.nil
 (refine step_storeRow rfl 34 _ _ rfl gR _ rfl rfl _ _ bR (by kernel_rfl) rfl (by simp [Value.oneCell']) ?_; intro wX bX hgX; have oF : OwnFl w.heap.size wX _ _ _ _ (rows, f, n, cs) := OwnFl.rowI ⟨own1, own2, own3, own4, ap23⟩ bR (by decide) (by decide) (by decide) hgX; have BX := (B0.tr Bw).grown hgX (B0.tr Bw).size (fun k hk => by injection hk with hk; subst hk; exact hgR); have bPX := (bP.bl Bw).grown hgX (by simp; omega); have c_0 := bPX.cell 0; have c_1 := bPX.cell 1; have c_2 := bPX.cell 2; have c_3 := bPX.cell 3; simp only [List.getElem?_toArray, List.getElem?_cons_zero, List.getElem?_cons_succ] at c_0 c_1 c_2 c_3; clear own1 own2 own3 own4)
 refine hK.out _ _ ?_ (fun hHeld => ?_)
 · (try dsimp only); (try go_keep)
 clear hK K
 (try simp only [Act.put, List.setIfInBounds_toArray, List.set_cons_zero, List.set_cons_succ])
 refine wpAnyH_done (by kernel_rfl) ?_ _
 rotate_left 1
 refine AllReadyH.cons (o := oFlCopyI11) rfl (fun K hK => ?_) AllReadyH.nil
 (refine step_buildE rowCell rfl rfl ?_; intro g11 wX b11 hbX hg11a hg11b hgz; have hgy := hbX.size; obtain ⟨hcX, hfX, hzX⟩ := bkn hbX W0.heap.size hz; have hz := hzX; have Bw := Bw.tr hbX; have bR := bR.bl hbX; (try have own1 := own1.below hbX); (try have own2 := own2.below hbX); (try have own3 := own3.below hbX); (try have own4 := own4.below hbX); (try have b3 := b3.bl hbX); (try have b7 := b7.bl hbX); (try have b11 := b11.bl hbX))
 refine hK.out _ _ ?_ (fun hHeld => ?_)
 · (try dsimp only); (try go_keep)
 clear hK K
 (try simp only [Act.put, List.setIfInBounds_toArray, List.set_cons_zero, List.set_cons_succ])
 refine wpAnyH_ready (rs := [8]) (by kernel_rfl) (by simp) ?_
 refine AllReadyH.cons (o := oFlCopyI10) rfl (fun K hK => ?_) AllReadyH.nil
 dsimp only [oFlCopyI10]
 (go_simp; go_at_call 97; go_must (refine (copyDomsI_any _ n _ (h3.below RE.stays (B0.tr Bw)) s3).mono ?_; rintro e wX ⟨C3, e3, rfl, own3, hbX⟩; have ap23 : ∀ k, (Value.slice C2 f.length e2).ownBlock = some k → (Value.slice C3 n.length e3).ownBlock ≠ some k := fun k q => own2.early own3 (Nat.le_refl _) q; have own3 := own3.mono (show w.heap.size ≤ _ by omega); have hgy := hbX.size; obtain ⟨hcX, hfX, hzX⟩ := bkn hbX W0.heap.size hz; have hz := hzX; have Bw := Bw.tr hbX; have bR := bR.bl hbX; (try have own1 := own1.below hbX); (try have own2 := own2.below hbX); (try have own3 := own3.below hbX); (try have own4 := own4.below hbX); (try have b3 := b3.bl hbX); (try have b7 := b7.bl hbX); (try have b11 := b11.bl hbX)))
 refine hK.out _ _ ?_ (fun hHeld => ?_)
 · (try dsimp only); (try go_keep)
 clear hK K
 (try simp only [Act.put, List.setIfInBounds_toArray, List.set_cons_zero, List.set_cons_succ])
 refine wpAnyH_ready (rs := [12]) (by kernel_rfl) (by simp) ?_
 refine AllReadyH.cons (o := oFlCopyI12) rfl (fun K hK => ?_) AllReadyH.nil
 (refine step_appE rowCell lenCell oneCell (B := w.heap.size) b11 (by omega) (h4.below RE.stays (B0.tr Bw)) H4.out M4.out rfl _ _ rfl rfl rfl ?_; intro C4 e4 wX own4 hbX hk4 hgz; have hgy := hbX.size; obtain ⟨hcX, hfX, hzX⟩ := bkn hbX W0.heap.size hz; have hz := hzX; have Bw := Bw.tr hbX; have bR := bR.bl hbX; (try have own1 := own1.below hbX); (try have own2 := own2.below hbX); (try have own3 := own3.below hbX); (try have own4 := own4.below hbX); (try have b3 := b3.bl hbX); (try have b7 := b7.bl hbX); (try have b11 := b11.bl hbX))
 refine hK.out _ _ ?_ (fun hHeld => ?_)
 · (try dsimp only); (try go_keep)
 clear hK K
 (try simp only [Act.put, List.setIfInBounds_toArray, List.set_cons_zero, List.set_cons_succ])
 refine tk 13 oFlCopyI13 rfl (by kernel_rfl) (v := ?_) (fun _ _ _ h => h) (Or.inl ⟨by rfl, ?_⟩) (by assumption) ?_
 rotate_left 1
 · (intro wS hSw; (try dsimp only at hSw); dsimp only [oFlCopyI13]; go_simp; (all_goals with_reducible rfl))
 simp only [oFlCopyI13, putL, List.set]
 refine wpAnyH_ready (rs := [14]) (by kernel_rfl) (by simp) ?_
 refine AllReadyH.cons (o := oFlCopyI14) rfl (fun K hK => ?_) AllReadyH.nil
 (refine step_storeRow rfl 34 _ _ rfl gR _ rfl rfl _ _ bR (by kernel_rfl) rfl (by simp [Value.oneCell']) ?_; intro wX bX hgX; have oF : OwnFl w.heap.size wX _ _ _ _ (rows, f, n, cs) := OwnFl.rowI ⟨own1, own2, own3, own4, ap23⟩ bR (by decide) (by decide) (by decide) hgX; have BX := (B0.tr Bw).grown hgX (B0.tr Bw).size (fun k hk => by injection hk with hk; subst hk; exact hgR); have bPX := (bP.bl Bw).grown hgX (by simp; omega); have c_0 := bPX.cell 0; have c_1 := bPX.cell 1; have c_2 := bPX.cell 2; have c_3 := bPX.cell 3; simp only [List.getElem?_toArray, List.getElem?_cons_zero, List.getElem?_cons_succ] at c_0 c_1 c_2 c_3; clear own1 own2 own3 own4)
 refine hK.out _ _ ?_ (fun hHeld => ?_)
 · (try dsimp only); (try go_keep)
 clear hK K
 (try simp only [Act.put, List.setIfInBounds_toArray, List.set_cons_zero, List.set_cons_succ])
 refine wpAnyH_done (by kernel_rfl) ?_ _
 rotate_left 1
 refine AllReadyH.cons (o := oFlCopyI11) rfl (fun K hK => ?_) AllReadyH.nil
 (refine step_buildE rowCell rfl rfl ?_; intro g11 wX b11 hbX hg11a hg11b hgz; have hgy := hbX.size; obtain ⟨hcX, hfX, hzX⟩ := bkn hbX W0.heap.size hz; have hz := hzX; have Bw := Bw.tr hbX; have bR := bR.bl hbX; (try have own1 := own1.below hbX); (try have own2 := own2.below hbX); (try have own3 := own3.below hbX); (try have own4 := own4.below hbX); (try have b3 := b3.bl hbX); (try have b7 := b7.bl hbX); (try have b11 := b11.bl hbX))
 refine hK.out _ _ ?_ (fun hHeld => ?_)
 · (try dsimp only); (try go_keep)
 clear hK K
 (try simp only [Act.put, List.setIfInBounds_toArray, List.set_cons_zero, List.set_cons_succ])
 refine wpAnyH_ready (rs := [5]) (by kernel_rfl) (by simp) ?_
 refine AllReadyH.cons (o := oFlCopyI9) rfl (fun K hK => ?_) AllReadyH.nil
 dsimp only [oFlCopyI9]
 (go_simp; go_at_call 97; go_must (refine (copyDomsI_any _ f _ (h2.below RE.stays (B0.tr Bw)) s2).mono ?_; rintro e wX ⟨C2, e2, rfl, own2, hbX⟩; have own2 := own2.mono (show w.heap.size ≤ _ by omega); have hgy := hbX.size; obtain ⟨hcX, hfX, hzX⟩ := bkn hbX W0.heap.size hz; have hz := hzX; have Bw := Bw.tr hbX; have bR := bR.bl hbX; (try have own1 := own1.below hbX); (try have own2 := own2.below hbX); (try have own3 := own3.below hbX); (try have own4 := own4.below hbX); (try have b3 := b3.bl hbX); (try have b7 := b7.bl hbX); (try have b11 := b11.bl hbX)))
 refine hK.out _ _ ?_ (fun hHeld => ?_)
 · (try dsimp only); (try go_keep)
 clear hK K
 (try simp only [Act.put, List.setIfInBounds_toArray, List.set_cons_zero, List.set_cons_succ])
 refine wpAnyH_ready (rs := [8]) (by kernel_rfl) (by simp) ?_
 refine AllReadyH.cons (o := oFlCopyI10) rfl (fun K hK => ?_) AllReadyH.nil
 dsimp only [oFlCopyI10]
 (go_simp; go_at_call 97; go_must (refine (copyDomsI_any _ n _ (h3.below RE.stays (B0.tr Bw)) s3).mono ?_; rintro e wX ⟨C3, e3, rfl, own3, hbX⟩; have ap23 : ∀ k, (Value.slice C2 f.length e2).ownBlock = some k → (Value.slice C3 n.length e3).ownBlock ≠ some k := fun k q => own2.early own3 (Nat.le_refl _) q; have own3 := own3.mono (show w.heap.size ≤ _ by omega); have hgy := hbX.size; obtain ⟨hcX, hfX, hzX⟩ := bkn hbX W0.heap.size hz; have hz := hzX; have Bw := Bw.tr hbX; have bR := bR.bl hbX; (try have own1 := own1.below hbX); (try have own2 := own2.below hbX); (try have own3 := own3.below hbX); (try have own4 := own4.below hbX); (try have b3 := b3.bl hbX); (try have b7 := b7.bl hbX); (try have b11 := b11.bl hbX)))
 refine hK.out _ _ ?_ (fun hHeld => ?_)
 · (try dsimp only); (try go_keep)
 clear hK K
 (try simp only [Act.put, List.setIfInBounds_toArray, List.set_cons_zero, List.set_cons_succ])
 refine wpAnyH_ready (rs := [12]) (by kernel_rfl) (by simp) ?_
 refine AllReadyH.cons (o := oFlCopyI12) rfl (fun K hK => ?_) AllReadyH.nil
 (refine step_appE rowCell lenCell oneCell (B := w.heap.size) b11 (by omega) (h4.below RE.stays (B0.tr Bw)) H4.out M4.out rfl _ _ rfl rfl rfl ?_; intro C4 e4 wX own4 hbX hk4 hgz; have hgy := hbX.size; obtain ⟨hcX, hfX, hzX⟩ := bkn hbX W0.heap.size hz; have hz := hzX; have Bw := Bw.tr hbX; have bR := bR.bl hbX; (try have own1 := own1.below hbX); (try have own2 := own2.below hbX); (try have own3 := own3.below hbX); (try have own4 := own4.below hbX); (try have b3 := b3.bl hbX); (try have b7 := b7.bl hbX); (try have b11 := b11.bl hbX))
 refine hK.out _ _ ?_ (fun hHeld => ?_)
 · (try dsimp only); (try go_keep)
 clear hK K
 (try simp only [Act.put, List.setIfInBounds_toArray, List.set_cons_zero, List.set_cons_succ])
 refine tk 13 oFlCopyI13 rfl (by kernel_rfl) (v := ?_) (fun _ _ _ h => h) (Or.inl ⟨by rfl, ?_⟩) (by assumption) ?_
 rotate_left 1
 · (intro wS hSw; (try dsimp only at hSw); dsimp only [oFlCopyI13]; go_simp; (all_goals with_reducible rfl))
 simp only [oFlCopyI13, putL, List.set]
 refine wpAnyH_ready (rs := [14]) (by kernel_rfl) (by simp) ?_
 refine AllReadyH.cons (o := oFlCopyI14) rfl (fun K hK => ?_) AllReadyH.nil
 (refine step_storeRow rfl 34 _ _ rfl gR _ rfl rfl _ _ bR (by kernel_rfl) rfl (by simp [Value.oneCell']) ?_; intro wX bX hgX; have oF : OwnFl w.heap.size wX _ _ _ _ (rows, f, n, cs) := OwnFl.rowI ⟨own1, own2, own3, own4, ap23⟩ bR (by decide) (by decide) (by decide) hgX; have BX := (B0.tr Bw).grown hgX (B0.tr Bw).size (fun k hk => by injection hk with hk; subst hk; exact hgR); have bPX := (bP.bl Bw).grown hgX (by simp; omega); have c_0 := bPX.cell 0; have c_1 := bPX.cell 1; have c_2 := bPX.cell 2; have c_3 := bPX.cell 3; simp only [List.getElem?_toArray, List.getElem?_cons_zero, List.getElem?_cons_succ] at c_0 c_1 c_2 c_3; clear own1 own2 own3 own4)
 refine hK.out _ _ ?_ (fun hHeld => ?_)
 · (try dsimp only); (try go_keep)
 clear hK K
 (try simp only [Act.put, List.setIfInBounds_toArray, List.set_cons_zero, List.set_cons_succ])
 refine wpAnyH_done (by kernel_rfl) ?_ _
 rotate_left 1
 refine AllReadyH.cons (o := oFlCopyI11) rfl (fun K hK => ?_) AllReadyH.nil
 (refine step_buildE rowCell rfl rfl ?_; intro g11 wX b11 hbX hg11a hg11b hgz; have hgy := hbX.size; obtain ⟨hcX, hfX, hzX⟩ := bkn hbX W0.heap.size hz; have hz := hzX; have Bw := Bw.tr hbX; have bR := bR.bl hbX; (try have own1 := own1.below hbX); (try have own2 := own2.below hbX); (try have own3 := own3.below hbX); (try have own4 := own4.below hbX); (try have b3 := b3.bl hbX); (try have b7 := b7.bl hbX); (try have b11 := b11.bl hbX))
 refine hK.out _ _ ?_ (fun hHeld => ?_)
 · (try dsimp only); (try go_keep)
 clear hK K
 (try simp only [Act.put, List.setIfInBounds_toArray, List.set_cons_zero, List.set_cons_succ])
 refine wpAnyH_ready (rs := [2]) (by kernel_rfl) (by simp) ?_
 refine AllReadyH.cons (o := oFlCopyI8) rfl (fun K hK => ?_) AllReadyH.nil
 dsimp only [oFlCopyI8]
 (go_simp; go_at_call 96; go_must (refine (copied_any _ rows _ (h1.below RE.stays (B0.tr Bw)) s1).mono ?_; rintro e wX ⟨C1, e1, rfl, own1, hbX⟩; have own1 := own1.mono (show w.heap.size ≤ _ by omega); have hgy := hbX.size; obtain ⟨hcX, hfX, hzX⟩ := bkn hbX W0.heap.size hz; have hz := hzX; have Bw := Bw.tr hbX; have bR := bR.bl hbX; (try have own1 := own1.below hbX); (try have own2 := own2.below hbX); (try have own3 := own3.below hbX); (try have own4 := own4.below hbX); (try have b3 := b3.bl hbX); (try have b7 := b7.bl hbX); (try have b11 := b11.bl hbX)))
 refine hK.out _ _ ?_ (fun hHeld => ?_)
 · (try dsimp only); (try go_keep)
 clear hK K
 (try simp only [Act.put, List.setIfInBounds_toArray, List.set_cons_zero, List.set_cons_succ])
 refine wpAnyH_ready (rs := [5]) (by kernel_rfl) (by simp) ?_
 refine AllReadyH.cons (o := oFlCopyI9) rfl (fun K hK => ?_) AllReadyH.nil
 dsimp only [oFlCopyI9]
 (go_simp; go_at_call 97; go_must (refine (copyDomsI_any _ f _ (h2.below RE.stays (B0.tr Bw)) s2).mono ?_; rintro e wX ⟨C2, e2, rfl, own2, hbX⟩; have own2 := own2.mono (show w.heap.size ≤ _ by omega); have hgy := hbX.size; obtain ⟨hcX, hfX, hzX⟩ := bkn hbX W0.heap.size hz; have hz := hzX; have Bw := Bw.tr hbX; have bR := bR.bl hbX; (try have own1 := own1.below hbX); (try have own2 := own2.below hbX); (try have own3 := own3.below hbX); (try have own4 := own4.below hbX); (try have b3 := b3.bl hbX); (try have b7 := b7.bl hbX); (try have b11 := b11.bl hbX)))
 refine hK.out _ _ ?_ (fun hHeld => ?_)
 · (try dsimp only); (try go_keep)
 clear hK K
 (try simp only [Act.put, List.setIfInBounds_toArray, List.set_cons_zero, List.set_cons_succ])
 refine wpAnyH_ready (rs := [8]) (by kernel_rfl) (by simp) ?_
 refine AllReadyH.cons (o := oFlCopyI10) rfl (fun K hK => ?_) AllReadyH.nil
 dsimp only [oFlCopyI10]
 (go_simp; go_at_call 97; go_must (refine (copyDomsI_any _ n _ (h3.below RE.stays (B0.tr Bw)) s3).mono ?_; rintro e wX ⟨C3, e3, rfl, own3, hbX⟩; have ap23 : ∀ k, (Value.slice C2 f.length e2).ownBlock = some k → (Value.slice C3 n.length e3).ownBlock ≠ some k := fun k q => own2.early own3 (Nat.le_refl _) q; have own3 := own3.mono (show w.heap.size ≤ _ by omega); have hgy := hbX.size; obtain ⟨hcX, hfX, hzX⟩ := bkn hbX W0.heap.size hz; have hz := hzX; have Bw := Bw.tr hbX; have bR := bR.bl hbX; (try have own1 := own1.below hbX); (try have own2 := own2.below hbX); (try have own3 := own3.below hbX); (try have own4 := own4.below hbX); (try have b3 := b3.bl hbX); (try have b7 := b7.bl hbX); (try have b11 := b11.bl hbX)))
 refine hK.out _ _ ?_ (fun hHeld => ?_)
 · (try dsimp only); (try go_keep)
 clear hK K
 (try simp only [Act.put, List.setIfInBounds_toArray, List.set_cons_zero, List.set_cons_succ])
 refine wpAnyH_ready (rs := [12]) (by kernel_rfl) (by simp) ?_
 refine AllReadyH.cons (o := oFlCopyI12) rfl (fun K hK => ?_) AllReadyH.nil
 (refine step_appE rowCell lenCell oneCell (B := w.heap.size) b11 (by omega) (h4.below RE.stays (B0.tr Bw)) H4.out M4.out rfl _ _ rfl rfl rfl ?_; intro C4 e4 wX own4 hbX hk4 hgz; have hgy := hbX.size; obtain ⟨hcX, hfX, hzX⟩ := bkn hbX W0.heap.size hz; have hz := hzX; have Bw := Bw.tr hbX; have bR := bR.bl hbX; (try have own1 := own1.below hbX); (try have own2 := own2.below hbX); (try have own3 := own3.below hbX); (try have own4 := own4.below hbX); (try have b3 := b3.bl hbX); (try have b7 := b7.bl hbX); (try have b11 := b11.bl hbX))
 refine hK.out _ _ ?_ (fun hHeld => ?_)
 · (try dsimp only); (try go_keep)
 clear hK K
 (try simp only [Act.put, List.setIfInBounds_toArray, List.set_cons_zero, List.set_cons_succ])
 refine tk 13 oFlCopyI13 rfl (by kernel_rfl) (v := ?_) (fun _ _ _ h => h) (Or.inl ⟨by rfl, ?_⟩) (by assumption) ?_
 rotate_left 1
 · (intro wS hSw; (try dsimp only at hSw); dsimp only [oFlCopyI13]; go_simp; (all_goals with_reducible rfl))
 simp only [oFlCopyI13, putL, List.set]
 refine wpAnyH_ready (rs := [14]) (by kernel_rfl) (by simp) ?_
 refine AllReadyH.cons (o := oFlCopyI14) rfl (fun K hK => ?_) AllReadyH.nil
 (refine step_storeRow rfl 34 _ _ rfl gR _ rfl rfl _ _ bR (by kernel_rfl) rfl (by simp [Value.oneCell']) ?_; intro wX bX hgX; have oF : OwnFl w.heap.size wX _ _ _ _ (rows, f, n, cs) := OwnFl.rowI ⟨own1, own2, own3, own4, ap23⟩ bR (by decide) (by decide) (by decide) hgX; have BX := (B0.tr Bw).grown hgX (B0.tr Bw).size (fun k hk => by injection hk with hk; subst hk; exact hgR); have bPX := (bP.bl Bw).grown hgX (by simp; omega); have c_0 := bPX.cell 0; have c_1 := bPX.cell 1; have c_2 := bPX.cell 2; have c_3 := bPX.cell 3; simp only [List.getElem?_toArray, List.getElem?_cons_zero, List.getElem?_cons_succ] at c_0 c_1 c_2 c_3; clear own1 own2 own3 own4)
 refine hK.out _ _ ?_ (fun hHeld => ?_)
 · (try dsimp only); (try go_keep)
 clear hK K
 (try simp only [Act.put, List.setIfInBounds_toArray, List.set_cons_zero, List.set_cons_succ])
 refine wpAnyH_done (by kernel_rfl) ?_ _
 all_goals
   go_wp2_with fail
   have q_0 := bX.cell 0
   have q_1 := bX.cell 1
   have q_2 := bX.cell 2
   have q_3 := bX.cell 3
   simp only [List.getElem?_toArray, List.getElem?_cons_zero, List.getElem?_cons_succ] at q_0 q_1 q_2 q_3
   refine bodyPost_ret (v := .agg #[.slice C1 rows.length e1, .slice C2 f.length e2, .slice C3 n.length e3, .slice C4 cs.length e4]) (by simp [results, Tryz.results46, go_sem, q_0, q_1, q_2, q_3]) rfl ⟨C1, e1, C2, e2, C3, e3, C4, e4, rfl, oF, BX⟩
end Go.Proofs.YtbjfooibiioooaaGreatDoor
