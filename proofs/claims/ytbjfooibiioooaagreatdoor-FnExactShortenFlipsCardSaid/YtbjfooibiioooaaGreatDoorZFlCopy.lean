/- Floors copied, by the reference and by the program: the walks. Conditions: sizes. -/
import Derived.Test.YtbjfooibiioooaaGreatDoorZK8
namespace Go.Proofs.YtbjfooibiioooaaGreatDoor
open Go.ChangeShapes Go.WideShapes Go.ChangeAt Go.RowKit
set_option linter.unusedVariables false
set_option linter.unusedSimpArgs false
theorem OwnFl.row {B g : Nat} {w w' : World} {v1 v2 v3 v4 : Value} {x : Fl} {t : TypeId} {cs : Array Value} (h : OwnFl B w v1 v2 v3 v4 x) (hb : Blk w g t cs) (h1 : 3 ≠ t) (h2 : 93 ≠ t) (h3 : 104 ≠ t) (hg : w.grownBy w' (some g)) : OwnFl B w' v1 v2 v3 v4 x :=
 h.grownS (S := fun k => k = g) ⟨hg.os, hg.tape, hg.output, hg.size, fun k hk hs => hg.block k hk (fun e => hs (by injection e))⟩ (fun k hk e => h.apart hb h1 h2 h3 (e ▸ hk))
abbrev oFlCopy0 : Oper := { dst := some 3, op := Go.Op.fieldAddr 34 (Go.Operand.tmp 1) 0, type := 0, pos := "l37_journal.go:14", after := #[], guard := none }
abbrev oFlCopy1 : Oper := { dst := some 4, op := Go.Op.load 30 (Go.Operand.tmp 3), type := 30, pos := "l37_journal.go:14", after := #[{ on := 0, ground := Go.Ground.data }], guard := none }
abbrev oFlCopy2 : Oper := { dst := some 7, op := Go.Op.fieldAddr 34 (Go.Operand.tmp 1) 1, type := 0, pos := "l37_journal.go:14", after := #[], guard := none }
abbrev oFlCopy3 : Oper := { dst := some 8, op := Go.Op.load 31 (Go.Operand.tmp 7), type := 31, pos := "l37_journal.go:14", after := #[{ on := 4, ground := Go.Ground.data }], guard := none }
abbrev oFlCopy4 : Oper := { dst := some 11, op := Go.Op.fieldAddr 34 (Go.Operand.tmp 1) 2, type := 0, pos := "l37_journal.go:14", after := #[], guard := none }
abbrev oFlCopy5 : Oper := { dst := some 12, op := Go.Op.load 31 (Go.Operand.tmp 11), type := 31, pos := "l37_journal.go:14", after := #[{ on := 8, ground := Go.Ground.data }], guard := none }
abbrev oFlCopy6 : Oper := { dst := some 15, op := Go.Op.fieldAddr 34 (Go.Operand.tmp 1) 3, type := 0, pos := "l37_journal.go:14", after := #[], guard := none }
abbrev oFlCopy7 : Oper := { dst := some 16, op := Go.Op.load 32 (Go.Operand.tmp 15), type := 32, pos := "l37_journal.go:14", after := #[{ on := 12, ground := Go.Ground.data }], guard := none }
abbrev oFlCopy8 : Oper := { dst := some 5, op := Go.Op.call { callee := Go.Callee.value (Go.Operand.func 85), args := #[Go.Operand.tmp 4], argTypes := #[30] }, type := 30, pos := "l37_journal.go:14", after := #[{ on := 1, ground := Go.Ground.data }], guard := none }
abbrev oFlCopy9 : Oper := { dst := some 6, op := Go.Op.buildSlice 31 0 #[], type := 31, pos := "l37_journal.go:14", after := #[], guard := none }
abbrev oFlCopy10 : Oper := { dst := some 9, op := Go.Op.call { callee := Go.Callee.builtin Go.Builtin.append, args := #[Go.Operand.tmp 6, Go.Operand.tmp 8], argTypes := #[31, 31] }, type := 31, pos := "l37_journal.go:14", after := #[{ on := 3, ground := Go.Ground.data }, { on := 5, ground := Go.Ground.data }, { on := 2, ground := Go.Ground.chain }], guard := none }
abbrev oFlCopy11 : Oper := { dst := some 10, op := Go.Op.buildSlice 31 0 #[], type := 31, pos := "l37_journal.go:14", after := #[], guard := none }
abbrev oFlCopy12 : Oper := { dst := some 13, op := Go.Op.call { callee := Go.Callee.builtin Go.Builtin.append, args := #[Go.Operand.tmp 10, Go.Operand.tmp 12], argTypes := #[31, 31] }, type := 31, pos := "l37_journal.go:14", after := #[{ on := 7, ground := Go.Ground.data }, { on := 9, ground := Go.Ground.data }, { on := 6, ground := Go.Ground.chain }], guard := none }
abbrev oFlCopy13 : Oper := { dst := some 14, op := Go.Op.buildSlice 32 0 #[], type := 32, pos := "l37_journal.go:14", after := #[], guard := none }
abbrev oFlCopy14 : Oper := { dst := some 17, op := Go.Op.call { callee := Go.Callee.builtin Go.Builtin.append, args := #[Go.Operand.tmp 14, Go.Operand.tmp 16], argTypes := #[32, 32] }, type := 32, pos := "l37_journal.go:14", after := #[{ on := 11, ground := Go.Ground.data }, { on := 13, ground := Go.Ground.data }, { on := 10, ground := Go.Ground.chain }], guard := none }
abbrev oFlCopy15 : Oper := { dst := some 18, op := Go.Op.build 34 #[(0, Go.Operand.tmp 5), (1, Go.Operand.tmp 9), (2, Go.Operand.tmp 13), (3, Go.Operand.tmp 17)], type := 34, pos := "l37_journal.go:14", after := #[{ on := 2, ground := Go.Ground.data }, { on := 6, ground := Go.Ground.data }, { on := 10, ground := Go.Ground.data }, { on := 14, ground := Go.Ground.data }], guard := none }
abbrev oFlCopy16 : Oper := { dst := none, op := Go.Op.store 34 (Go.Operand.tmp 2) (Go.Operand.tmp 18), type := 0, pos := "l37_journal.go:14", after := #[{ on := 15, ground := Go.Ground.data }, { on := 14, ground := Go.Ground.chain }, { on := 0, ground := Go.Ground.phase }, { on := 1, ground := Go.Ground.phase }, { on := 2, ground := Go.Ground.phase }, { on := 3, ground := Go.Ground.phase }, { on := 4, ground := Go.Ground.phase }, { on := 5, ground := Go.Ground.phase }, { on := 6, ground := Go.Ground.phase }, { on := 7, ground := Go.Ground.phase }, { on := 8, ground := Go.Ground.phase }, { on := 9, ground := Go.Ground.phase }, { on := 10, ground := Go.Ground.phase }, { on := 11, ground := Go.Ground.phase }, { on := 12, ground := Go.Ground.phase }, { on := 13, ground := Go.Ground.phase }, { on := 14, ground := Go.Ground.phase }, { on := 15, ground := Go.Ground.phase }], guard := none }
set_option maxHeartbeats 4000000 in
set_option maxRecDepth 100000 in
theorem copyFlS_any (v1 v2 v3 v4 : Value) (x : Fl) (w : World) (h1 : Rd 1 RInt w v1 x.1) (h2 : Rd 3 RDom w v2 x.2.1) (h3 : Rd 3 RDom w v3 x.2.2.1) (h4 : Rd 2 RPair w v4 x.2.2.2) (hs : Small4 x) : Calls Tryz.prog 40 #[.agg #[v1, v2, v3, v4]] w (RetFloor x w) := by
 obtain ⟨rows, f, n, cs⟩ := x
 simp only at h1 h2 h3 h4
 obtain ⟨s1, s2, s3, s4⟩ := hs
 simp only at s1 s2 s3 s4
 obtain ⟨A1, c1, rfl, hc1, hm1⟩ := h1.form
 obtain ⟨A2, c2, rfl, hc2, hm2⟩ := h2.form
 obtain ⟨A3, c3, rfl, hc3, hm3⟩ := h3.form
 obtain ⟨A4, c4, rfl, hc4, hm4⟩ := h4.form
 have B0 := ((Below.refl w.heap.size w).al (.cells #[.slice A1 rows.length c1, .slice A2 f.length c2, .slice A3 n.length c3, .slice A4 cs.length c4] 34)).al (.cells #[.slice none 0 0, .slice none 0 0, .slice none 0 0, .slice none 0 0] 34)
 have bP := (Blk.new_ w 34 #[.slice A1 rows.length c1, .slice A2 f.length c2, .slice A3 n.length c3, .slice A4 cs.length c4]).alloc (.cells #[.slice none 0 0, .slice none 0 0, .slice none 0 0, .slice none 0 0] 34)
 have bR := Blk.new2 (w.alloc (.cells #[.slice A1 rows.length c1, .slice A2 f.length c2, .slice A3 n.length c3, .slice A4 cs.length c4] 34)) 34 #[.slice none 0 0, .slice none 0 0, .slice none 0 0, .slice none 0 0] (w.heap.size + 1) (by simp)
 have H2 : Hid (f.length * 24 ≤ 140737488355328) := Lib.hid (by unfold Small at s2; omega)
 have H3 : Hid (n.length * 24 ≤ 140737488355328) := Lib.hid (by unfold Small at s3; omega)
 have H4 : Hid (cs.length * 16 ≤ 140737488355328) := Lib.hid (by unfold Small at s4; omega)
 have M2 := Lib.hid s2.max; have M3 := Lib.hid s3.max; have M4 := Lib.hid s4.max
 go_enter Tryz.func40, Tryz.ntmps40
 go_wp2_with fail
 obtain ⟨W0, hW0⟩ : ∃ W0, W0 = (w.alloc (.cells #[.slice A1 rows.length c1, .slice A2 f.length c2, .slice A3 n.length c3, .slice A4 cs.length c4] 34)).alloc (.cells #[.slice none 0 0, .slice none 0 0, .slice none 0 0, .slice none 0 0] 34) := ⟨_, rfl⟩
 obtain ⟨gP, hgP⟩ : ∃ g, g = w.heap.size := ⟨_, rfl⟩
 obtain ⟨gR, hgR'⟩ : ∃ g, g = w.heap.size + 1 := ⟨_, rfl⟩
 rw [← hW0] at B0 bP bR ⊢
 rw [← hgR'] at bR ⊢
 rw [← hgP] at bP ⊢
 have hgR : w.heap.size ≤ gR := by omega
 have hPR : gP ≠ gR := by omega
 have hw0 : w.heap.size ≤ W0.heap.size := B0.size
 clear hW0 hgP hgR'
 have z_0 := bP.cell 0
 have z_1 := bP.cell 1
 have z_2 := bP.cell 2
 have z_3 := bP.cell 3
 simp only [List.getElem?_toArray, List.getElem?_cons_zero, List.getElem?_cons_succ] at z_0 z_1 z_2 z_3
 have hp0 := bP.lt
 have hr0 := bR.lt
 have Bw : Below W0.heap.size W0 W0.drew := (Below.refl _ _).drew
 have hz : W0.heap.size ≤ W0.drew.heap.size := by simp
 have bR := bR.bl Bw
 refine wp_region_held_drew (S := (fun w' => w'.cell? ⟨gP, 0, none⟩ = some (.slice A1 rows.length c1) ∧ w'.cell? ⟨gP, 1, none⟩ = some (.slice A2 f.length c2) ∧ w'.cell? ⟨gP, 2, none⟩ = some (.slice A3 n.length c3) ∧ w'.cell? ⟨gP, 3, none⟩ = some (.slice A4 cs.length c4))) (by kernel_rfl) ?_ (fun hHeld => ?_)
 · (try dsimp only); (try go_keep)
 repeat' (first
   | ((with_reducible show AllReadyH _ _ _ _ _ _ _ _ _ _); first
   | (with_reducible exact AllReadyH.nil)
   | (refine AllReadyH.cons (o := oFlCopy8) rfl (fun K hK => ?_) ?_
      dsimp only [oFlCopy8]
      (go_simp; go_at_call 85; go_must (refine (copyS_any _ rows _ (h1.below RE.stays (B0.tr Bw)) s1).mono ?_; rintro e wX ⟨C1, e1, rfl, own1, hbX⟩; have own1 := own1.mono (show w.heap.size ≤ _ by omega); have hgy := hbX.size; obtain ⟨hcX, hfX, hzX⟩ := bkn hbX W0.heap.size hz; have hz := hzX; have Bw := Bw.tr hbX; have bR := bR.bl hbX; (try have own1 := own1.below hbX); (try have own2 := own2.below hbX); (try have own3 := own3.below hbX); (try have own4 := own4.below hbX); (try have b3 := b3.bl hbX); (try have b7 := b7.bl hbX); (try have b11 := b11.bl hbX)))
      refine hK.out _ _ ?_ (fun hHeld => ?_)
      · (try dsimp only); (try go_keep)
      clear hK K
      (try simp only [oFlCopy8, Act.put, List.setIfInBounds_toArray, List.set_cons_zero, List.set_cons_succ]))
   | (refine AllReadyH.cons (o := oFlCopy9) rfl (fun K hK => ?_) ?_
      (refine step_buildE rowDom rfl rfl ?_; intro g3 wX b3 hbX hg3a hg3b hgz; have hgy := hbX.size; obtain ⟨hcX, hfX, hzX⟩ := bkn hbX W0.heap.size hz; have hz := hzX; have Bw := Bw.tr hbX; have bR := bR.bl hbX; (try have own1 := own1.below hbX); (try have own2 := own2.below hbX); (try have own3 := own3.below hbX); (try have own4 := own4.below hbX); (try have b3 := b3.bl hbX); (try have b7 := b7.bl hbX); (try have b11 := b11.bl hbX))
      refine hK.out _ _ ?_ (fun hHeld => ?_)
      · (try dsimp only); (try go_keep)
      clear hK K
      (try simp only [oFlCopy9, Act.put, List.setIfInBounds_toArray, List.set_cons_zero, List.set_cons_succ]))
   | (refine AllReadyH.cons (o := oFlCopy10) rfl (fun K hK => ?_) ?_
      (refine step_appE rowDom lenDom oneDom (B := w.heap.size) b3 (by omega) (h2.below RE.stays (B0.tr Bw)) H2.out M2.out rfl _ _ rfl rfl rfl ?_; intro C2 e2 wX own2 hbX hk2 hgz; have hgy := hbX.size; obtain ⟨hcX, hfX, hzX⟩ := bkn hbX W0.heap.size hz; have hz := hzX; have Bw := Bw.tr hbX; have bR := bR.bl hbX; (try have own1 := own1.below hbX); (try have own2 := own2.below hbX); (try have own3 := own3.below hbX); (try have own4 := own4.below hbX); (try have b3 := b3.bl hbX); (try have b7 := b7.bl hbX); (try have b11 := b11.bl hbX))
      refine hK.out _ _ ?_ (fun hHeld => ?_)
      · (try dsimp only); (try go_keep)
      clear hK K
      (try simp only [oFlCopy10, Act.put, List.setIfInBounds_toArray, List.set_cons_zero, List.set_cons_succ]))
   | (refine AllReadyH.cons (o := oFlCopy11) rfl (fun K hK => ?_) ?_
      (refine step_buildE rowDom rfl rfl ?_; intro g7 wX b7 hbX hg7a hg7b hgz; have hgy := hbX.size; obtain ⟨hcX, hfX, hzX⟩ := bkn hbX W0.heap.size hz; have hz := hzX; have Bw := Bw.tr hbX; have bR := bR.bl hbX; (try have own1 := own1.below hbX); (try have own2 := own2.below hbX); (try have own3 := own3.below hbX); (try have own4 := own4.below hbX); (try have b3 := b3.bl hbX); (try have b7 := b7.bl hbX); (try have b11 := b11.bl hbX))
      refine hK.out _ _ ?_ (fun hHeld => ?_)
      · (try dsimp only); (try go_keep)
      clear hK K
      (try simp only [oFlCopy11, Act.put, List.setIfInBounds_toArray, List.set_cons_zero, List.set_cons_succ]))
   | (refine AllReadyH.cons (o := oFlCopy12) rfl (fun K hK => ?_) ?_
      (refine step_appE rowDom lenDom oneDom (B := w.heap.size) b7 (by omega) (h3.below RE.stays (B0.tr Bw)) H3.out M3.out rfl _ _ rfl rfl rfl ?_; intro C3 e3 wX own3 hbX hk3 hgz; have hgy := hbX.size; obtain ⟨hcX, hfX, hzX⟩ := bkn hbX W0.heap.size hz; have hz := hzX; have Bw := Bw.tr hbX; have bR := bR.bl hbX; (try have own1 := own1.below hbX); (try have own2 := own2.below hbX); (try have own3 := own3.below hbX); (try have own4 := own4.below hbX); (try have b3 := b3.bl hbX); (try have b7 := b7.bl hbX); (try have b11 := b11.bl hbX))
      refine hK.out _ _ ?_ (fun hHeld => ?_)
      · (try dsimp only); (try go_keep)
      clear hK K
      (try simp only [oFlCopy12, Act.put, List.setIfInBounds_toArray, List.set_cons_zero, List.set_cons_succ]))
   | (refine AllReadyH.cons (o := oFlCopy13) rfl (fun K hK => ?_) ?_
      (refine step_buildE rowCell rfl rfl ?_; intro g11 wX b11 hbX hg11a hg11b hgz; have hgy := hbX.size; obtain ⟨hcX, hfX, hzX⟩ := bkn hbX W0.heap.size hz; have hz := hzX; have Bw := Bw.tr hbX; have bR := bR.bl hbX; (try have own1 := own1.below hbX); (try have own2 := own2.below hbX); (try have own3 := own3.below hbX); (try have own4 := own4.below hbX); (try have b3 := b3.bl hbX); (try have b7 := b7.bl hbX); (try have b11 := b11.bl hbX))
      refine hK.out _ _ ?_ (fun hHeld => ?_)
      · (try dsimp only); (try go_keep)
      clear hK K
      (try simp only [oFlCopy13, Act.put, List.setIfInBounds_toArray, List.set_cons_zero, List.set_cons_succ]))
   | (refine AllReadyH.cons (o := oFlCopy14) rfl (fun K hK => ?_) ?_
      (refine step_appE rowCell lenCell oneCell (B := w.heap.size) b11 (by omega) (h4.below RE.stays (B0.tr Bw)) H4.out M4.out rfl _ _ rfl rfl rfl ?_; intro C4 e4 wX own4 hbX hk4 hgz; have hgy := hbX.size; obtain ⟨hcX, hfX, hzX⟩ := bkn hbX W0.heap.size hz; have hz := hzX; have Bw := Bw.tr hbX; have bR := bR.bl hbX; (try have own1 := own1.below hbX); (try have own2 := own2.below hbX); (try have own3 := own3.below hbX); (try have own4 := own4.below hbX); (try have b3 := b3.bl hbX); (try have b7 := b7.bl hbX); (try have b11 := b11.bl hbX))
      refine hK.out _ _ ?_ (fun hHeld => ?_)
      · (try dsimp only); (try go_keep)
      clear hK K
      (try simp only [oFlCopy14, Act.put, List.setIfInBounds_toArray, List.set_cons_zero, List.set_cons_succ]))
   | (refine AllReadyH.cons (o := oFlCopy16) rfl (fun K hK => ?_) ?_
      (refine step_storeRow rfl 34 _ _ rfl gR _ rfl rfl _ _ bR (by kernel_rfl) rfl (by simp [Value.oneCell']) ?_; intro wX bX hgX; have oF : OwnFl w.heap.size wX _ _ _ _ (rows, f, n, cs) := OwnFl.row ⟨own1, own2, own3, own4, fun k q2 q3 => by have e2 := hk2 k q2; have e3 := hk3 k q3; omega⟩ bR (by decide) (by decide) (by decide) hgX; have BX := (B0.tr Bw).grown hgX (B0.tr Bw).size (fun k hk => by injection hk with hk; subst hk; exact hgR); have bPX := (bP.bl Bw).grown hgX (by simp; omega); have c_0 := bPX.cell 0; have c_1 := bPX.cell 1; have c_2 := bPX.cell 2; have c_3 := bPX.cell 3; simp only [List.getElem?_toArray, List.getElem?_cons_zero, List.getElem?_cons_succ] at c_0 c_1 c_2 c_3; clear own1 own2 own3 own4)
      refine hK.out _ _ ?_ (fun hHeld => ?_)
      · (try dsimp only); (try go_keep)
      clear hK K
      (try simp only [oFlCopy16, Act.put, List.setIfInBounds_toArray, List.set_cons_zero, List.set_cons_succ]))
   )
   | ((with_reducible show wpAnyH _ _ _ _ _ _ _ _ _); first
   | (refine wpAnyH_ready (rs := [2, 3, 7, 11]) (by decide +kernel) (by simp) ?_)
   | (refine wpAnyH_ready (rs := [3, 7, 11]) (by decide +kernel) (by simp) ?_)
   | (refine wpAnyH_ready (rs := [6, 7, 11]) (by decide +kernel) (by simp) ?_)
   | (refine wpAnyH_ready (rs := [7, 11]) (by decide +kernel) (by simp) ?_)
   | (refine wpAnyH_ready (rs := [10, 11]) (by decide +kernel) (by simp) ?_)
   | (refine wpAnyH_ready (rs := [11]) (by decide +kernel) (by simp) ?_)
   | (refine wpAnyH_ready (rs := [14]) (by decide +kernel) (by simp) ?_)
   | (refine wpAnyH_ready (rs := [16]) (by decide +kernel) (by simp) ?_)
   | (refine wpAnyH_ready (rs := [10]) (by decide +kernel) (by simp) ?_)
   | (refine wpAnyH_ready (rs := [7]) (by decide +kernel) (by simp) ?_)
   | (refine wpAnyH_ready (rs := [6, 11]) (by decide +kernel) (by simp) ?_)
   | (refine wpAnyH_ready (rs := [6]) (by decide +kernel) (by simp) ?_)
   | (refine wpAnyH_ready (rs := [6, 7]) (by decide +kernel) (by simp) ?_)
   | (refine wpAnyH_ready (rs := [3, 11]) (by decide +kernel) (by simp) ?_)
   | (refine wpAnyH_ready (rs := [3]) (by decide +kernel) (by simp) ?_)
   | (refine wpAnyH_ready (rs := [3, 7]) (by decide +kernel) (by simp) ?_)
   | (refine wpAnyH_ready (rs := [2, 7, 11]) (by decide +kernel) (by simp) ?_)
   | (refine wpAnyH_ready (rs := [2, 11]) (by decide +kernel) (by simp) ?_)
   | (refine wpAnyH_ready (rs := [2]) (by decide +kernel) (by simp) ?_)
   | (refine wpAnyH_ready (rs := [2, 7]) (by decide +kernel) (by simp) ?_)
   | (refine wpAnyH_ready (rs := [2, 3, 11]) (by decide +kernel) (by simp) ?_)
   | (refine wpAnyH_ready (rs := [2, 3]) (by decide +kernel) (by simp) ?_)
   | (refine wpAnyH_ready (rs := [2, 3, 7]) (by decide +kernel) (by simp) ?_)
   | (refine wpAnyH_take (i := 0) (oi := oFlCopy0) (v := ?_) rfl (by decide +kernel) (by decide +kernel) (by decide +kernel) (fun _ _ _ h => h) (Or.inl ⟨by rfl, ?_⟩) (by assumption) ?_
      rotate_left 1
      · (intro wS hSw; (try dsimp only at hSw); dsimp only [oFlCopy0]; go_simp; (all_goals with_reducible rfl))
      simp only [oFlCopy0, Act.put, List.setIfInBounds_toArray, List.set_cons_zero, List.set_cons_succ])
   | (refine wpAnyH_take (i := 1) (oi := oFlCopy1) (v := ?_) rfl (by decide +kernel) (by decide +kernel) (by decide +kernel) (fun _ _ _ h => h) (Or.inl ⟨by rfl, ?_⟩) (by assumption) ?_
      rotate_left 1
      · (intro wS hSw; (try dsimp only at hSw); dsimp only [oFlCopy1]; go_simp; (all_goals with_reducible rfl))
      simp only [oFlCopy1, Act.put, List.setIfInBounds_toArray, List.set_cons_zero, List.set_cons_succ])
   | (refine wpAnyH_take (i := 4) (oi := oFlCopy2) (v := ?_) rfl (by decide +kernel) (by decide +kernel) (by decide +kernel) (fun _ _ _ h => h) (Or.inl ⟨by rfl, ?_⟩) (by assumption) ?_
      rotate_left 1
      · (intro wS hSw; (try dsimp only at hSw); dsimp only [oFlCopy2]; go_simp; (all_goals with_reducible rfl))
      simp only [oFlCopy2, Act.put, List.setIfInBounds_toArray, List.set_cons_zero, List.set_cons_succ])
   | (refine wpAnyH_take (i := 5) (oi := oFlCopy3) (v := ?_) rfl (by decide +kernel) (by decide +kernel) (by decide +kernel) (fun _ _ _ h => h) (Or.inl ⟨by rfl, ?_⟩) (by assumption) ?_
      rotate_left 1
      · (intro wS hSw; (try dsimp only at hSw); dsimp only [oFlCopy3]; go_simp; (all_goals with_reducible rfl))
      simp only [oFlCopy3, Act.put, List.setIfInBounds_toArray, List.set_cons_zero, List.set_cons_succ])
   | (refine wpAnyH_take (i := 8) (oi := oFlCopy4) (v := ?_) rfl (by decide +kernel) (by decide +kernel) (by decide +kernel) (fun _ _ _ h => h) (Or.inl ⟨by rfl, ?_⟩) (by assumption) ?_
      rotate_left 1
      · (intro wS hSw; (try dsimp only at hSw); dsimp only [oFlCopy4]; go_simp; (all_goals with_reducible rfl))
      simp only [oFlCopy4, Act.put, List.setIfInBounds_toArray, List.set_cons_zero, List.set_cons_succ])
   | (refine wpAnyH_take (i := 9) (oi := oFlCopy5) (v := ?_) rfl (by decide +kernel) (by decide +kernel) (by decide +kernel) (fun _ _ _ h => h) (Or.inl ⟨by rfl, ?_⟩) (by assumption) ?_
      rotate_left 1
      · (intro wS hSw; (try dsimp only at hSw); dsimp only [oFlCopy5]; go_simp; (all_goals with_reducible rfl))
      simp only [oFlCopy5, Act.put, List.setIfInBounds_toArray, List.set_cons_zero, List.set_cons_succ])
   | (refine wpAnyH_take (i := 12) (oi := oFlCopy6) (v := ?_) rfl (by decide +kernel) (by decide +kernel) (by decide +kernel) (fun _ _ _ h => h) (Or.inl ⟨by rfl, ?_⟩) (by assumption) ?_
      rotate_left 1
      · (intro wS hSw; (try dsimp only at hSw); dsimp only [oFlCopy6]; go_simp; (all_goals with_reducible rfl))
      simp only [oFlCopy6, Act.put, List.setIfInBounds_toArray, List.set_cons_zero, List.set_cons_succ])
   | (refine wpAnyH_take (i := 13) (oi := oFlCopy7) (v := ?_) rfl (by decide +kernel) (by decide +kernel) (by decide +kernel) (fun _ _ _ h => h) (Or.inl ⟨by rfl, ?_⟩) (by assumption) ?_
      rotate_left 1
      · (intro wS hSw; (try dsimp only at hSw); dsimp only [oFlCopy7]; go_simp; (all_goals with_reducible rfl))
      simp only [oFlCopy7, Act.put, List.setIfInBounds_toArray, List.set_cons_zero, List.set_cons_succ])
   | (refine wpAnyH_take (i := 15) (oi := oFlCopy15) (v := ?_) rfl (by decide +kernel) (by decide +kernel) (by decide +kernel) (fun _ _ _ h => h) (Or.inl ⟨by rfl, ?_⟩) (by assumption) ?_
      rotate_left 1
      · (intro wS hSw; (try dsimp only at hSw); dsimp only [oFlCopy15]; go_simp; (all_goals with_reducible rfl))
      simp only [oFlCopy15, Act.put, List.setIfInBounds_toArray, List.set_cons_zero, List.set_cons_succ])
   | (refine wpAnyH_done (by decide +kernel) ?_ _; refine And.right (a := True) ?_)))
 all_goals (refine ⟨trivial, ?_⟩)
 all_goals
   go_wp2_with fail
   have q_0 := bX.cell 0
   have q_1 := bX.cell 1
   have q_2 := bX.cell 2
   have q_3 := bX.cell 3
   simp only [List.getElem?_toArray, List.getElem?_cons_zero, List.getElem?_cons_succ] at q_0 q_1 q_2 q_3
   refine bodyPost_ret (v := .agg #[.slice C1 rows.length e1, .slice C2 f.length e2, .slice C3 n.length e3, .slice C4 cs.length e4]) (by simp [results, Tryz.results40, go_sem, q_0, q_1, q_2, q_3]) rfl ⟨C1, e1, C2, e2, C3, e3, C4, e4, rfl, oF, BX⟩
end Go.Proofs.YtbjfooibiioooaaGreatDoor
