/- SavingBy of both sides, and the law FnExactSavingBy. No conditions. -/
import Derived.Test.YtkbndchgmokabaaTilingW
import Derived.Test.YtkbndchgmokabaaDpL
namespace Go.Proofs.Ytkbndchgmokabaa
open Go.ChangeShapes Go.WideShapes Go.ChangeAt Go.RowKit
set_option linter.unusedVariables false
set_option linter.unusedSimpArgs false

theorem eqDomsR (u v : Value) (l : List Dm) (w : World) (h : Rd 3 (RE eDom) w u l) (h' : Rd 3 (RE eDom) w v l) : Calls Try.prog 34 #[u, v] w (Ret (.bool true) w) := by
  have := eqDoms_any u v l l w h h'; rw [beq_self_eq_true] at this; exact this
theorem cheapest_in (p : Pr) (rows : List Int) : -1 ≤ cheapestPrice p rows ∧ cheapestPrice p rows ≤ 128000 := by
  unfold cheapestPrice
  split
  · have hl : 0 < (cheapDp p (setOf rows) 64).length := by unfold cheapDp; rw [dp_len]; decide
    have := good_dp p (setOf rows) 64 0 _ (List.getElem?_eq_getElem hl)
    rw [List.getD_eq_getElem?_getD, List.getElem?_eq_getElem hl, Option.getD_some]
    rcases this with h | ⟨a, b, _⟩ <;> omega
  · omega
theorem tiling_len {rows : List Int} {l : List Dm} (h : isTiling rows l = true) : l.length ≤ 32 := by
  unfold isTiling at h
  rw [Bool.and_eq_true] at h
  exact partGo_len (setOf_lt (isPartial_ok h.1).1) (isPartial_ok h.1).2
def savingBy (p : Pr) (rows : List Int) (l : List Dm) : Int := if decide (cheapestPrice p rows < 0) || !isTiling rows l then -1 else floorPrice p l - cheapestPrice p rows
set_option maxHeartbeats 1000000 in
set_option maxRecDepth 100000 in
theorem savingI_any (p : Pr) (v u : Value) (rows : List Int) (l : List Dm) (w : World) (h : Rd 1 RInt w v rows) (h2 : Rd 3 RDom w u l) : Calls Try.prog 43 #[aPr p, .agg #[v], u] w (Ret (.int .i64 (savingBy p rows l)) w) := by
  obtain ⟨A, c, rfl, hc, hm⟩ := h.form
  obtain ⟨A2, c2, rfl, hc2, hm2⟩ := h2.form
  obtain ⟨hC0, hC1⟩ := cheapest_in p rows
  have hF := floorTo_in p l l.length
  obtain ⟨pa, pb, pc, pd⟩ := p
  have hA := ((Below.refl w.heap.size w).al (.cells #[.int .i64 pa, .int .i64 pb, .int .i64 pc, .int .i64 pd] 29)).al (.cells #[.slice A rows.length c] 31)
  have bP := (Blk.new_ w 29 #[.int .i64 pa, .int .i64 pb, .int .i64 pc, .int .i64 pd]).alloc (.cells #[.slice A rows.length c] 31)
  have bX := Blk.new2 (w.alloc (.cells #[.int .i64 pa, .int .i64 pb, .int .i64 pc, .int .i64 pd] 29)) 31 #[.slice A rows.length c] (w.heap.size + 1) (by simp)
  obtain ⟨R, hR⟩ : ∃ R, R = cheapestPrice (pa, pb, pc, pd) rows := ⟨_, rfl⟩
  rw [← hR] at hC0 hC1
  have HR := Lib.hid hR; clear hR
  by_cases hneg : R < 0
  · have e : savingBy (pa, pb, pc, pd) rows l = -1 := by unfold savingBy; rw [← HR.out, if_pos (by simp [hneg])]
    rw [e]; clear e
    go_enter Try.func43, Try.ntmps43
    go_wp2_with fail
    refine (cheapestI_any (pa, pb, pc, pd) _ rows _ (h.below RE.stays hA)).mono ?_
    rintro e w1 ⟨rfl, hb1⟩
    rw [← HR.out]
    go_wp2
    go_ret
    exact ⟨rfl, hA.tr hb1⟩
  · rcases ht : isTiling rows l with _ | _
    · have e : savingBy (pa, pb, pc, pd) rows l = -1 := by unfold savingBy; rw [ht, if_pos (by simp)]
      rw [e]; clear e
      have Ht := Lib.hid ht; clear ht
      go_enter Try.func43, Try.ntmps43
      go_wp2_with fail
      refine (cheapestI_any (pa, pb, pc, pd) _ rows _ (h.below RE.stays hA)).mono ?_
      rintro e w1 ⟨rfl, hb1⟩
      rw [← HR.out]
      have zx := (bX.bl hb1).c1
      go_wp2_with fail
      refine (tilingI_any _ _ rows l _ ((h.below RE.stays hA).below RE.stays hb1) ((h2.below RE.stays hA).below RE.stays hb1)).mono ?_
      rintro e w2 ⟨rfl, hb2⟩
      rw [Ht.out]
      go_wp2
      go_ret
      exact ⟨rfl, (hA.tr hb1).tr hb2⟩
    · have e : savingBy (pa, pb, pc, pd) rows l = floorPrice (pa, pb, pc, pd) l - R := by unfold savingBy; rw [ht, ← HR.out, if_neg (by simp [hneg])]
      rw [e]; clear e
      have hlen := tiling_len ht
      obtain ⟨F, hFe⟩ : ∃ F, F = floorPrice (pa, pb, pc, pd) l := ⟨_, rfl⟩
      have hF' : 0 ≤ F ∧ F ≤ 2000 * l.length := by rw [hFe]; exact hF
      obtain ⟨hF0, hF1⟩ := hF'
      rw [← hFe]
      have HF := Lib.hid hFe; have Ht := Lib.hid ht; clear ht hFe hF
      go_enter Try.func43, Try.ntmps43
      go_wp2_with fail
      refine (cheapestI_any (pa, pb, pc, pd) _ rows _ (h.below RE.stays hA)).mono ?_
      rintro e w1 ⟨rfl, hb1⟩
      rw [← HR.out]
      have zx := (bX.bl hb1).c1
      go_wp2_with fail
      refine (tilingI_any _ _ rows l _ ((h.below RE.stays hA).below RE.stays hb1) ((h2.below RE.stays hA).below RE.stays hb1)).mono ?_
      rintro e w2 ⟨rfl, hb2⟩
      rw [Ht.out]
      clear zx
      have z0 := ((bP.bl hb1).bl hb2).cell 0
      have z1 := ((bP.bl hb1).bl hb2).cell 1
      have z2 := ((bP.bl hb1).bl hb2).cell 2
      have z3 := ((bP.bl hb1).bl hb2).cell 3
      simp only [List.getElem?_toArray, List.getElem?_cons_zero, List.getElem?_cons_succ] at z0 z1 z2 z3
      go_wp2_with fail
      refine (floorPriceI_any (pa, pb, pc, pd) _ l _ (((h2.below RE.stays hA).below RE.stays hb1).below RE.stays hb2) (by omega)).mono ?_
      rintro e w3 ⟨rfl, hb3⟩
      rw [← HF.out]
      go_wp2
      go_ret
      exact ⟨rfl, ((hA.tr hb1).tr hb2).tr hb3⟩
set_option maxHeartbeats 1000000 in
set_option maxRecDepth 100000 in
theorem savingS_any (p : Pr) (v u : Value) (rows : List Int) (l : List Dm) (w : World) (h : Rd 1 RInt w v rows) (h2 : Rd 3 RDom w u l) : Calls Try.prog 42 #[aPr p, .agg #[v], u] w (Ret (.int .i64 (savingBy p rows l)) w) := by
  obtain ⟨A, c, rfl, hc, hm⟩ := h.form
  obtain ⟨A2, c2, rfl, hc2, hm2⟩ := h2.form
  obtain ⟨hC0, hC1⟩ := cheapest_in p rows
  have hF := floorTo_in p l l.length
  obtain ⟨pa, pb, pc, pd⟩ := p
  have hA := ((Below.refl w.heap.size w).al (.cells #[.int .i64 pa, .int .i64 pb, .int .i64 pc, .int .i64 pd] 29)).al (.cells #[.slice A rows.length c] 31)
  have bP := (Blk.new_ w 29 #[.int .i64 pa, .int .i64 pb, .int .i64 pc, .int .i64 pd]).alloc (.cells #[.slice A rows.length c] 31)
  have bX := Blk.new2 (w.alloc (.cells #[.int .i64 pa, .int .i64 pb, .int .i64 pc, .int .i64 pd] 29)) 31 #[.slice A rows.length c] (w.heap.size + 1) (by simp)
  obtain ⟨R, hR⟩ : ∃ R, R = cheapestPrice (pa, pb, pc, pd) rows := ⟨_, rfl⟩
  rw [← hR] at hC0 hC1
  have HR := Lib.hid hR; clear hR
  by_cases hneg : R < 0
  · have e : savingBy (pa, pb, pc, pd) rows l = -1 := by unfold savingBy; rw [← HR.out, if_pos (by simp [hneg])]
    rw [e]; clear e
    go_enter Try.func42, Try.ntmps42
    go_wp2_with fail
    refine (cheapestS_any (pa, pb, pc, pd) _ rows _ (h.below RE.stays hA)).mono ?_
    rintro e w1 ⟨rfl, hb1⟩
    rw [← HR.out]
    go_wp2
    go_ret
    exact ⟨rfl, hA.tr hb1⟩
  · rcases ht : isTiling rows l with _ | _
    · have e : savingBy (pa, pb, pc, pd) rows l = -1 := by unfold savingBy; rw [ht, if_pos (by simp)]
      rw [e]; clear e
      have Ht := Lib.hid ht; clear ht
      go_enter Try.func42, Try.ntmps42
      go_wp2_with fail
      refine (cheapestS_any (pa, pb, pc, pd) _ rows _ (h.below RE.stays hA)).mono ?_
      rintro e w1 ⟨rfl, hb1⟩
      rw [← HR.out]
      have zx := (bX.bl hb1).c1
      go_wp2_with fail
      refine (tilingS_any _ _ rows l _ ((h.below RE.stays hA).below RE.stays hb1) ((h2.below RE.stays hA).below RE.stays hb1)).mono ?_
      rintro e w2 ⟨rfl, hb2⟩
      rw [Ht.out]
      go_wp2
      go_ret
      exact ⟨rfl, (hA.tr hb1).tr hb2⟩
    · have e : savingBy (pa, pb, pc, pd) rows l = floorPrice (pa, pb, pc, pd) l - R := by unfold savingBy; rw [ht, ← HR.out, if_neg (by simp [hneg])]
      rw [e]; clear e
      have hlen := tiling_len ht
      obtain ⟨F, hFe⟩ : ∃ F, F = floorPrice (pa, pb, pc, pd) l := ⟨_, rfl⟩
      have hF' : 0 ≤ F ∧ F ≤ 2000 * l.length := by rw [hFe]; exact hF
      obtain ⟨hF0, hF1⟩ := hF'
      rw [← hFe]
      have HF := Lib.hid hFe; have Ht := Lib.hid ht; clear ht hFe hF
      go_enter Try.func42, Try.ntmps42
      go_wp2_with fail
      refine (cheapestS_any (pa, pb, pc, pd) _ rows _ (h.below RE.stays hA)).mono ?_
      rintro e w1 ⟨rfl, hb1⟩
      rw [← HR.out]
      have zx := (bX.bl hb1).c1
      go_wp2_with fail
      refine (tilingS_any _ _ rows l _ ((h.below RE.stays hA).below RE.stays hb1) ((h2.below RE.stays hA).below RE.stays hb1)).mono ?_
      rintro e w2 ⟨rfl, hb2⟩
      rw [Ht.out]
      clear zx
      have z0 := ((bP.bl hb1).bl hb2).cell 0
      have z1 := ((bP.bl hb1).bl hb2).cell 1
      have z2 := ((bP.bl hb1).bl hb2).cell 2
      have z3 := ((bP.bl hb1).bl hb2).cell 3
      simp only [List.getElem?_toArray, List.getElem?_cons_zero, List.getElem?_cons_succ] at z0 z1 z2 z3
      go_wp2_with fail
      refine (floorPriceS_any (pa, pb, pc, pd) _ l _ (((h2.below RE.stays hA).below RE.stays hb1).below RE.stays hb2) (by omega)).mono ?_
      rintro e w3 ⟨rfl, hb3⟩
      rw [← HF.out]
      go_wp2
      go_ret
      exact ⟨rfl, ((hA.tr hb1).tr hb2).tr hb3⟩

set_option maxHeartbeats 4000000 in
set_option maxRecDepth 100000 in
theorem FnExactSavingBy_walk (w : World) (cs : List Value) (p : Pr) (hp : RQuad w cs p) (okp : I64 p.1 ∧ I64 p.2.1 ∧ I64 p.2.2.1 ∧ I64 p.2.2.2) (cs2 : List Value) (rows : List Int) (h : RSl 1 RInt w cs2 rows) (okr : AllOk I64 rows)
    (v : Value) (l : List Dm) (h2 : Rd 3 RDom w v l) (okl : AllOk (fun x => I64 x.1 ∧ I64 x.2.1 ∧ Always x.2.2) l) :
    Calls Try.prog 7 #[.agg cs.toArray, .agg cs2.toArray, v] w (Ret (.bool true) w) := by
  change cs = _ at hp
  subst hp
  obtain ⟨pa, pb, pc, pd⟩ := p
  obtain ⟨vr, rfl, hr⟩ := h
  obtain ⟨A, c, rfl, hc, hm⟩ := hr.form
  have hA := ((Below.refl w.heap.size w).al (.cells #[.int .i64 pa, .int .i64 pb, .int .i64 pc, .int .i64 pd] 23)).al (.cells #[.slice A rows.length c] 26)
  by_cases hsz : rows.length ≤ 1048576
  · have hle : (rows.length : Int) ≤ 1048576 := by omega
    by_cases hsz2 : (l.length : Int) ≤ 1048576 - rows.length
    · have hl1 : Small rows.length := hsz
      have hl2 : Small l.length := by unfold Small; omega
      obtain ⟨R, hR⟩ : ∃ R, R = savingBy (pa, pb, pc, pd) rows l := ⟨_, rfl⟩
      have CS : ∀ (v u : Value) (w : World), Rd 1 RInt w v rows → Rd 3 RDom w u l → Calls Try.prog 42 #[aPr (pa, pb, pc, pd), .agg #[v], u] w (Ret (.int .i64 R) w) := fun v u w h h2 => by rw [hR]; exact savingS_any _ v u rows l w h h2
      have CI : ∀ (v u : Value) (w : World), Rd 1 RInt w v rows → Rd 3 RDom w u l → Calls Try.prog 43 #[aPr (pa, pb, pc, pd), .agg #[v], u] w (Ret (.int .i64 R) w) := fun v u w h h2 => by rw [hR]; exact savingI_any _ v u rows l w h h2
      clear hR
      have hP := (Blk.new_ w 23 #[.int .i64 pa, .int .i64 pb, .int .i64 pc, .int .i64 pd]).alloc (.cells #[.slice A rows.length c] 26)
      have hS := Blk.new2 (w.alloc (.cells #[.int .i64 pa, .int .i64 pb, .int .i64 pc, .int .i64 pd] 23)) 26 #[.slice A rows.length c] (w.heap.size + 1) (by simp)
      go_enter Try.func7, Try.ntmps7
      go_wp2_with fail
      refine (szRegion_any _ rows _ _ (hr.below RE.stays hA) (by decide) (by decide)).mono ?_
      rintro e w0 ⟨rfl, hb0⟩
      rw [szOf_ok (by omega)]
      go_wp2_with fail
      refine (szDoms_any _ l _ _ (h2.below RE.stays (hA.tr hb0)) (by omega) (by omega)).mono ?_
      rintro e w1 ⟨rfl, rfl⟩
      rw [szOf_ok hsz2]
      have B0 := hA.tr hb0
      have bP0 := hP.bl hb0
      have bS0 := hS.bl hb0
      clear hP hS hA hb0
      have z0 := bP0.cell 0
      have z1 := bP0.cell 1
      have z2 := bP0.cell 2
      have z3 := bP0.cell 3
      have z4 := bS0.c1
      simp only [List.getElem?_toArray, List.getElem?_cons_zero, List.getElem?_cons_succ] at z0 z1 z2 z3
      have hp0 := bP0.lt
      have hp1 := bS0.lt
      go_wp2_with fail
      go_cut [8] (fun s8 wx => s8 = .int .i64 R ∧ Blk wx w.heap.size 23 #[.int .i64 pa, .int .i64 pb, .int .i64 pc, .int .i64 pd] ∧ Blk wx (w.heap.size + 1) 26 #[.slice A rows.length c] ∧ Below w.heap.size w wx)
      case first =>
        have Bw : Below w0.heap.size w0 w0.drew := (Below.refl _ _).drew
        have hz : w0.heap.size ≤ w0.drew.heap.size := by simp
        refine wp_region_held_drew (S := (fun w' => w'.cell? ⟨w.heap.size, 0, none⟩ = some (.int .i64 pa) ∧ w'.cell? ⟨w.heap.size, 1, none⟩ = some (.int .i64 pb) ∧ w'.cell? ⟨w.heap.size, 2, none⟩ = some (.int .i64 pc) ∧ w'.cell? ⟨w.heap.size, 3, none⟩ = some (.int .i64 pd) ∧ w'.cell? ⟨w.heap.size + 1, 0, none⟩ = some (.slice A rows.length c))) (by kernel_rfl) ?_ (fun hHeld => ?_)
        · (try dsimp only); go_keep
        refine wpAnyH_take (i := 0) (oi := { dst := some 22, op := Go.Op.load 23 (Go.Operand.tmp 3), type := 23, pos := "exact.go:6131", after := #[], guard := none }) (v := ?_) rfl (by kernel_rfl) (by kernel_rfl) (by kernel_rfl) (fun _ _ _ h => h) (Or.inl ⟨by rfl, ?_⟩) (by assumption) ?_
        rotate_left 1
        · (intro wS hSw; (try dsimp only at hSw); go_simp; (all_goals with_reducible rfl))
        simp only [Act.put, List.setIfInBounds_toArray, List.set_cons_zero, List.set_cons_succ]
        refine wpAnyH_take (i := 2) (oi := { dst := some 24, op := Go.Op.load 26 (Go.Operand.tmp 4), type := 26, pos := "exact.go:6131", after := #[], guard := none }) (v := ?_) rfl (by kernel_rfl) (by kernel_rfl) (by kernel_rfl) (fun _ _ _ h => h) (Or.inl ⟨by rfl, ?_⟩) (by assumption) ?_
        rotate_left 1
        · (intro wS hSw; (try dsimp only at hSw); go_simp; (all_goals with_reducible rfl))
        simp only [Act.put, List.setIfInBounds_toArray, List.set_cons_zero, List.set_cons_succ]
        refine wpAnyH_take (i := 4) (oi := { dst := some 26, op := Go.Op.move (Go.Operand.tmp 2), type := 49, pos := "exact.go:6131", after := #[], guard := none }) (v := ?_) rfl (by kernel_rfl) (by kernel_rfl) (by kernel_rfl) (fun _ _ _ h => h) (Or.inl ⟨by rfl, ?_⟩) (by assumption) ?_
        rotate_left 1
        · (intro wS hSw; (try dsimp only at hSw); go_simp; (all_goals with_reducible rfl))
        simp only [Act.put, List.setIfInBounds_toArray, List.set_cons_zero, List.set_cons_succ]
        refine wpAnyH_ready (rs := [1]) (by kernel_rfl) (by simp) ?_
        refine AllReadyH.cons (o := { dst := some 23, op := Go.Op.call { callee := Go.Callee.value (Go.Operand.func 17), args := #[Go.Operand.tmp 22], argTypes := #[23] }, type := 29, pos := "exact.go:6131", after := #[{ on := 0, ground := Go.Ground.data }], guard := none }) rfl (fun K hK => ?_) AllReadyH.nil
        go_simp
        (first | (go_at_call 17; go_must (refine (toPrices_any (pa, pb, pc, pd) _).mono ?_; rintro e wX ⟨rfl, hbX⟩; (try have own1 := own1.below hbX); (try have own2 := own2.below hbX);obtain ⟨hcX, hfX, hzX⟩ := bkn hbX w0.heap.size hz; have hz := hzX; have Bw := Bw.tr hbX); (try go_wp2_with fail)) | (go_at_call 18; go_must (refine (toRegion_any _ rows _ (hr.below RE.stays (B0.tr Bw)) hl1).mono ?_; rintro e wX ⟨A1, c1, rfl, own1, hbX⟩; (try have own2 := own2.below hbX);obtain ⟨hcX, hfX, hzX⟩ := bkn hbX w0.heap.size hz; have hz := hzX; have Bw := Bw.tr hbX); (try go_wp2_with fail)) | (go_at_call 32; go_must (refine (toDoms_any _ l _ (h2.below RE.stays (B0.tr Bw)) hl2).mono ?_; rintro e wX ⟨A2, c2, rfl, own2, hbX⟩; (try have own1 := own1.below hbX);obtain ⟨hcX, hfX, hzX⟩ := bkn hbX w0.heap.size hz; have hz := hzX; have Bw := Bw.tr hbX); (try go_wp2_with fail)) | (go_at_call 42; go_must (refine (CS _ _ _ (own1.rd lenInt (by decide)) (own2.rd lenDom (by decide))).mono ?_; rintro e wX ⟨rfl, hbX⟩; obtain ⟨hcX, hfX, hzX⟩ := bkn hbX w0.heap.size hz; have hz := hzX; have Bw := Bw.tr hbX); (try go_wp2_with fail)))
        refine hK.out _ _ ?_ (fun hHeld => ?_)
        · (try dsimp only); go_keep
        clear hK K
        (try simp only [Act.put, List.setIfInBounds_toArray, List.set_cons_zero, List.set_cons_succ])
        refine wpAnyH_ready (rs := [3]) (by kernel_rfl) (by simp) ?_
        refine AllReadyH.cons (o := { dst := some 25, op := Go.Op.call { callee := Go.Callee.value (Go.Operand.func 18), args := #[Go.Operand.tmp 24], argTypes := #[26] }, type := 31, pos := "exact.go:6131", after := #[{ on := 2, ground := Go.Ground.data }, { on := 1, ground := Go.Ground.chain }], guard := none }) rfl (fun K hK => ?_) AllReadyH.nil
        go_simp
        (first | (go_at_call 17; go_must (refine (toPrices_any (pa, pb, pc, pd) _).mono ?_; rintro e wX ⟨rfl, hbX⟩; (try have own1 := own1.below hbX); (try have own2 := own2.below hbX);obtain ⟨hcX, hfX, hzX⟩ := bkn hbX w0.heap.size hz; have hz := hzX; have Bw := Bw.tr hbX); (try go_wp2_with fail)) | (go_at_call 18; go_must (refine (toRegion_any _ rows _ (hr.below RE.stays (B0.tr Bw)) hl1).mono ?_; rintro e wX ⟨A1, c1, rfl, own1, hbX⟩; (try have own2 := own2.below hbX);obtain ⟨hcX, hfX, hzX⟩ := bkn hbX w0.heap.size hz; have hz := hzX; have Bw := Bw.tr hbX); (try go_wp2_with fail)) | (go_at_call 32; go_must (refine (toDoms_any _ l _ (h2.below RE.stays (B0.tr Bw)) hl2).mono ?_; rintro e wX ⟨A2, c2, rfl, own2, hbX⟩; (try have own1 := own1.below hbX);obtain ⟨hcX, hfX, hzX⟩ := bkn hbX w0.heap.size hz; have hz := hzX; have Bw := Bw.tr hbX); (try go_wp2_with fail)) | (go_at_call 42; go_must (refine (CS _ _ _ (own1.rd lenInt (by decide)) (own2.rd lenDom (by decide))).mono ?_; rintro e wX ⟨rfl, hbX⟩; obtain ⟨hcX, hfX, hzX⟩ := bkn hbX w0.heap.size hz; have hz := hzX; have Bw := Bw.tr hbX); (try go_wp2_with fail)))
        refine hK.out _ _ ?_ (fun hHeld => ?_)
        · (try dsimp only); go_keep
        clear hK K
        (try simp only [Act.put, List.setIfInBounds_toArray, List.set_cons_zero, List.set_cons_succ])
        refine wpAnyH_ready (rs := [5]) (by kernel_rfl) (by simp) ?_
        refine AllReadyH.cons (o := { dst := some 27, op := Go.Op.call { callee := Go.Callee.value (Go.Operand.func 32), args := #[Go.Operand.tmp 26], argTypes := #[49] }, type := 37, pos := "exact.go:6131", after := #[{ on := 4, ground := Go.Ground.data }, { on := 3, ground := Go.Ground.chain }], guard := none }) rfl (fun K hK => ?_) AllReadyH.nil
        go_simp
        (first | (go_at_call 17; go_must (refine (toPrices_any (pa, pb, pc, pd) _).mono ?_; rintro e wX ⟨rfl, hbX⟩; (try have own1 := own1.below hbX); (try have own2 := own2.below hbX);obtain ⟨hcX, hfX, hzX⟩ := bkn hbX w0.heap.size hz; have hz := hzX; have Bw := Bw.tr hbX); (try go_wp2_with fail)) | (go_at_call 18; go_must (refine (toRegion_any _ rows _ (hr.below RE.stays (B0.tr Bw)) hl1).mono ?_; rintro e wX ⟨A1, c1, rfl, own1, hbX⟩; (try have own2 := own2.below hbX);obtain ⟨hcX, hfX, hzX⟩ := bkn hbX w0.heap.size hz; have hz := hzX; have Bw := Bw.tr hbX); (try go_wp2_with fail)) | (go_at_call 32; go_must (refine (toDoms_any _ l _ (h2.below RE.stays (B0.tr Bw)) hl2).mono ?_; rintro e wX ⟨A2, c2, rfl, own2, hbX⟩; (try have own1 := own1.below hbX);obtain ⟨hcX, hfX, hzX⟩ := bkn hbX w0.heap.size hz; have hz := hzX; have Bw := Bw.tr hbX); (try go_wp2_with fail)) | (go_at_call 42; go_must (refine (CS _ _ _ (own1.rd lenInt (by decide)) (own2.rd lenDom (by decide))).mono ?_; rintro e wX ⟨rfl, hbX⟩; obtain ⟨hcX, hfX, hzX⟩ := bkn hbX w0.heap.size hz; have hz := hzX; have Bw := Bw.tr hbX); (try go_wp2_with fail)))
        refine hK.out _ _ ?_ (fun hHeld => ?_)
        · (try dsimp only); go_keep
        clear hK K
        (try simp only [Act.put, List.setIfInBounds_toArray, List.set_cons_zero, List.set_cons_succ])
        refine wpAnyH_ready (rs := [6]) (by kernel_rfl) (by simp) ?_
        refine AllReadyH.cons (o := { dst := some 28, op := Go.Op.call { callee := Go.Callee.value (Go.Operand.func 42), args := #[Go.Operand.tmp 23, Go.Operand.tmp 25, Go.Operand.tmp 27], argTypes := #[29, 31, 37] }, type := 3, pos := "exact.go:6131", after := #[{ on := 1, ground := Go.Ground.data }, { on := 3, ground := Go.Ground.data }, { on := 5, ground := Go.Ground.data }, { on := 5, ground := Go.Ground.chain }], guard := none }) rfl (fun K hK => ?_) AllReadyH.nil
        go_simp
        (first | (go_at_call 17; go_must (refine (toPrices_any (pa, pb, pc, pd) _).mono ?_; rintro e wX ⟨rfl, hbX⟩; (try have own1 := own1.below hbX); (try have own2 := own2.below hbX);obtain ⟨hcX, hfX, hzX⟩ := bkn hbX w0.heap.size hz; have hz := hzX; have Bw := Bw.tr hbX); (try go_wp2_with fail)) | (go_at_call 18; go_must (refine (toRegion_any _ rows _ (hr.below RE.stays (B0.tr Bw)) hl1).mono ?_; rintro e wX ⟨A1, c1, rfl, own1, hbX⟩; (try have own2 := own2.below hbX);obtain ⟨hcX, hfX, hzX⟩ := bkn hbX w0.heap.size hz; have hz := hzX; have Bw := Bw.tr hbX); (try go_wp2_with fail)) | (go_at_call 32; go_must (refine (toDoms_any _ l _ (h2.below RE.stays (B0.tr Bw)) hl2).mono ?_; rintro e wX ⟨A2, c2, rfl, own2, hbX⟩; (try have own1 := own1.below hbX);obtain ⟨hcX, hfX, hzX⟩ := bkn hbX w0.heap.size hz; have hz := hzX; have Bw := Bw.tr hbX); (try go_wp2_with fail)) | (go_at_call 42; go_must (refine (CS _ _ _ (own1.rd lenInt (by decide)) (own2.rd lenDom (by decide))).mono ?_; rintro e wX ⟨rfl, hbX⟩; obtain ⟨hcX, hfX, hzX⟩ := bkn hbX w0.heap.size hz; have hz := hzX; have Bw := Bw.tr hbX); (try go_wp2_with fail)))
        refine hK.out _ _ ?_ (fun hHeld => ?_)
        · (try dsimp only); go_keep
        clear hK K
        (try simp only [Act.put, List.setIfInBounds_toArray, List.set_cons_zero, List.set_cons_succ])
        refine wpAnyH_take (i := 7) (oi := { dst := some 8, op := Go.Op.assign (Go.Operand.tmp 28), type := 3, pos := "exact.go:6131", after := #[{ on := 6, ground := Go.Ground.data }, { on := 6, ground := Go.Ground.chain }, { on := 0, ground := Go.Ground.phase }, { on := 1, ground := Go.Ground.phase }, { on := 2, ground := Go.Ground.phase }, { on := 3, ground := Go.Ground.phase }, { on := 4, ground := Go.Ground.phase }, { on := 5, ground := Go.Ground.phase }, { on := 6, ground := Go.Ground.phase }], guard := none }) (v := ?_) rfl (by kernel_rfl) (by kernel_rfl) (by kernel_rfl) (fun _ _ _ h => h) (Or.inl ⟨by rfl, ?_⟩) (by assumption) ?_
        rotate_left 1
        · (intro wS hSw; (try dsimp only at hSw); go_simp; (all_goals with_reducible rfl))
        simp only [Act.put, List.setIfInBounds_toArray, List.set_cons_zero, List.set_cons_succ]
        refine wpAnyH_done (by kernel_rfl) ?_ _
        all_goals
          go_wp2_with fail
          go_meet
          exact ⟨rfl, bP0.bl Bw, bS0.bl Bw, B0.tr Bw⟩
      case rest =>
        obtain ⟨rfl, bP1, bS1, B1⟩ := hcut
        clear bP0 bS0 B0 z0 z1 z2 z3 z4 hp0 hp1
        have z4 := bS1.c1
        go_wp2_with fail
        refine (toRegion_any _ rows _ (hr.below RE.stays B1) hl1).mono ?_
        rintro e w4 ⟨A4, c4, rfl, own4, hb4⟩
        have B5 := (B1.tr hb4).al (.cells #[.slice A4 rows.length c4] 31)
        have bP5 := (bP1.bl hb4).alloc (.cells #[.slice A4 rows.length c4] 31)
        have bS5 := (bS1.bl hb4).alloc (.cells #[.slice A4 rows.length c4] 31)
        have bX5 := Blk.new_ w4 31 #[.slice A4 rows.length c4]
        have own5 := own4.alloc (.cells #[.slice A4 rows.length c4] 31)
        clear z4
        go_wp2_with fail
        refine (toDoms_any _ l _ (h2.below RE.stays B5) hl2).mono ?_
        rintro e w6 ⟨A6, c6, rfl, own6, hb6⟩
        have B6 := B5.tr hb6
        have bP6 := bP5.bl hb6
        have bS6 := bS5.bl hb6
        have bX6 := bX5.bl hb6
        have own56 := own5.below hb6
        obtain ⟨bx, hbx⟩ : ∃ bx, bx = w4.heap.size := ⟨_, rfl⟩
        rw [← hbx] at bX6 ⊢
        clear hbx bP5 bS5 bX5 own5 B5
        have z0 := bP6.cell 0
        have z1 := bP6.cell 1
        have z2 := bP6.cell 2
        have z3 := bP6.cell 3
        have z4 := bX6.c1
        simp only [List.getElem?_toArray, List.getElem?_cons_zero, List.getElem?_cons_succ] at z0 z1 z2 z3
        have hp0 := bP6.lt
        have hp1 := bX6.lt
        have Bw : Below w6.heap.size w6 w6.drew := (Below.refl _ _).drew
        have hz : w6.heap.size ≤ w6.drew.heap.size := by simp
        go_wp2_with fail
        refine wp_region_held_drew (S := (fun w' => w'.cell? ⟨w.heap.size, 0, none⟩ = some (.int .i64 pa) ∧ w'.cell? ⟨w.heap.size, 1, none⟩ = some (.int .i64 pb) ∧ w'.cell? ⟨w.heap.size, 2, none⟩ = some (.int .i64 pc) ∧ w'.cell? ⟨w.heap.size, 3, none⟩ = some (.int .i64 pd) ∧ w'.cell? ⟨bx, 0, none⟩ = some (.slice A4 rows.length c4))) (by kernel_rfl) ?_ (fun hHeld => ?_)
        · (try dsimp only); go_keep
        refine wpAnyH_take (i := 0) (oi := { dst := some 33, op := Go.Op.load 23 (Go.Operand.tmp 3), type := 23, pos := "exact.go:6134", after := #[], guard := none }) (v := ?_) rfl (by kernel_rfl) (by kernel_rfl) (by kernel_rfl) (fun _ _ _ h => h) (Or.inl ⟨by rfl, ?_⟩) (by assumption) ?_
        rotate_left 1
        · (intro wS hSw; (try dsimp only at hSw); go_simp; (all_goals with_reducible rfl))
        simp only [Act.put, List.setIfInBounds_toArray, List.set_cons_zero, List.set_cons_succ]
        refine wpAnyH_take (i := 2) (oi := { dst := some 35, op := Go.Op.load 31 (Go.Operand.tmp 9), type := 31, pos := "exact.go:6134", after := #[], guard := none }) (v := ?_) rfl (by kernel_rfl) (by kernel_rfl) (by kernel_rfl) (fun _ _ _ h => h) (Or.inl ⟨by rfl, ?_⟩) (by assumption) ?_
        rotate_left 1
        · (intro wS hSw; (try dsimp only at hSw); go_simp; (all_goals with_reducible rfl))
        simp only [Act.put, List.setIfInBounds_toArray, List.set_cons_zero, List.set_cons_succ]
        refine wpAnyH_take (i := 3) (oi := { dst := some 36, op := Go.Op.move (Go.Operand.tmp 10), type := 37, pos := "exact.go:6134", after := #[], guard := none }) (v := ?_) rfl (by kernel_rfl) (by kernel_rfl) (by kernel_rfl) (fun _ _ _ h => h) (Or.inl ⟨by rfl, ?_⟩) (by assumption) ?_
        rotate_left 1
        · (intro wS hSw; (try dsimp only at hSw); go_simp; (all_goals with_reducible rfl))
        simp only [Act.put, List.setIfInBounds_toArray, List.set_cons_zero, List.set_cons_succ]
        refine wpAnyH_ready (rs := [1]) (by kernel_rfl) (by simp) ?_
        refine AllReadyH.cons (o := { dst := some 34, op := Go.Op.call { callee := Go.Callee.value (Go.Operand.func 17), args := #[Go.Operand.tmp 33], argTypes := #[23] }, type := 29, pos := "exact.go:6134", after := #[{ on := 0, ground := Go.Ground.data }], guard := none }) rfl (fun K hK => ?_) AllReadyH.nil
        go_simp
        (first | (go_at_call 17; go_must (refine (toPrices_any (pa, pb, pc, pd) _).mono ?_; rintro e wX ⟨rfl, hbX⟩; obtain ⟨hcX, hfX, hzX⟩ := bkn hbX w6.heap.size hz; have hz := hzX; have Bw := Bw.tr hbX); (try go_wp2_with fail)) | (go_at_call 43; go_must (refine (CI _ _ _ ((own56.below Bw).rd lenInt (by decide)) ((own6.below Bw).rd lenDom (by decide))).mono ?_; rintro e wX ⟨rfl, hbX⟩; obtain ⟨hcX, hfX, hzX⟩ := bkn hbX w6.heap.size hz; have hz := hzX; have Bw := Bw.tr hbX); (try go_wp2_with fail)))
        refine hK.out _ _ ?_ (fun hHeld => ?_)
        · (try dsimp only); go_keep
        clear hK K
        (try simp only [Act.put, List.setIfInBounds_toArray, List.set_cons_zero, List.set_cons_succ])
        refine wpAnyH_ready (rs := [4]) (by kernel_rfl) (by simp) ?_
        refine AllReadyH.cons (o := { dst := some 37, op := Go.Op.call { callee := Go.Callee.value (Go.Operand.func 43), args := #[Go.Operand.tmp 34, Go.Operand.tmp 35, Go.Operand.tmp 36], argTypes := #[29, 31, 37] }, type := 3, pos := "exact.go:6134", after := #[{ on := 1, ground := Go.Ground.data }, { on := 2, ground := Go.Ground.data }, { on := 3, ground := Go.Ground.data }, { on := 1, ground := Go.Ground.chain }], guard := none }) rfl (fun K hK => ?_) AllReadyH.nil
        go_simp
        (first | (go_at_call 17; go_must (refine (toPrices_any (pa, pb, pc, pd) _).mono ?_; rintro e wX ⟨rfl, hbX⟩; obtain ⟨hcX, hfX, hzX⟩ := bkn hbX w6.heap.size hz; have hz := hzX; have Bw := Bw.tr hbX); (try go_wp2_with fail)) | (go_at_call 43; go_must (refine (CI _ _ _ ((own56.below Bw).rd lenInt (by decide)) ((own6.below Bw).rd lenDom (by decide))).mono ?_; rintro e wX ⟨rfl, hbX⟩; obtain ⟨hcX, hfX, hzX⟩ := bkn hbX w6.heap.size hz; have hz := hzX; have Bw := Bw.tr hbX); (try go_wp2_with fail)))
        refine hK.out _ _ ?_ (fun hHeld => ?_)
        · (try dsimp only); go_keep
        clear hK K
        (try simp only [Act.put, List.setIfInBounds_toArray, List.set_cons_zero, List.set_cons_succ])
        refine wpAnyH_take (i := 5) (oi := { dst := some 11, op := Go.Op.assign (Go.Operand.tmp 37), type := 3, pos := "exact.go:6134", after := #[{ on := 4, ground := Go.Ground.data }, { on := 4, ground := Go.Ground.chain }, { on := 0, ground := Go.Ground.phase }, { on := 1, ground := Go.Ground.phase }, { on := 2, ground := Go.Ground.phase }, { on := 3, ground := Go.Ground.phase }, { on := 4, ground := Go.Ground.phase }], guard := none }) (v := ?_) rfl (by kernel_rfl) (by kernel_rfl) (by kernel_rfl) (fun _ _ _ h => h) (Or.inl ⟨by rfl, ?_⟩) (by assumption) ?_
        rotate_left 1
        · (intro wS hSw; (try dsimp only at hSw); go_simp; (all_goals with_reducible rfl))
        simp only [Act.put, List.setIfInBounds_toArray, List.set_cons_zero, List.set_cons_succ]
        refine wpAnyH_done (by kernel_rfl) ?_ _
        have B7 := B6.tr Bw
        have bS7 := bS6.bl Bw
        have bX7 := bX6.bl Bw
        have own57 := own56.below Bw
        have own67 := own6.below Bw
        clear z0 z1 z2 z3 z4 hcX hfX hHeld hp0 hp1 Bw hz
        have zL := bS7.c1
        have zX := bX7.c1
        have hpL := bS7.lt
        have hpX := bX7.lt
        go_wp2_with fail
        obtain ⟨W7, hW7⟩ : ∃ W7, W7 = wX := ⟨_, rfl⟩
        subst hW7
        have Bw : Below W7.heap.size W7 W7.drew := (Below.refl _ _).drew
        have hz : W7.heap.size ≤ W7.drew.heap.size := by simp
        refine wp_region_held_drew (S := (fun w' => w'.cell? ⟨bx, 0, none⟩ = some (.slice A4 rows.length c4) ∧ w'.cell? ⟨w.heap.size + 1, 0, none⟩ = some (.slice A rows.length c))) (by kernel_rfl) ?_ (fun hHeld => ?_)
        · (try dsimp only); go_keep
        refine wpAnyH_take (i := 0) (oi := { dst := some 41, op := Go.Op.load 31 (Go.Operand.tmp 9), type := 31, pos := "exact.go:6138", after := #[], guard := none }) (v := ?_) rfl (by kernel_rfl) (by kernel_rfl) (by kernel_rfl) (fun _ _ _ h => h) (Or.inl ⟨by rfl, ?_⟩) (by assumption) ?_
        rotate_left 1
        · (intro wS hSw; (try dsimp only at hSw); go_simp; (all_goals with_reducible rfl))
        simp only [Act.put, List.setIfInBounds_toArray, List.set_cons_zero, List.set_cons_succ]
        refine wpAnyH_take (i := 1) (oi := { dst := some 42, op := Go.Op.load 26 (Go.Operand.tmp 4), type := 26, pos := "exact.go:6138", after := #[], guard := none }) (v := ?_) rfl (by kernel_rfl) (by kernel_rfl) (by kernel_rfl) (fun _ _ _ h => h) (Or.inl ⟨by rfl, ?_⟩) (by assumption) ?_
        rotate_left 1
        · (intro wS hSw; (try dsimp only at hSw); go_simp; (all_goals with_reducible rfl))
        simp only [Act.put, List.setIfInBounds_toArray, List.set_cons_zero, List.set_cons_succ]
        refine wpAnyH_ready (rs := [2]) (by kernel_rfl) (by simp) ?_
        refine AllReadyH.cons (o := { dst := some 43, op := Go.Op.call { callee := Go.Callee.value (Go.Operand.func 18), args := #[Go.Operand.tmp 42], argTypes := #[26] }, type := 31, pos := "exact.go:6138", after := #[{ on := 1, ground := Go.Ground.data }], guard := none }) rfl (fun K hK => ?_) AllReadyH.nil
        go_simp
        (first | (go_at_call 18; go_must (refine (toRegion_any _ rows _ (hr.below RE.stays (B7.tr Bw)) hl1).mono ?_; rintro e wX ⟨A9, c9, rfl, own9, hbX⟩; obtain ⟨hcX, hfX, hzX⟩ := bkn hbX W7.heap.size hz; have hz := hzX; have Bw := Bw.tr hbX); (try go_wp2_with fail)) | (go_at_call 20; go_must (refine (eqRegion_same _ _ rows _ ((own57.below Bw).rd lenInt (by decide)) (own9.rd lenInt (by decide))).mono ?_; rintro e wX ⟨rfl, hbX⟩; obtain ⟨hcX, hfX, hzX⟩ := bkn hbX W7.heap.size hz; have hz := hzX; have Bw := Bw.tr hbX); (try go_wp2_with fail)))
        refine hK.out _ _ ?_ (fun hHeld => ?_)
        · (try dsimp only); go_keep
        clear hK K
        (try simp only [Act.put, List.setIfInBounds_toArray, List.set_cons_zero, List.set_cons_succ])
        refine wpAnyH_ready (rs := [3]) (by kernel_rfl) (by simp) ?_
        refine AllReadyH.cons (o := { dst := some 44, op := Go.Op.call { callee := Go.Callee.value (Go.Operand.func 20), args := #[Go.Operand.tmp 41, Go.Operand.tmp 43], argTypes := #[31, 31] }, type := 4, pos := "exact.go:6138", after := #[{ on := 0, ground := Go.Ground.data }, { on := 2, ground := Go.Ground.data }, { on := 2, ground := Go.Ground.chain }], guard := none }) rfl (fun K hK => ?_) AllReadyH.nil
        go_simp
        (first | (go_at_call 18; go_must (refine (toRegion_any _ rows _ (hr.below RE.stays (B7.tr Bw)) hl1).mono ?_; rintro e wX ⟨A9, c9, rfl, own9, hbX⟩; obtain ⟨hcX, hfX, hzX⟩ := bkn hbX W7.heap.size hz; have hz := hzX; have Bw := Bw.tr hbX); (try go_wp2_with fail)) | (go_at_call 20; go_must (refine (eqRegion_same _ _ rows _ ((own57.below Bw).rd lenInt (by decide)) (own9.rd lenInt (by decide))).mono ?_; rintro e wX ⟨rfl, hbX⟩; obtain ⟨hcX, hfX, hzX⟩ := bkn hbX W7.heap.size hz; have hz := hzX; have Bw := Bw.tr hbX); (try go_wp2_with fail)))
        refine hK.out _ _ ?_ (fun hHeld => ?_)
        · (try dsimp only); go_keep
        clear hK K
        (try simp only [Act.put, List.setIfInBounds_toArray, List.set_cons_zero, List.set_cons_succ])
        refine wpAnyH_take (i := 4) (oi := { dst := some 45, op := Go.Op.unOp Go.UnOp.not 4 (Go.Operand.tmp 44), type := 4, pos := "exact.go:6138", after := #[{ on := 3, ground := Go.Ground.data }], guard := none }) (v := ?_) rfl (by kernel_rfl) (by kernel_rfl) (by kernel_rfl) (fun _ _ _ h => h) (Or.inl ⟨by rfl, ?_⟩) (by assumption) ?_
        rotate_left 1
        · (intro wS hSw; (try dsimp only at hSw); go_simp; (all_goals with_reducible rfl))
        simp only [Act.put, List.setIfInBounds_toArray, List.set_cons_zero, List.set_cons_succ]
        refine wpAnyH_done (by kernel_rfl) ?_ _
        have B8 := B7.tr Bw
        have own68 := own67.below Bw
        clear zL zX hcX hfX hHeld hpL hpX
        go_wp2_with fail
        refine (toDoms_any _ l _ (h2.below RE.stays B8) hl2).mono ?_
        rintro e w10 ⟨A10, c10, rfl, own10, hb10⟩
        go_wp2_with fail
        refine (eqDomsR _ _ l _ ((own68.below hb10).rd lenDom (by decide)) (own10.rd lenDom (by decide))).mono ?_
        rintro e w11 ⟨rfl, hb11⟩
        go_wp2
        go_ret
        exact ⟨rfl, (B8.tr hb10).tr hb11⟩
    · go_enter Try.func7, Try.ntmps7
      go_wp2_with fail
      refine (szRegion_any _ rows _ _ (hr.below RE.stays hA) (by decide) (by decide)).mono ?_
      rintro e w0 ⟨rfl, hb0⟩
      rw [szOf_ok (by omega)]
      go_wp2_with fail
      refine (szDoms_any _ l _ _ (h2.below RE.stays (hA.tr hb0)) (by omega) (by omega)).mono ?_
      rintro e w1 ⟨rfl, rfl⟩
      rw [szOf_no (by omega)]
      go_wp2
      go_ret
      exact ⟨rfl, hA.tr hb0⟩
  · go_enter Try.func7, Try.ntmps7
    go_wp2_with fail
    refine (szRegion_any _ rows _ _ (hr.below RE.stays hA) (by decide) (by decide)).mono ?_
    rintro e w0 ⟨rfl, hb0⟩
    rw [szOf_no (by omega)]
    go_wp2
    go_ret
    exact ⟨rfl, hA.tr hb0⟩
end Go.Proofs.Ytkbndchgmokabaa
