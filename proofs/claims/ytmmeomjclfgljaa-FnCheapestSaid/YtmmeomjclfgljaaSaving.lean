/- SavingBy of both sides, and the law FnExactSavingBy. No conditions. -/
import Derived.Test.YtmmeomjclfgljaaK5
import Derived.Test.YtmmeomjclfgljaaDpL
namespace Go.Proofs.Ytmmeomjclfgljaa
open Go.ChangeShapes Go.WideShapes Go.ChangeAt Go.RowKit
set_option linter.unusedVariables false
set_option linter.unusedSimpArgs false

theorem eqDomsR (u v : Value) (l : List Dm) (w : World) (h : Rd 3 (RE eDom) w u l) (h' : Rd 3 (RE eDom) w v l) : Calls Try.prog 22 #[u, v] w (Ret (.bool true) w) := by
  have := eqDoms_any u v l l w h h'; rw [beq_self_eq_true] at this; exact this
theorem cheapest_in (p : Pr) (rows : List Int) : -1 ≤ cheapestPrice p rows ∧ cheapestPrice p rows ≤ 128000 := by
  unfold cheapestPrice
  split
  · have hl : 0 < (cheapDp p (setOf rows) 64).length := by unfold cheapDp; rw [dp_len]; decide
    have := good_dp p (setOf rows) 64 0 _ (List.getElem?_eq_getElem hl)
    rw [List.getD_eq_getElem?_getD, List.getElem?_eq_getElem hl, Option.getD_some]
    rcases this with h | ⟨a, b, _⟩ <;> omega
  · omega
theorem tiling_len {rows : List Int} {l : List Dm} (h : isTiling rows l = true) : l.length ≤ 32 := by
  unfold isTiling at h
  rw [Bool.and_eq_true] at h
  exact partGo_len (setOf_lt (isPartial_ok h.1).1) (isPartial_ok h.1).2
def savingBy (p : Pr) (rows : List Int) (l : List Dm) : Int := if decide (cheapestPrice p rows < 0) || !isTiling rows l then -1 else floorPrice p l - cheapestPrice p rows
set_option maxHeartbeats 1000000 in
set_option maxRecDepth 100000 in
theorem savingI_any (p : Pr) (v u : Value) (rows : List Int) (l : List Dm) (w : World) (h : Rd 1 RInt w v rows) (h2 : Rd 3 RDom w u l) : Calls Try.prog 42 #[aPr p, .agg #[v], u] w (Ret (.int .i64 (savingBy p rows l)) w) := by
  obtain ⟨A, c, rfl, hc, hm⟩ := h.form
  obtain ⟨A2, c2, rfl, hc2, hm2⟩ := h2.form
  obtain ⟨hC0, hC1⟩ := cheapest_in p rows
  have hF := floorTo_in p l l.length
  obtain ⟨pa, pb, pc, pd⟩ := p
  have hA := ((Below.refl w.heap.size w).al (.cells #[.int .i64 pa, .int .i64 pb, .int .i64 pc, .int .i64 pd] 47)).al (.cells #[.slice A rows.length c] 26)
  have bP := (Blk.new_ w 47 #[.int .i64 pa, .int .i64 pb, .int .i64 pc, .int .i64 pd]).alloc (.cells #[.slice A rows.length c] 26)
  have bX := Blk.new2 (w.alloc (.cells #[.int .i64 pa, .int .i64 pb, .int .i64 pc, .int .i64 pd] 47)) 26 #[.slice A rows.length c] (w.heap.size + 1) (by simp)
  obtain ⟨R, hR⟩ : ∃ R, R = cheapestPrice (pa, pb, pc, pd) rows := ⟨_, rfl⟩
  rw [← hR] at hC0 hC1
  have HR := Lib.hid hR; clear hR
  by_cases hneg : R < 0
  · have e : savingBy (pa, pb, pc, pd) rows l = -1 := by unfold savingBy; rw [← HR.out, if_pos (by simp [hneg])]
    rw [e]; clear e
    go_enter Try.func42, Try.ntmps42
    go_wp2_with fail
    refine (cheapestI_any (pa, pb, pc, pd) _ rows _ (h.below RE.stays hA)).mono ?_
    rintro e w1 ⟨rfl, hb1⟩
    rw [← HR.out]
    go_wp2
    go_ret
    exact ⟨rfl, hA.tr hb1⟩
  · rcases ht : isTiling rows l with _ | _
    · have e : savingBy (pa, pb, pc, pd) rows l = -1 := by unfold savingBy; rw [ht, if_pos (by simp)]
      rw [e]; clear e
      have Ht := Lib.hid ht; clear ht
      go_enter Try.func42, Try.ntmps42
      go_wp2_with fail
      refine (cheapestI_any (pa, pb, pc, pd) _ rows _ (h.below RE.stays hA)).mono ?_
      rintro e w1 ⟨rfl, hb1⟩
      rw [← HR.out]
      have zx := (bX.bl hb1).c1
      go_wp2_with fail
      refine (tilingI_any _ _ rows l _ ((h.below RE.stays hA).below RE.stays hb1) ((h2.below RE.stays hA).below RE.stays hb1)).mono ?_
      rintro e w2 ⟨rfl, hb2⟩
      rw [Ht.out]
      go_wp2
      go_ret
      exact ⟨rfl, (hA.tr hb1).tr hb2⟩
    · have e : savingBy (pa, pb, pc, pd) rows l = floorPrice (pa, pb, pc, pd) l - R := by unfold savingBy; rw [ht, ← HR.out, if_neg (by simp [hneg])]
      rw [e]; clear e
      have hlen := tiling_len ht
      obtain ⟨F, hFe⟩ : ∃ F, F = floorPrice (pa, pb, pc, pd) l := ⟨_, rfl⟩
      have hF' : 0 ≤ F ∧ F ≤ 2000 * l.length := by rw [hFe]; exact hF
      obtain ⟨hF0, hF1⟩ := hF'
      rw [← hFe]
      have HF := Lib.hid hFe; have Ht := Lib.hid ht; clear ht hFe hF
      go_enter Try.func42, Try.ntmps42
      go_wp2_with fail
      refine (cheapestI_any (pa, pb, pc, pd) _ rows _ (h.below RE.stays hA)).mono ?_
      rintro e w1 ⟨rfl, hb1⟩
      rw [← HR.out]
      have zx := (bX.bl hb1).c1
      go_wp2_with fail
      refine (tilingI_any _ _ rows l _ ((h.below RE.stays hA).below RE.stays hb1) ((h2.below RE.stays hA).below RE.stays hb1)).mono ?_
      rintro e w2 ⟨rfl, hb2⟩
      rw [Ht.out]
      clear zx
      have z0 := ((bP.bl hb1).bl hb2).cell 0
      have z1 := ((bP.bl hb1).bl hb2).cell 1
      have z2 := ((bP.bl hb1).bl hb2).cell 2
      have z3 := ((bP.bl hb1).bl hb2).cell 3
      simp only [List.getElem?_toArray, List.getElem?_cons_zero, List.getElem?_cons_succ] at z0 z1 z2 z3
      go_wp2_with fail
      refine (floorPriceI_any (pa, pb, pc, pd) _ l _ (((h2.below RE.stays hA).below RE.stays hb1).below RE.stays hb2) (by omega)).mono ?_
      rintro e w3 ⟨rfl, hb3⟩
      rw [← HF.out]
      go_wp2
      go_ret
      exact ⟨rfl, ((hA.tr hb1).tr hb2).tr hb3⟩
end Go.Proofs.Ytmmeomjclfgljaa
