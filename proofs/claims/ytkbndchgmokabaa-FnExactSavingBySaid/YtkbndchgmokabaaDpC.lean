/- CheapestPrice of the program: the walk. No conditions but sizes. -/
import Derived.Test.YtkbndchgmokabaaDpI2
namespace Go.Proofs.Ytkbndchgmokabaa
open Go.ChangeShapes Go.WideShapes Go.ChangeAt Go.RowKit
set_option linter.unusedVariables false
set_option linter.unusedSimpArgs false

set_option maxHeartbeats 2000000 in
set_option maxRecDepth 100000 in
theorem cheapestI_any (p : Pr) (v : Value) (rows : List Int) (w : World) (h : Rd 1 RInt w v rows) : Calls Try.prog 19 #[aPr p, .agg #[v]] w (Ret (.int .i64 (cheapestPrice p rows)) w) := by
  obtain ⟨A, c, rfl, hc, hm⟩ := h.form
  obtain ⟨pa, pb, pc, pd⟩ := p
  have hA := ((Below.refl w.heap.size w).al (.cells #[.int .i64 pa, .int .i64 pb, .int .i64 pc, .int .i64 pd] 29)).al (.cells #[.slice A rows.length c] 31)
  have bP := (Blk.new_ w 29 #[.int .i64 pa, .int .i64 pb, .int .i64 pc, .int .i64 pd]).alloc (.cells #[.slice A rows.length c] 31)
  have hx := Blk.new2 (w.alloc (.cells #[.int .i64 pa, .int .i64 pb, .int .i64 pc, .int .i64 pd] 29)) 31 #[.slice A rows.length c] (w.heap.size + 1) (by simp)
  have h' := h.below RE.stays hA
  rcases hp : pricesOk (pa, pb, pc, pd) with _ | _
  · have e : cheapestPrice (pa, pb, pc, pd) rows = -1 := by unfold cheapestPrice; rw [hp]; rfl
    rw [e]
    go_enter Try.func19, Try.ntmps19
    go_wp2_with fail
    refine (pricesOkI_any pa pb pc pd _).mono ?_
    rintro e w1 ⟨rfl, hb1⟩
    rw [hp]
    go_wp2
    go_ret
    exact ⟨rfl, hA.tr hb1⟩
  · rcases hr : regionOk rows with _ | _
    · have e : cheapestPrice (pa, pb, pc, pd) rows = -1 := by unfold cheapestPrice; rw [hp, hr]; rfl
      rw [e]
      go_enter Try.func19, Try.ntmps19
      go_wp2_with fail
      refine (pricesOkI_any pa pb pc pd _).mono ?_
      rintro e w1 ⟨rfl, hb1⟩
      rw [hp]
      have z1 := (hx.bl hb1).c1
      go_wp2_with fail
      refine (regionOkI_any _ rows _ (h'.below RE.stays hb1)).mono ?_
      rintro e w2 ⟨rfl, hb2⟩
      rw [hr]
      go_wp2
      go_ret
      exact ⟨rfl, (hA.tr hb1).tr hb2⟩
    · have e : cheapestPrice (pa, pb, pc, pd) rows = (cheapDp (pa, pb, pc, pd) (setOf rows) 64).getD 0 0 := by unfold cheapestPrice; rw [hp, hr]; rfl
      rw [e]
      have hok := regionOk_iff.1 hr
      have hs := setOf_lt hok
      have Hok := Lib.hid hok; clear hok e
      go_enter Try.func19, Try.ntmps19
      go_wp2_with fail
      refine (pricesOkI_any pa pb pc pd _).mono ?_
      rintro e w1 ⟨rfl, hb1⟩
      rw [hp]
      have z1 := (hx.bl hb1).c1
      go_wp2_with fail
      refine (regionOkI_any _ rows _ (h'.below RE.stays hb1)).mono ?_
      rintro e w2 ⟨rfl, hb2⟩
      rw [hr]
      clear z1
      have z1 := ((hx.bl hb1).bl hb2).c1
      go_wp2_with fail
      refine (setI_any _ rows _ ((h'.below RE.stays hb1).below RE.stays hb2) Hok).mono ?_
      rintro e w3 ⟨rfl, hb3⟩
      clear z1
      go_wp2_with fail
      refine (profC_any (pa, pb, pc, pd) (setOf rows) w.heap.size _ hs (((bP.bl hb1).bl hb2).bl hb3)).mono ?_
      rintro e w4 ⟨rfl, hb4⟩
      go_wp2
      go_ret
      exact ⟨rfl, (((hA.tr hb1).tr hb2).tr hb3).tr hb4⟩
end Go.Proofs.Ytkbndchgmokabaa
