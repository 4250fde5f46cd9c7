/- WithCell of the reference: the walk. No conditions but sizes. -/
import Derived.Test.YtkbndchgmokabaaWithS
namespace Go.Proofs.Ytkbndchgmokabaa
open Go.ChangeShapes Go.WideShapes Go.ChangeAt Go.RowKit
set_option linter.unusedVariables false

set_option maxRecDepth 100000 in
theorem withCellS_no (v : Value) (rows : List Int) (x y : Int) (on : Bool) (w : World) (h : Rd 1 RInt w v rows) (hl : Small rows.length) (hno : (regionOk rows && cellOk (x, y)) = false) :
    Calls Try.prog 115 #[.agg #[v], .agg #[.int .i64 x, .int .i64 y], .bool on] w (RetRegB rows false w) := by
  obtain ⟨A, c, rfl, hc, hm⟩ := h.form
  have hA := (((Below.refl w.heap.size w).al (.cells #[.slice A rows.length c] 31)).al (.cells #[.int .i64 x, .int .i64 y] 70)).al (.cells #[.slice none 0 0] 31)
  have h' := h.below RE.stays hA
  have hx := Blk.new2 ((w.alloc (.cells #[.slice A rows.length c] 31)).alloc (.cells #[.int .i64 x, .int .i64 y] 70)) 31 #[.slice none 0 0] (w.heap.size + 1 + 1) (by simp)
  rcases hr : regionOk rows with _ | _
  · go_enter Try.func115, Try.ntmps115
    go_wp2_with fail
    refine (copyS_any _ rows _ h' hl).mono ?_
    rintro e w1 ⟨A1, c1, rfl, own1, hb1⟩
    obtain ⟨hc1, hf1, hz1⟩ := bk hb1
    (try simp at hz1)
    have hy1_0 : w.heap.size < w1.heap.size := by omega
    have hy1_1 : w.heap.size + 1 < w1.heap.size := by omega
    have hy1_2 : w.heap.size + 1 + 1 < w1.heap.size := by omega
    have hx1 := (hx.bl hb1).alloc (.cells #[.slice A1 rows.length c1] 31)
    have ho1 := Blk.new_ w1 31 #[.slice A1 rows.length c1]
    go_wp2_with fail
    refine (regionOkS_any _ rows _ ((h'.below RE.stays hb1).below RE.stays ((Below.refl _ _).al _))).mono ?_
    rintro e w2 ⟨rfl, hb2⟩
    obtain ⟨hc2, hf2, hz2⟩ := bk hb2
    (try simp at hz2)
    have hy2_0 : w.heap.size < w2.heap.size := by omega
    have hy2_1 : w.heap.size + 1 < w2.heap.size := by omega
    have hy2_2 : w.heap.size + 1 + 1 < w2.heap.size := by omega
    have hy2_3 : w1.heap.size < w2.heap.size := by omega
    rw [hr]
    have q1 := (ho1.bl hb2).c1
    have q5 := ((hx1.bl hb2).set1 (.slice A1 rows.length c1)).c1
    have B2 := ((hA.tr hb1).al (.cells #[.slice A1 rows.length c1] 31)).tr hb2
    have own2 := (own1.alloc (.cells #[.slice A1 rows.length c1] 31)).below hb2
    go_wp2
    refine bodyPost_ret (v := .tuple #[.agg #[.slice A1 rows.length c1], .bool false]) (by simp [results, Try.results115, go_sem, q5]) rfl ⟨A1, c1, rfl, (own2.low (by simp) _).mono (by simp; omega), B2.st _ _ (by simp; omega)⟩
  · rw [hr, Bool.true_and] at hno
    go_enter Try.func115, Try.ntmps115
    go_wp2_with fail
    refine (copyS_any _ rows _ h' hl).mono ?_
    rintro e w1 ⟨A1, c1, rfl, own1, hb1⟩
    obtain ⟨hc1, hf1, hz1⟩ := bk hb1
    (try simp at hz1)
    have hy1_0 : w.heap.size < w1.heap.size := by omega
    have hy1_1 : w.heap.size + 1 < w1.heap.size := by omega
    have hy1_2 : w.heap.size + 1 + 1 < w1.heap.size := by omega
    have hx1 := (hx.bl hb1).alloc (.cells #[.slice A1 rows.length c1] 31)
    have ho1 := Blk.new_ w1 31 #[.slice A1 rows.length c1]
    go_wp2_with fail
    refine (regionOkS_any _ rows _ ((h'.below RE.stays hb1).below RE.stays ((Below.refl _ _).al _))).mono ?_
    rintro e w2 ⟨rfl, hb2⟩
    obtain ⟨hc2, hf2, hz2⟩ := bk hb2
    (try simp at hz2)
    have hy2_0 : w.heap.size < w2.heap.size := by omega
    have hy2_1 : w.heap.size + 1 < w2.heap.size := by omega
    have hy2_2 : w.heap.size + 1 + 1 < w2.heap.size := by omega
    have hy2_3 : w1.heap.size < w2.heap.size := by omega
    rw [hr]
    go_wp2_with fail
    refine (cellOkS_cl x y _).mono ?_
    rintro e w3 ⟨rfl, hb3⟩
    obtain ⟨hc3, hf3, hz3⟩ := bk hb3
    (try simp at hz3)
    have hy3_0 : w.heap.size < w3.heap.size := by omega
    have hy3_1 : w.heap.size + 1 < w3.heap.size := by omega
    have hy3_2 : w.heap.size + 1 + 1 < w3.heap.size := by omega
    have hy3_3 : w1.heap.size < w3.heap.size := by omega
    rw [hno]
    have q1 := ((ho1.bl hb2).bl hb3).c1
    have q5 := (((hx1.bl hb2).bl hb3).set1 (.slice A1 rows.length c1)).c1
    have B2 := (((hA.tr hb1).al (.cells #[.slice A1 rows.length c1] 31)).tr hb2).tr hb3
    have own2 := ((own1.alloc (.cells #[.slice A1 rows.length c1] 31)).below hb2).below hb3
    go_wp2
    refine bodyPost_ret (v := .tuple #[.agg #[.slice A1 rows.length c1], .bool false]) (by simp [results, Try.results115, go_sem, q5]) rfl ⟨A1, c1, rfl, (own2.low (by simp) _).mono (by simp; omega), B2.st _ _ (by simp; omega)⟩
end Go.Proofs.Ytkbndchgmokabaa
