/- CellsUnder of the reference. No conditions but a valid domino. -/
import Derived.Test.YtkbndchgmokabaaDom
import Derived.Deep.DeepMust
namespace Go.Proofs.Ytkbndchgmokabaa
open Go.ChangeShapes Go.WideShapes Go.ChangeAt Go.RowKit
set_option linter.unusedVariables false

theorem secondS_eq (x y : Int) (d : Bool) (sx sy : Int) (Hs : Hid (sec (x, y, d) = (sx, sy))) (w : World) : Calls Try.prog 89 #[.agg #[.int .i64 x, .int .i64 y, .bool d]] w (Ret (.agg #[.int .i64 sx, .int .i64 sy]) w) := by
  have := secondS_any x y d w
  rw [Hs.out] at this; exact this

set_option maxHeartbeats 1000000 in
set_option maxRecDepth 100000 in
theorem underS_any (x y : Int) (d : Bool) (w : World) (hd : domOk (x, y, d) = true) : Calls Try.prog 114 #[.agg #[.int .i64 x, .int .i64 y, .bool d]] w (Ret (.tuple #[.agg #[.int .i64 x, .int .i64 y], aCell (sec (x, y, d))]) w) := by
  obtain ⟨sx, sy, hs⟩ : ∃ sx sy, sec (x, y, d) = (sx, sy) := ⟨_, _, rfl⟩
  rw [hs]
  have Hs := Lib.hid hs; clear hs
  go_enter Try.func114, Try.ntmps114
  go_wp2_with fail
  refine (domOkS_any x y d _).mono ?_
  rintro e w1 ⟨rfl, hb1⟩
  obtain ⟨hc1, hf1, hz1⟩ := bk hb1
  (try simp at hz1)
  have hy1_0 : w.heap.size < w1.heap.size := by omega
  have hy1_1 : w.heap.size + 1 < w1.heap.size := by omega
  have hy1_2 : w.heap.size + 1 + 1 < w1.heap.size := by omega
  rw [hd]
  go_wp2_with fail
  go_region_with (go_at_call 89; go_must (refine (secondS_eq x y d sx sy Hs _).mono ?_; rintro e w2 ⟨rfl, hb2⟩; obtain ⟨hc2, hf2, hz2⟩ := bkn hb2 (w.heap.size + 3) (by first | (simp; done) | (simp; omega)); have hy2_0 : w.heap.size < w2.heap.size := (by omega); have hy2_1 : w.heap.size + 1 < w2.heap.size := (by omega); have hy2_2 : w.heap.size + 1 + 1 < w2.heap.size := (by omega); clear hz2))
  all_goals go_wp2
  all_goals
    refine bodyPost_ret (v := .tuple #[.agg #[.int .i64 x, .int .i64 y], .agg #[.int .i64 sx, .int .i64 sy]]) (by simp [results, Try.results114, go_sem, *]) rfl ⟨rfl, ?_⟩
    have B1 : Below w.heap.size w w1 := ((((Below.refl _ _).al _).al _).al _).tr hb1
    repeat (first | (with_reducible exact B1) | (with_reducible refine Below.tr ?_ hb2) | (with_reducible refine Below.drew ?_) | (with_reducible refine Below.st ?_ _ _ ?_) | exact Nat.le_succ _ | exact Nat.le_add_right _ 2)
end Go.Proofs.Ytkbndchgmokabaa
