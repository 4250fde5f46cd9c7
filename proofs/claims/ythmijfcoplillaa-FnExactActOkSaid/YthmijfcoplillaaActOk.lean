/- FnExactActOk: for every Act the law returns true, and its argument reads as before. No conditions. -/
import Derived.Test.YthmijfcoplillaaTypes
import Derived.Test.YthmijfcoplillaaBoxes
namespace Go.Proofs.Ythmijfcoplillaa
open Go.ChangeShapes Go.WideShapes Go.ChangeAt Go.RowKit
set_option linter.unusedVariables false

theorem toAct_any (x : Int × Int × Int) (w : World) :
    Calls Try.prog 16 #[.agg #[.int .i64 x.1, .int .i64 x.2.1, .int .i64 x.2.2]] w (Ret (.agg #[.int .i64 x.1, .int .i64 x.2.1, .int .i64 x.2.2]) w) := by
  go_enter Try.func16, Try.ntmps16
  go_wp2
  refine bodyPost_ret (v := .agg #[.int .i64 x.1, .int .i64 x.2.1, .int .i64 x.2.2]) (by simp [results, Try.results16, go_sem]) rfl ⟨rfl, ?_⟩
  exact (((Below.refl _ _).al _).al _).al _

def actOk (k a b : Int) : Bool :=
  if k == 1 then inB a 0 7 && inB b 0 7
  else if k == 2 then inB a 0 31 && b == 0
  else if k == 3 then inB a 1 100 && b == 0
  else (k == 4 || k == 5) && a == 0 && b == 0

theorem actOkI_any (k a b : Int) (w : World) :
    Calls Try.prog 17 #[.agg #[.int .i64 k, .int .i64 a, .int .i64 b]] w (Ret (.bool (actOk k a b)) w) := by
  go_enter Try.func17, Try.ntmps17
  go_wp2_with (go_at_call 72; (with_reducible refine (within_any _ _ _ _).mono ?_); rintro e w' ⟨rfl, rfl⟩)
  all_goals go_ret
  all_goals exact ⟨by simp_all [actOk], (Below.refl _ _).al _⟩

theorem cellOkS_any (a b : Int) (w : World) :
    Calls Try.prog 70 #[.agg #[.int .i64 a, .int .i64 b]] w (Ret (.bool (inB a 0 7 && inB b 0 7)) w) := by
  go_enter Try.func70, Try.ntmps70
  go_wp2_with (go_at_call 71; (with_reducible refine (in_any _ _ _ _).mono ?_); rintro e w' ⟨rfl, rfl⟩)
  all_goals go_ret
  all_goals exact ⟨by simp_all, (Below.refl _ _).al _⟩

theorem actOkS_any (k a b : Int) (w : World) :
    Calls Try.prog 15 #[.agg #[.int .i64 k, .int .i64 a, .int .i64 b]] w (Ret (.bool (actOk k a b)) w) := by
  go_enter Try.func15, Try.ntmps15
  go_wp2_with (first | (go_at_call 71; (with_reducible refine (in_any _ _ _ _).mono ?_); rintro e w' ⟨rfl, rfl⟩) | (go_at_call 70; (with_reducible refine (cellOkS_any _ _ _).mono ?_); rintro e w1 ⟨rfl, hb1⟩; obtain ⟨hc1, hf1, hz1⟩ := bk hb1; try simp at hz1))
  all_goals go_ret
  all_goals exact ⟨by simp_all [actOk], by first | exact (Below.refl _ _).al _ | exact ((Below.refl _ _).al _).tr hb1⟩

theorem FnExactActOk_walk (w : World) (cs : List Value) (x : Int × Int × Int) (h : RTrip w cs x) (ok : I64 x.1 ∧ I64 x.2.1 ∧ I64 x.2.2) :
    Calls Try.prog 3 #[.agg cs.toArray] w (Ret (.bool true) w) := by
  change cs = _ at h
  subst h
  go_enter Try.func3, Try.ntmps3
  go_wp2_with fail
  refine (toAct_any x _).mono ?_
  rintro e w1 ⟨rfl, hb1⟩; obtain ⟨hc1, hf1, hz1⟩ := bk hb1; simp at hz1; have hy1 : w.heap.size < w1.heap.size := by omega
  go_wp2_with fail
  go_wp2_with (go_at_call 15; (with_reducible refine (actOkS_any _ _ _ _).mono ?_); rintro e w2 ⟨rfl, hb2⟩; obtain ⟨hc2, hf2, hz2⟩ := bk hb2; try simp at hz2; have hy2_0 : w.heap.size < w2.heap.size := by omega)
  refine (toAct_any x _).mono ?_
  rintro e w3 ⟨rfl, hb3⟩; obtain ⟨hc3, hf3, hz3⟩ := bk hb3; have hy1 : w.heap.size < w3.heap.size := by omega
  go_wp2_with (go_at_call 17; (with_reducible refine (actOkI_any _ _ _ _).mono ?_); rintro e w4 ⟨rfl, hb4⟩; obtain ⟨hc4, hf4, hz4⟩ := bk hb4; try simp at hz4; have hy4_0 : w.heap.size < w4.heap.size := by omega)
  go_ret
  exact ⟨rfl, ((((Below.refl _ _).al _).tr hb1).tr hb2 |>.tr hb3).tr hb4⟩
end Go.Proofs.Ythmijfcoplillaa
