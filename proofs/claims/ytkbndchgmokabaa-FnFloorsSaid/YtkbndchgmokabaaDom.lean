/- Cells and dominoes: validity, ends, order, prices: the walks of the program and of the reference. No conditions but that numbers are ints. -/
import Derived.Test.YtkbndchgmokabaaHold
import Derived.Test.YtkbndchgmokabaaConvDom
import Derived.RegionTactic
import Derived.ChangeAlike
import Derived.BigRegion
namespace Go.Proofs.Ytkbndchgmokabaa
open Go.ChangeShapes Go.WideShapes Go.ChangeAt Go.RowKit
set_option linter.unusedVariables false

abbrev Dm := Int × Int × Bool
abbrev Cl := Int × Int
def cellOk (c : Cl) : Bool := inB c.1 0 7 && inB c.2 0 7
def fst_ (d : Dm) : Cl := (d.1, d.2.1)
def sec (d : Dm) : Cl := if d.2.2 then (d.1, wrap64 (d.2.1 + 1)) else (wrap64 (d.1 + 1), d.2.1)
def domOk (d : Dm) : Bool := cellOk (d.1, d.2.1) && cellOk (sec d)
abbrev aCell (c : Cl) : Value := .agg #[.int .i64 c.1, .int .i64 c.2]
abbrev aDom (d : Dm) : Value := .agg #[.int .i64 d.1, .int .i64 d.2.1, .bool d.2.2]

theorem cellOk_iff {c : Cl} : cellOk c = true ↔ (0 ≤ c.1 ∧ c.1 ≤ 7) ∧ (0 ≤ c.2 ∧ c.2 ≤ 7) := by simp [cellOk, inB]
theorem domOk_fst {d : Dm} (h : domOk d = true) : (0 ≤ d.1 ∧ d.1 ≤ 7) ∧ (0 ≤ d.2.1 ∧ d.2.1 ≤ 7) := by
  unfold domOk at h; rw [Bool.and_eq_true] at h; exact cellOk_iff.1 h.1
theorem domOk_sec {d : Dm} (h : domOk d = true) : (0 ≤ (sec d).1 ∧ (sec d).1 ≤ 7) ∧ (0 ≤ (sec d).2 ∧ (sec d).2 ≤ 7) := by
  unfold domOk at h; rw [Bool.and_eq_true] at h; exact cellOk_iff.1 h.2

theorem cellOkI_any (a b : Int) (w : World) : Calls Try.prog 161 #[.agg #[.int .i64 a, .int .i64 b]] w (Ret (.bool (cellOk (a, b))) w) := by
  go_enter Try.func161, Try.ntmps161
  go_wp2_with (go_at_call 141; (with_reducible refine (within_any _ _ _ _).mono ?_); rintro e w' ⟨rfl, rfl⟩)
  all_goals go_ret
  all_goals exact ⟨by simp_all [cellOk], (Below.refl _ _).al _⟩
theorem cellOkS_cl (a b : Int) (w : World) : Calls Try.prog 154 #[.agg #[.int .i64 a, .int .i64 b]] w (Ret (.bool (cellOk (a, b))) w) := by
  go_enter Try.func154, Try.ntmps154
  go_wp2_with (go_at_call 128; (with_reducible refine (in_any _ _ _ _).mono ?_); rintro e w' ⟨rfl, rfl⟩)
  all_goals go_ret
  all_goals exact ⟨by simp_all [cellOk], (Below.refl _ _).al _⟩

theorem secondS_any (x y : Int) (d : Bool) (w : World) : Calls Try.prog 89 #[.agg #[.int .i64 x, .int .i64 y, .bool d]] w (Ret (aCell (sec (x, y, d))) w) := by
  cases d
  · go_enter Try.func89, Try.ntmps89
    go_wp2
    refine bodyPost_ret (v := .agg #[.int .i64 (wrap64 (x + 1)), .int .i64 y]) (by simp [results, Try.results89, go_sem]) rfl ⟨rfl, ?_⟩
    exact ((Below.refl _ _).al _).al _
  · go_enter Try.func89, Try.ntmps89
    go_wp2
    refine bodyPost_ret (v := .agg #[.int .i64 x, .int .i64 (wrap64 (y + 1))]) (by simp [results, Try.results89, go_sem]) rfl ⟨rfl, ?_⟩
    exact ((Below.refl _ _).al _).al _

theorem endsI_any (x y : Int) (d : Bool) (w : World) : Calls Try.prog 104 #[.agg #[.int .i64 x, .int .i64 y, .bool d]] w (Ret (.tuple #[.agg #[.int .i64 x, .int .i64 y], aCell (sec (x, y, d))]) w) := by
  cases d
  · go_enter Try.func104, Try.ntmps104
    go_wp2_with fail
    go_region
    go_wp2
    refine bodyPost_ret (v := .tuple #[.agg #[.int .i64 x, .int .i64 y], .agg #[.int .i64 (wrap64 (x + 1)), .int .i64 y]]) (by simp [results, Try.results104, go_sem]) rfl ⟨rfl, ?_⟩
    exact ((((Below.refl _ _).al _).al _).al _).drew
  · go_enter Try.func104, Try.ntmps104
    go_wp2_with fail
    go_region
    go_wp2
    refine bodyPost_ret (v := .tuple #[.agg #[.int .i64 x, .int .i64 y], .agg #[.int .i64 x, .int .i64 (wrap64 (y + 1))]]) (by simp [results, Try.results104, go_sem]) rfl ⟨rfl, ?_⟩
    exact ((((Below.refl _ _).al _).al _).al _).drew

theorem domOkS_any (x y : Int) (d : Bool) (w : World) : Calls Try.prog 88 #[.agg #[.int .i64 x, .int .i64 y, .bool d]] w (Ret (.bool (domOk (x, y, d))) w) := by
  rcases hc : cellOk (x, y) with _ | _
  · go_enter Try.func88, Try.ntmps88
    go_wp2_with fail
    refine (cellOkS_cl x y _).mono ?_
    rintro e w1 ⟨rfl, hb1⟩
    rw [hc]
    go_wp2
    go_ret
    exact ⟨by simp [domOk, hc], ((Below.refl _ _).al _).tr hb1⟩
  · go_enter Try.func88, Try.ntmps88
    go_wp2_with fail
    refine (cellOkS_cl x y _).mono ?_
    rintro e w1 ⟨rfl, hb1⟩
    rw [hc]
    obtain ⟨hc1, hf1, hz1⟩ := bk hb1; simp at hz1; have hy1 : w.heap.size < w1.heap.size := by omega
    go_wp2_with fail
    refine (secondS_any x y d _).mono ?_
    rintro e w2 ⟨rfl, hb2⟩
    go_wp2_with fail
    refine (cellOkS_cl _ _ _).mono ?_
    rintro e w3 ⟨rfl, hb3⟩
    go_wp2
    go_ret
    exact ⟨by simp [domOk, hc], ((((Below.refl _ _).al _).tr hb1).tr hb2).tr hb3⟩

theorem domOkI_any (x y : Int) (d : Bool) (w : World) : Calls Try.prog 139 #[.agg #[.int .i64 x, .int .i64 y, .bool d]] w (Ret (.bool (domOk (x, y, d))) w) := by
  obtain ⟨s, hs⟩ : ∃ s, s = sec (x, y, d) := ⟨_, rfl⟩
  have e : domOk (x, y, d) = (cellOk (x, y) && cellOk s) := by rw [hs]; rfl
  rw [e]
  have Hs := Lib.hid hs; clear hs e
  rcases hc : cellOk (x, y) with _ | _
  · go_enter Try.func139, Try.ntmps139
    go_wp2_with fail
    refine (endsI_any x y d _).mono ?_
    rintro e w1 ⟨rfl, hb1⟩
    obtain ⟨hc1, hf1, hz1⟩ := bk hb1
    (try simp at hz1)
    have hy1_0 : w.heap.size < w1.heap.size := by omega
    rw [← Hs.out]
    go_wp2_with fail
    refine (cellOkI_any _ _ _).mono ?_
    rintro e w2 ⟨rfl, hb2⟩
    rw [hc]
    go_wp2
    go_ret
    exact ⟨rfl, (((((Below.refl _ _).al _).tr hb1).al _).al _).tr hb2⟩
  · go_enter Try.func139, Try.ntmps139
    go_wp2_with fail
    refine (endsI_any x y d _).mono ?_
    rintro e w1 ⟨rfl, hb1⟩
    obtain ⟨hc1, hf1, hz1⟩ := bk hb1
    (try simp at hz1)
    have hy1_0 : w.heap.size < w1.heap.size := by omega
    rw [← Hs.out]
    go_wp2_with fail
    refine (cellOkI_any _ _ _).mono ?_
    rintro e w2 ⟨rfl, hb2⟩
    obtain ⟨hc2, hf2, hz2⟩ := bk hb2
    (try simp at hz2)
    have hy2_0 : w1.heap.size < w2.heap.size := by omega
    have hy2_1 : w1.heap.size + 1 < w2.heap.size := by omega
    rw [hc]
    go_wp2_with fail
    refine (cellOkI_any _ _ _).mono ?_
    rintro e w3 ⟨rfl, hb3⟩
    go_wp2
    go_ret
    exact ⟨rfl, ((((((Below.refl _ _).al _).tr hb1).al _).al _).tr hb2).tr hb3⟩

end Go.Proofs.Ytkbndchgmokabaa
