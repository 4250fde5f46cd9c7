/- The laws' copying, comparing, marking and holding of regions, and WithCell of both sides as one function. No conditions but sizes. -/
import Derived.Test.YtkbndchgmokabaaWithS3
import Derived.Test.YtkbndchgmokabaaConvInt
import Derived.Test.YtkbndchgmokabaaConvCell
namespace Go.Proofs.Ytkbndchgmokabaa
open Go.ChangeShapes Go.WideShapes Go.ChangeAt Go.RowKit
set_option linter.unusedVariables false

theorem withCellS_any (v : Value) (rows : List Int) (x y : Int) (on : Bool) (w : World) (h : Rd 1 RInt w v rows) (hl : Small rows.length) :
    Calls Try.prog 115 #[.agg #[v], .agg #[.int .i64 x, .int .i64 y], .bool on] w (RetRegB (withCell rows (x, y) on).1 (withCell rows (x, y) on).2 w) := by
  by_cases hb : (regionOk rows && cellOk (x, y)) = true
  · have hb' := hb
    rw [Bool.and_eq_true] at hb'
    have hc := cellOk_iff.1 hb'.2
    simp only at hc
    obtain ⟨a, rfl⟩ := Int.eq_ofNat_of_zero_le hc.1.1
    obtain ⟨b, rfl⟩ := Int.eq_ofNat_of_zero_le hc.2.1
    have ha : a < 8 := by omega
    have hbb : b < 8 := by omega
    have e := withCellS_yes v rows a b on w h hl hb'.1 ha hbb
    rw [withRows (regionOk_iff.1 hb'.1) ha hbb on] at e
    have hi : (cellIx ((a : Int), (b : Int))).toNat = 8 * b + a := by rw [(cellIx_in hb'.2).1]; simp only; omega
    have hw : withCell rows ((a : Int), (b : Int)) on = (rowsOf (withSet (setOf rows) (8 * b + a) on) 8, true) := by unfold withCell; rw [if_pos hb, hi]
    rw [hw]; exact e
  · have hw : withCell rows (x, y) on = (rows, false) := by unfold withCell; rw [if_neg hb]
    rw [hw]; exact withCellS_no v rows x y on w h hl (by simpa using hb)
theorem withCell_len {rows : List Int} (h : rows.length ≤ 1048576) (c : Cl) (on : Bool) : (withCell rows c on).1.length ≤ 1048576 := by
  unfold withCell; split
  · show (rowsOf _ 8).length ≤ _; rw [rowsOf_len]; decide
  · exact h

theorem toRegion_any (v : Value) (l : List Int) (w : World) (h : Rd 1 RInt w v l) (hl : Small l.length) : Calls Try.prog 18 #[.agg #[v]] w (RetReg l w) := by
  obtain ⟨A, c, rfl, hc, hm⟩ := h.form
  have hA := (((Below.refl w.heap.size w).al (.cells #[.slice A l.length c] 26)).al (.cells #[.slice none 0 0] 31)).al (.cells #[.slice none 0 0] 31)
  have h' := h.below RE.stays hA
  have hx := Blk.new2 (((w.alloc (.cells #[.slice A l.length c] 26)).alloc (.cells #[.slice none 0 0] 31))) 31 #[.slice none 0 0] (w.heap.size + 1 + 1) (by simp)
  have hr := (Blk.new2 (w.alloc (.cells #[.slice A l.length c] 26)) 31 #[.slice none 0 0] (w.heap.size + 1) (by simp)).alloc (.cells #[.slice none 0 0] 31)
  go_enter Try.func18, Try.ntmps18
  go_wp2_with fail
  refine (toInts_any _ l _ h' hl).mono ?_
  rintro e w1 ⟨A1, c1, rfl, own1, hb1⟩
  obtain ⟨hc1, hf1, hz1⟩ := bk hb1
  (try simp at hz1)
  have hy1_0 : w.heap.size < w1.heap.size := by omega
  have hy1_1 : w.heap.size + 1 < w1.heap.size := by omega
  have hy1_2 : w.heap.size + 1 + 1 < w1.heap.size := by omega
  have hx1 := (hx.bl hb1).set1 (.slice A1 l.length c1)
  have hr1 := ((hr.bl hb1).far (p := ⟨w.heap.size + 1 + 1, 0, none⟩) (by simp) (.slice A1 l.length c1)).set1 (.slice A1 l.length c1)
  have q5 := hx1.c1
  have q6 := hr1.c1
  have q7 := ((hr.bl hb1).far (p := ⟨w.heap.size + 1 + 1, 0, none⟩) (by simp) (.slice A1 l.length c1)).frozen 0
  go_wp2
  refine bodyPost_ret (v := .agg #[.slice A1 l.length c1]) (by simp [results, Try.results18, go_sem, q6]) rfl ⟨A1, c1, rfl, (((own1.low (by simp) _).low (by simp) _).mono hA.size), ?_⟩
  exact ((hA.tr hb1).st _ _ (by simp; omega)).st _ _ (by simp)

theorem szRegion_any (v : Value) (l : List Int) (left : Int) (w : World) (h : Rd 1 RInt w v l) (h0 : 0 ≤ left) (h1 : left ≤ 1048576) : Calls Try.prog 15 #[.agg #[v], .int .i64 left] w (Ret (.int .i64 (szOf left l.length)) w) := by
  obtain ⟨A, c, rfl, hc, hm⟩ := h.form
  have h' := h.below RE.stays ((Below.refl _ _).al (.cells #[.slice A l.length c] 26))
  by_cases hn : (l.length : Int) ≤ left
  · have hn2 : ¬ (left - (l.length : Int) < 0) := by omega
    rw [szOf_ok hn]
    have Hs := Lib.hid (szOf_ok hn)
    go_enter Try.func15, Try.ntmps15
    go_wp2_with fail
    refine (szInts_any _ l _ _ h' h0 h1).mono ?_
    rintro e w1 ⟨rfl, rfl⟩
    rw [Hs.out]
    go_wp2
    go_ret
    exact ⟨rfl, (Below.refl _ _).al _⟩
  · rw [szOf_no hn]
    have Hs := Lib.hid (szOf_no hn)
    go_enter Try.func15, Try.ntmps15
    go_wp2_with fail
    refine (szInts_any _ l _ _ h' h0 h1).mono ?_
    rintro e w1 ⟨rfl, rfl⟩
    rw [Hs.out]
    go_wp2
    go_ret
    exact ⟨rfl, (Below.refl _ _).al _⟩

theorem eqRegion_any (u v : Value) (l m : List Int) (w : World) (h : Rd 1 RInt w u l) (h' : Rd 1 RInt w v m) : Calls Try.prog 20 #[.agg #[u], .agg #[v]] w (Ret (.bool (l == m)) w) := by
  obtain ⟨A, c, rfl, hc, hm⟩ := h.form
  obtain ⟨A', c', rfl, hc', hm'⟩ := h'.form
  have hA := ((Below.refl w.heap.size w).al (.cells #[.slice A l.length c] 31)).al (.cells #[.slice A' m.length c'] 31)
  have g := h.below RE.stays hA
  have g' := h'.below RE.stays hA
  obtain ⟨r, hr⟩ : ∃ r, r = (l == m) := ⟨_, rfl⟩
  rw [← hr]
  have Hr := Lib.hid hr; clear hr
  go_enter Try.func20, Try.ntmps20
  go_wp2_with fail
  refine (eqInts_any _ _ l m _ g g').mono ?_
  rintro e w1 ⟨rfl, hb1⟩
  obtain ⟨hc1, hf1, hz1⟩ := bk hb1
  (try simp at hz1)
  have hy1_0 : w.heap.size < w1.heap.size := by omega
  have hy1_1 : w.heap.size + 1 < w1.heap.size := by omega
  rw [← Hr.out]
  cases r
  · go_wp2
    go_ret
    exact ⟨rfl, hA.tr hb1⟩
  · go_wp2
    go_ret
    exact ⟨rfl, hA.tr hb1⟩

theorem markRegion_any (v : Value) (l : List Int) (k : Int) (B : Nat) (w : World) (h : OwnL 3 1 eInt B w v l) (h0 : 0 ≤ k) (h1 : k ≤ 67108864) (hl : l.length ≤ 1048576) :
    Calls Try.prog 35 #[.agg #[v], .int .i64 k] w (Marked (.int .i64 (k + l.length)) v (fun w' => OwnL 3 1 eInt B w' v (marksInt k l.length)) w) := by
  obtain ⟨A, c, rfl, hc, hm⟩ := h.form
  have h' := h.alloc (.cells #[.slice A l.length c] 31)
  go_enter Try.func35, Try.ntmps35
  go_wp2_with fail
  refine (markInts_any _ l k B _ h' h0 h1 hl).mono ?_
  rintro e w1 ⟨rfl, own1, hg1⟩
  go_wp2
  go_ret
  exact ⟨rfl, own1, ⟨hg1.os, hg1.tape, hg1.output, Nat.le_trans (by simp) hg1.size, fun j hj hne => (hg1.block j (by simp; omega) hne).trans (Below.heap_alloc w _ j hj)⟩⟩

theorem heldRegion_any (v : Value) (k : Int) (n : Nat) (w : World) (h : Rd 1 RInt w v (marksInt k n)) (h0 : 0 ≤ k) (h1 : k ≤ 67108864) (hl : n ≤ 1048576) :
    Calls Try.prog 41 #[.agg #[v], .int .i64 k] w (Ret (.int .i64 (k + n)) w) := by
  obtain ⟨A, c, rfl, hc, hm⟩ := h.form
  have h' := h.below RE.stays ((Below.refl _ _).al (.cells #[.slice A (marksInt k n).length c] 31))
  have hn2 : ¬ (k + (n : Int) < 0) := by omega
  go_enter Try.func41, Try.ntmps41
  go_wp2_with fail
  refine (heldInts_any _ k n _ h' h0 h1 hl).mono ?_
  rintro e w1 ⟨rfl, rfl⟩
  go_wp2
  go_ret
  exact ⟨rfl, (Below.refl _ _).al _⟩
end Go.Proofs.Ytkbndchgmokabaa
