/- WithCell of the program. No conditions but sizes. -/
import Derived.Test.YtkljkkonhkakgaaReg2
namespace Go.Proofs.Ytkljkkonhkakgaa
open Go.ChangeShapes Go.WideShapes Go.ChangeAt Go.RowKit
set_option linter.unusedVariables false

/-- The call returned a region of its own and a bool, and wrote nothing that was there. -/
def RetRegB (l : List Int) (b : Bool) (w : World) (e : Ending) (w' : World) : Prop := ∃ A c, e = .returned (.tuple #[.agg #[.slice A l.length c], .bool b]) ∧ OwnL 3 1 eInt w.heap.size w' (.slice A l.length c) l ∧ Below w.heap.size w w'
def withSet (s i : Nat) (on : Bool) : Nat := if on then sWith (sWithout s i) i else sWithout s i
def withCell (rows : List Int) (c : Cl) (on : Bool) : List Int × Bool := if regionOk rows && cellOk c then (rowsOf (withSet (setOf rows) (cellIx c).toNat on) 8, true) else (rows, false)

theorem Blk.bl {w w' : World} {g : Nat} {t : TypeId} {cs : Array Value} (h : Blk w g t cs) (hb : Below w.heap.size w w') : Blk w' g t cs := h.below hb h.lt
theorem Blk.set1 {w : World} {g : Nat} {t : TypeId} {v : Value} (h : Blk w g t #[v]) (u : Value) : Blk (w.setCell ⟨g, 0, none⟩ u) g t #[u] := h.set_ 0 u
theorem Blk.new2 (w : World) (t : TypeId) (cs : Array Value) (g : Nat) (hg : g = w.heap.size) : Blk (w.alloc (.cells cs t)) g t cs := by subst hg; exact Blk.new_ w t cs

set_option maxRecDepth 100000 in
theorem withCellI_no (v : Value) (rows : List Int) (x y : Int) (on : Bool) (w : World) (h : Rd 1 RInt w v rows) (hl : Small rows.length) (hno : (regionOk rows && cellOk (x, y)) = false) :
    Calls Try.prog 25 #[.agg #[v], .agg #[.int .i64 x, .int .i64 y], .bool on] w (RetRegB rows false w) := by
  obtain ⟨A, c, rfl, hc, hm⟩ := h.form
  have hA := (((Below.refl w.heap.size w).al (.cells #[.slice A rows.length c] 37)).al (.cells #[.int .i64 x, .int .i64 y] 40)).al (.cells #[.slice none 0 0] 37)
  have h' := h.below RE.stays hA
  have hx := Blk.new2 ((w.alloc (.cells #[.slice A rows.length c] 37)).alloc (.cells #[.int .i64 x, .int .i64 y] 40)) 37 #[.slice none 0 0] (w.heap.size + 1 + 1) (by simp)
  rcases hr : regionOk rows with _ | _
  · go_enter Try.func25, Try.ntmps25
    go_wp2_with fail
    refine (regionOkI_any _ rows _ h').mono ?_
    rintro e w1 ⟨rfl, hb1⟩
    obtain ⟨hc1, hf1, hz1⟩ := bk hb1
    (try simp at hz1)
    have hy1_0 : w.heap.size < w1.heap.size := by omega
    have hy1_1 : w.heap.size + 1 < w1.heap.size := by omega
    have hy1_2 : w.heap.size + 1 + 1 < w1.heap.size := by omega
    rw [hr]
    go_wp2_with fail
    refine (copied_any _ rows _ (h'.below RE.stays hb1) hl).mono ?_
    rintro e w2 ⟨A2, c2, rfl, own2, hb2⟩
    obtain ⟨hc2, hf2, hz2⟩ := bk hb2
    (try simp at hz2)
    have hy2_0 : w.heap.size < w2.heap.size := by omega
    have hy2_1 : w.heap.size + 1 < w2.heap.size := by omega
    have hy2_2 : w.heap.size + 1 + 1 < w2.heap.size := by omega
    have q5 := (((hx.bl hb1).bl hb2).set1 (.slice A2 rows.length c2)).c1
    go_wp2
    refine bodyPost_ret (v := .tuple #[.agg #[.slice A2 rows.length c2], .bool false]) (by simp [results, Try.results25, go_sem, q5]) rfl ⟨A2, c2, rfl, (own2.low (by simp; omega) _).mono (by have := (hA.tr hb1).size; simpa using this), (((hA.tr hb1).tr hb2).st _ _ (by simp; omega))⟩
  · rw [hr, Bool.true_and] at hno
    go_enter Try.func25, Try.ntmps25
    go_wp2_with fail
    refine (regionOkI_any _ rows _ h').mono ?_
    rintro e w1 ⟨rfl, hb1⟩
    obtain ⟨hc1, hf1, hz1⟩ := bk hb1
    (try simp at hz1)
    have hy1_0 : w.heap.size < w1.heap.size := by omega
    have hy1_1 : w.heap.size + 1 < w1.heap.size := by omega
    have hy1_2 : w.heap.size + 1 + 1 < w1.heap.size := by omega
    rw [hr]
    go_wp2_with fail
    refine (cellOkI_any x y _).mono ?_
    rintro e w3 ⟨rfl, hb3⟩
    obtain ⟨hc3, hf3, hz3⟩ := bk hb3
    (try simp at hz3)
    have hy3_0 : w.heap.size < w3.heap.size := by omega
    have hy3_1 : w.heap.size + 1 < w3.heap.size := by omega
    have hy3_2 : w.heap.size + 1 + 1 < w3.heap.size := by omega
    rw [hno]
    go_wp2_with fail
    refine (copied_any _ rows _ ((h'.below RE.stays hb1).below RE.stays hb3) hl).mono ?_
    rintro e w2 ⟨A2, c2, rfl, own2, hb2⟩
    obtain ⟨hc2, hf2, hz2⟩ := bk hb2
    (try simp at hz2)
    have hy2_0 : w.heap.size < w2.heap.size := by omega
    have hy2_1 : w.heap.size + 1 < w2.heap.size := by omega
    have hy2_2 : w.heap.size + 1 + 1 < w2.heap.size := by omega
    have q5 := ((((hx.bl hb1).bl hb3).bl hb2).set1 (.slice A2 rows.length c2)).c1
    go_wp2
    refine bodyPost_ret (v := .tuple #[.agg #[.slice A2 rows.length c2], .bool false]) (by simp [results, Try.results25, go_sem, q5]) rfl ⟨A2, c2, rfl, (own2.low (by simp; omega) _).mono (by have := ((hA.tr hb1).tr hb3).size; simpa using this), ((((hA.tr hb1).tr hb3).tr hb2).st _ _ (by simp; omega))⟩

theorem regionOf8 (s : Nat) (w : World) (hs : s < U64) : Calls Try.prog 105 #[.int .u64 s, .int .i64 8] w (RetReg (rowsOf s 8) w) := regionOf_any s 8 w hs (by decide)
set_option maxHeartbeats 1000000 in
set_option maxRecDepth 100000 in
theorem withCellI_yes (v : Value) (rows : List Int) (x y : Int) (on : Bool) (w : World) (h : Rd 1 RInt w v rows) (hr : regionOk rows = true) (hcell : cellOk (x, y) = true) :
    Calls Try.prog 25 #[.agg #[v], .agg #[.int .i64 x, .int .i64 y], .bool on] w (RetRegB (rowsOf (withSet (setOf rows) (cellIx (x, y)).toNat on) 8) true w) := by
  obtain ⟨A, c, rfl, hc, hm⟩ := h.form
  have hA := (((Below.refl w.heap.size w).al (.cells #[.slice A rows.length c] 37)).al (.cells #[.int .i64 x, .int .i64 y] 40)).al (.cells #[.slice none 0 0] 37)
  have h' := h.below RE.stays hA
  have hx := Blk.new2 ((w.alloc (.cells #[.slice A rows.length c] 37)).alloc (.cells #[.int .i64 x, .int .i64 y] 40)) 37 #[.slice none 0 0] (w.heap.size + 1 + 1) (by simp)
  have Hrows := Lib.hid (regionOk_iff.1 hr)
  obtain ⟨_, hi0, hi63⟩ := cellIx_in hcell
  obtain ⟨s, hse⟩ : ∃ s, s = setOf rows := ⟨_, rfl⟩
  obtain ⟨i, hie⟩ : ∃ i, i = (cellIx (x, y)).toNat := ⟨_, rfl⟩
  have hs : s < U64 := by rw [hse]; exact setOf_lt Hrows.out
  have hi : i < 64 := by omega
  rw [← hse, ← hie]
  have hs1 : sWithout s i < U64 := sDiff_lt hs
  have hs2 : sWith (sWithout s i) i < U64 := sWith_lt hs1 hi
  have Hs := Lib.hid hse; have Hi := Lib.hid hie; clear hse hie hi0 hi63
  go_enter Try.func25, Try.ntmps25
  go_wp2_with fail
  refine (regionOkI_any _ rows _ h').mono ?_
  rintro e w1 ⟨rfl, hb1⟩
  obtain ⟨hc1, hf1, hz1⟩ := bk hb1
  (try simp at hz1)
  have hy1_0 : w.heap.size < w1.heap.size := by omega
  have hy1_1 : w.heap.size + 1 < w1.heap.size := by omega
  have hy1_2 : w.heap.size + 1 + 1 < w1.heap.size := by omega
  rw [hr]
  go_wp2_with fail
  refine (cellOkI_any x y _).mono ?_
  rintro e w3 ⟨rfl, hb3⟩
  obtain ⟨hc3, hf3, hz3⟩ := bk hb3
  (try simp at hz3)
  have hy3_0 : w.heap.size < w3.heap.size := by omega
  have hy3_1 : w.heap.size + 1 < w3.heap.size := by omega
  have hy3_2 : w.heap.size + 1 + 1 < w3.heap.size := by omega
  rw [hcell]
  have B3 := (hA.tr hb1).tr hb3
  have h3 := (h'.below RE.stays hb1).below RE.stays hb3
  go_wp2_with fail
  go_region_with (first | (go_at_call 102; go_must (refine (setI_any _ rows _ (h3.below RE.stays (by first | exact Below.refl _ _ | exact (Below.refl _ _).drew | exact below_drewN (Below.refl _ _) _)) Hrows).mono ?_; rintro e w4 ⟨rfl, hb4⟩; rw [← Hs.out]; obtain ⟨hc4, hf4, hz4⟩ := bkn hb4 (w.heap.size + 3) (by first | (simp; done) | (simp; omega)))) | (go_at_call 103; go_must (refine (withoutI_any s x y _ hs hcell).mono ?_; rintro e w5 ⟨rfl, hb5⟩; rw [← Hi.out]; obtain ⟨hc5, hf5, hz5⟩ := bkn hb5 (w.heap.size + 3) (by first | exact hz4 | (simp; done) | (simp; omega)))))
  all_goals
    have B5 := (B3.drew.tr hb4).tr hb5
    have hx5 := (((hx.bl hb1).bl hb3).drewN 1).bl hb4 |>.bl hb5
    cases on
    · go_wp2_with fail
      refine (regionOf8 _ _ hs1).mono ?_
      rintro e w7 ⟨A7, c7, rfl, own7, hb7⟩
      have hx7 := hx5.bl hb7
      have q5 := hx7.c1
      have q6 := hx7.frozen 0
      have hz7 := hx7.lt
      have q7 := (hx7.set1 (.slice A7 (rowsOf (sWithout s i) 8).length c7)).c1
      go_wp2
      refine bodyPost_ret (v := .tuple #[.agg #[.slice A7 (rowsOf (sWithout s i) 8).length c7], .bool true]) (by simp [results, Try.results25, go_sem, q7]) rfl ⟨A7, c7, rfl, (own7.low (by simp; omega) _).mono B5.size, (B5.tr hb7).st _ _ (by simp; omega)⟩
    · go_wp2_with fail
      refine (withI_any _ x y _ hs1 hcell).mono ?_
      rintro e w6 ⟨rfl, hb6⟩
      rw [← Hi.out]
      go_wp2_with fail
      refine (regionOf8 _ _ hs2).mono ?_
      rintro e w7 ⟨A7, c7, rfl, own7, hb7⟩
      have hx7 := (hx5.bl hb6).bl hb7
      have q5 := hx7.c1
      have q6 := hx7.frozen 0
      have hz7 := hx7.lt
      have q7 := (hx7.set1 (.slice A7 (rowsOf (sWith (sWithout s i) i) 8).length c7)).c1
      have B6 := B5.tr hb6
      have hz6 := hb6.size
      go_wp2
      refine bodyPost_ret (v := .tuple #[.agg #[.slice A7 (rowsOf (sWith (sWithout s i) i) 8).length c7], .bool true]) (by simp [results, Try.results25, go_sem, q7]) rfl ⟨A7, c7, rfl, (own7.low (by simp; omega) _).mono B6.size, (B6.tr hb7).st _ _ (by simp; omega)⟩
end Go.Proofs.Ytkljkkonhkakgaa
