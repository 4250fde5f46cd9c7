/- The cells of a set and of a region; HasCell, SameCells of the program: the walks. No conditions but sizes. -/
import Derived.Test.YtkljkkonhkakgaaWithI
import Derived.Test.YtkljkkonhkakgaaConvCell
import Derived.Test.YtkljkkonhkakgaaDraw
import Derived.Deep.RegionHeld3
namespace Go.Proofs.Ytkljkkonhkakgaa
open Go.ChangeShapes Go.WideShapes Go.ChangeAt Go.RowKit
set_option linter.unusedVariables false

def ixCell (i : Nat) : Cl := ((i : Int) % 8, (i : Int) / 8)
def cellsTo (s k : Nat) : List Cl := ((List.range k).filter fun i => s.testBit i).map ixCell
theorem cellsTo_succ (s k : Nat) : cellsTo s (k + 1) = cellsTo s k ++ if s.testBit k then [ixCell k] else [] := by
  unfold cellsTo
  rw [List.range_succ, List.filter_append, List.map_append]
  by_cases h : s.testBit k = true
  · rw [if_pos h]; simp [h]
  · rw [if_neg h]; simp [h]
theorem cellsTo_le (s k : Nat) : (cellsTo s k).length ≤ k := by
  unfold cellsTo; rw [List.length_map]; exact Nat.le_trans (List.length_filter_le _ _) (by simp)

theorem cellAtI_any (i : Nat) (w : World) (hi : i ≤ 64) : Calls Try.prog 162 #[.int .i64 i] w (Ret (aCell (ixCell i)) w) := by
  go_enter Try.func162, Try.ntmps162
  go_wp2
  refine bodyPost_ret (v := aCell (ixCell i)) (by simp [results, Try.results162, go_sem, ixCell]) rfl ⟨rfl, ?_⟩
  exact ((Below.refl _ _).al _)

set_option maxRecDepth 100000 in
theorem cellsI_any (s : Nat) (w : World) (hs : s < U64) : Calls Try.prog 107 #[.int .u64 s] w (RetOwn 40 2 ePair (cellsTo s 64) w) := by
  go_enter Try.func107, Try.ntmps107
  go_wp2
  go_loopw [3, 6] (fun s3 s6 wr => ∃ (k : Nat) (A : Option Addr) (c : Nat), k ≤ 64 ∧ s6 = .int .i64 k ∧ s3 = .slice A (cellsTo s k).length c ∧ OwnL 40 2 ePair w.heap.size wr (.slice A (cellsTo s k).length c) (cellsTo s k) ∧ Below w.heap.size w wr) (fun _ i _ => 64 - (intOf i).toNat)
  case atStart => exact ⟨0, _, _, by omega, rfl, rfl, own_mt w _ rfl _ (Nat.le_refl _), (Below.refl _ _).al _⟩
  case round =>
    obtain ⟨k, A, c, hk, rfl, rfl, hown, hbel⟩ := hrel
    by_cases hlt : k < 64
    · have hle := cellsTo_le s k
      have hsucc := cellsTo_succ s k
      have hbit := bit_has (i := k) hs
      obtain ⟨cs, hcs⟩ : ∃ cs, cs = cellsTo s k := ⟨_, rfl⟩
      rw [← hcs] at hle hsucc hown ⊢
      have H8 : Hid ((cs.length + 1) * 16 ≤ 140737488355328) := Lib.hid (by omega)
      have HM : Hid (cs.length + 1 ≤ maxLen) := Lib.hid (by unfold maxLen; omega)
      have Hsucc := Lib.hid hsucc; have Hcs := Lib.hid hcs; clear hsucc hcs
      rcases hb : s.testBit k with _ | _
      · rw [hb] at hbit
        have e : cellsTo s (k + 1) = cs := by rw [Hsucc.out, if_neg (by rw [hb]; simp)]; simp
        have E := Lib.hid e; have Hb := Lib.hid hb; clear e hb
        go_wp2
        go_roundw
        case rel => exact ⟨k + 1, A, c, by omega, by go_num, by rw [E.out], by rw [E.out]; exact hown, hbel⟩
        case measure => simp [intOf]; omega
      · rw [hb] at hbit
        have e : cellsTo s (k + 1) = cs ++ [ixCell k] := by rw [Hsucc.out, if_pos hb]
        have E := Lib.hid e; have Hb := Lib.hid hb; clear e hb
        go_wp2_with fail
        refine (cellAtI_any k _ (by omega)).mono ?_
        rintro e w2 ⟨rfl, hb2⟩
        have own2 := hown.below hb2
        have B2 := hbel.tr hb2
        go_wp2_with (at_builtin; go_must (refine wpList_app1 (enc := ePair) rowCell lenCell oneCell B2 own2 (ixCell k) H8.out HM.out rfl _ _ rfl rfl rfl ?_); intro v4 w4 own4 hb4 hg4 hd4; obtain ⟨A4, c4, rfl, hc4, hm4⟩ := own4.form)
        go_roundw
        case rel => exact ⟨k + 1, A4, c4, by omega, by go_num, by rw [E.out]; simp, by rw [E.out]; exact own4, hb4⟩
        case measure => simp [intOf]; omega
    · obtain rfl : k = 64 := by omega
      go_wp2
      go_ret
      exact ⟨A, c, rfl, hown, hbel⟩

/-- The cells of a region. -/
def regCells (rows : List Int) : List Cl := if regionOk rows then cellsTo (setOf rows) 64 else []
theorem regCells_le (rows : List Int) : (regCells rows).length ≤ 64 := by
  unfold regCells; split
  · exact cellsTo_le _ _
  · simp
theorem cellsOfI_any (v : Value) (rows : List Int) (w : World) (h : Rd 1 RInt w v rows) : Calls Try.prog 31 #[.agg #[v]] w (RetOwn 40 2 ePair (regCells rows) w) := by
  obtain ⟨A, c, rfl, hc, hm⟩ := h.form
  have h' := h.below RE.stays ((Below.refl _ _).al (.cells #[.slice A rows.length c] 37))
  rcases hr : regionOk rows with _ | _
  · have e : regCells rows = [] := by unfold regCells; rw [hr]; rfl
    rw [e]
    go_enter Try.func31, Try.ntmps31
    go_wp2_with fail
    refine (regionOkI_any _ rows _ h').mono ?_
    rintro e w1 ⟨rfl, hb1⟩
    obtain ⟨hc1, hf1, hz1⟩ := bk hb1
    (try simp at hz1)
    have hy1_0 : w.heap.size < w1.heap.size := by omega
    rw [hr]
    go_wp2
    go_ret
    exact ⟨none, 0, rfl, own_nil _, ((Below.refl _ _).al _).tr hb1⟩
  · have e : regCells rows = cellsTo (setOf rows) 64 := by unfold regCells; rw [hr]; rfl
    rw [e]
    have hok := regionOk_iff.1 hr
    have hs := setOf_lt hok
    have Hok := Lib.hid hok; clear hok e
    go_enter Try.func31, Try.ntmps31
    go_wp2_with fail
    refine (regionOkI_any _ rows _ h').mono ?_
    rintro e w1 ⟨rfl, hb1⟩
    obtain ⟨hc1, hf1, hz1⟩ := bk hb1
    (try simp at hz1)
    have hy1_0 : w.heap.size < w1.heap.size := by omega
    rw [hr]
    go_wp2_with fail
    refine (setI_any _ rows _ (h'.below RE.stays hb1) Hok).mono ?_
    rintro e w2 ⟨rfl, hb2⟩
    go_wp2_with fail
    refine (cellsI_any _ _ hs).mono ?_
    rintro e w3 ⟨A3, c3, rfl, own3, hb3⟩
    go_wp2
    go_ret
    have B2 := (((Below.refl _ _).al _).tr hb1).tr hb2
    exact ⟨A3, c3, rfl, own3.mono B2.size, B2.tr hb3⟩
theorem countCellsI_any (v : Value) (rows : List Int) (w : World) (h : Rd 1 RInt w v rows) : Calls Try.prog 26 #[.agg #[v]] w (Ret (.int .i64 (regCells rows).length) w) := by
  obtain ⟨A, c, rfl, hc, hm⟩ := h.form
  have h' := h.below RE.stays ((Below.refl _ _).al (.cells #[.slice A rows.length c] 37))
  go_enter Try.func26, Try.ntmps26
  go_wp2_with fail
  refine (cellsOfI_any _ rows _ h').mono ?_
  rintro e w1 ⟨A1, c1, rfl, own1, hb1⟩
  go_wp2
  go_ret
  exact ⟨rfl, ((Below.refl _ _).al _).tr hb1⟩

def hasCell (rows : List Int) (c : Cl) : Bool := regionOk rows && (cellOk c && (setOf rows).testBit (cellIx c).toNat)
def sameCells (a b : List Int) : Bool := regionOk a && regionOk b && decide (setOf a = setOf b)
set_option maxHeartbeats 1000000 in
set_option maxRecDepth 100000 in
theorem hasCellI_any (v : Value) (rows : List Int) (x y : Int) (w : World) (h : Rd 1 RInt w v rows) : Calls Try.prog 29 #[.agg #[v], .agg #[.int .i64 x, .int .i64 y]] w (Ret (.bool (hasCell rows (x, y))) w) := by
  obtain ⟨A, c, rfl, hc, hm⟩ := h.form
  have hA := ((Below.refl w.heap.size w).al (.cells #[.slice A rows.length c] 37)).al (.cells #[.int .i64 x, .int .i64 y] 40)
  have h' := h.below RE.stays hA
  have hz0 : w.heap.size + 1 + 1 ≤ ((w.alloc (.cells #[.slice A rows.length c] 37)).alloc (.cells #[.int .i64 x, .int .i64 y] 40)).drew.heap.size := by simp
  have Bacc : Below w.heap.size w ((w.alloc (.cells #[.slice A rows.length c] 37)).alloc (.cells #[.int .i64 x, .int .i64 y] 40)).drew := hA.drew
  have HR : Hid (Rd 1 RInt w (.slice A rows.length c) rows) := Lib.hid h
  have hp0 : w.heap.size < w.heap.size + 1 + 1 := by omega
  have hp1 : w.heap.size + 1 < w.heap.size + 1 + 1 := by omega
  clear h'
  rcases hr : regionOk rows with _ | _
  · have e : hasCell rows (x, y) = false := by unfold hasCell; rw [hr]; rfl
    rw [e]
    go_enter Try.func29, Try.ntmps29
    go_wp2_with fail
    go_region_with (go_at_call 33; go_must (refine (regionOkI_any _ rows _ (HR.out.below RE.stays Bacc)).mono ?_; rintro e w1 ⟨rfl, hb1⟩; rw [hr]))
    all_goals
      go_wp2
      go_ret
      exact ⟨rfl, Bacc.tr hb1⟩
  · have hok := regionOk_iff.1 hr
    have hs := setOf_lt hok
    have e : hasCell rows (x, y) = (cellOk (x, y) && (setOf rows).testBit (cellIx (x, y)).toNat) := by unfold hasCell; rw [hr]; rfl
    rw [e]
    have Hok := Lib.hid hok; clear hok e
    go_enter Try.func29, Try.ntmps29
    go_wp2_with fail
    go_region_held3 (fun w' => w'.cell? ⟨w.heap.size, 0, none⟩ = some (.slice A rows.length c) ∧ w'.cell? ⟨w.heap.size + 1, 0, none⟩ = some (.int .i64 x) ∧ w'.cell? ⟨w.heap.size + 1, 1, none⟩ = some (.int .i64 y)) (go_keep) (first | (go_at_call 33; go_must (refine (regionOkI_any _ rows _ (HR.out.below RE.stays Bacc)).mono ?_; rintro e w1 ⟨rfl, hb1⟩; rw [hr]; obtain ⟨hc1, hf1, hz1⟩ := bkn hb1 (w.heap.size + 1 + 1) hz0)) | (go_at_call 102; go_must (refine (setI_any _ rows _ (HR.out.below RE.stays (Bacc.tr hb1)) Hok).mono ?_; rintro e w2 ⟨rfl, hb2⟩; obtain ⟨hc2, hf2, hz2⟩ := bkn hb2 (w.heap.size + 1 + 1) hz1)) | (go_at_call 106; go_must (refine (hasI_any _ x y _ hs).mono ?_; rintro e w3 ⟨rfl, hb3⟩; obtain ⟨hc3, hf3, hz3⟩ := bkn hb3 (w.heap.size + 1 + 1) hz2)))
    go_wp2
    go_ret
    exact ⟨rfl, ((Bacc.tr hb1).tr hb2).tr hb3⟩
end Go.Proofs.Ytkljkkonhkakgaa
