/- Dominoes as sets and in order; IsPartial of the program: the walks. Conditions: valid dominoes where said. -/
import Derived.Test.YtkbndchgmokabaaWithI
import Derived.Test.YtkbndchgmokabaaDom2
import Derived.Test.YtkbndchgmokabaaDraw
import Derived.Deep.RegionHeld3
import Derived.Deep.DeepCutAuto
namespace Go.Proofs.Ytkbndchgmokabaa
open Go.ChangeShapes Go.WideShapes Go.ChangeAt Go.RowKit
set_option linter.unusedVariables false

def domOrd (d : Dm) : Int := 2 * (d.2.1 * 8 + d.1) + if d.2.2 then 1 else 0
def domI (d : Dm) : Nat := (cellIx (d.1, d.2.1)).toNat
def domJ (d : Dm) : Nat := (cellIx (sec d)).toNat
def domSet (d : Dm) : Nat := sWith (sWith 0 (domI d)) (domJ d)
theorem domI_lt {d : Dm} (h : domOk d = true) : domI d < 64 ∧ domJ d < 64 := by
  have h1 : cellOk (d.1, d.2.1) = true := by unfold domOk at h; rw [Bool.and_eq_true] at h; exact h.1
  have h2 : cellOk (sec d) = true := by unfold domOk at h; rw [Bool.and_eq_true] at h; exact h.2
  have a := cellIx_in h1
  have b := cellIx_in h2
  unfold domI domJ; omega
theorem zero_lt_U64 : 0 < U64 := by unfold U64; decide
theorem domSet_lt {d : Dm} (h : domOk d = true) : domSet d < U64 := by
  obtain ⟨a, b⟩ := domI_lt h
  exact sWith_lt (sWith_lt zero_lt_U64 a) b

set_option maxRecDepth 100000 in
theorem orderI_yes (x y : Int) (d : Bool) (w : World) (hd : domOk (x, y, d) = true) : Calls Try.prog 176 #[.agg #[.int .i64 x, .int .i64 y, .bool d]] w (Ret (.int .i64 (domOrd (x, y, d))) w) := by
  have D1 := domOk_fst hd
  simp only at D1
  obtain ⟨⟨x1, x2⟩, y1, y2⟩ := D1
  have hc : cellOk (x, y) = true := by unfold domOk at hd; rw [Bool.and_eq_true] at hd; exact hd.1
  have e := (cellIx_in hc).1
  simp only at e
  have He := Lib.hid e; clear e hc
  cases d
  · go_enter Try.func176, Try.ntmps176
    go_wp2_with fail
    refine (cellIndexI_any x y _).mono ?_
    rintro e w1 ⟨rfl, hb1⟩
    obtain ⟨hc1, hf1, hz1⟩ := bk hb1
    (try simp at hz1)
    have hy1_0 : w.heap.size < w1.heap.size := by omega
    rw [He.out]
    go_wp2
    go_ret
    exact ⟨retI (by simp [domOrd]), ((Below.refl _ _).al _).tr hb1⟩
  · go_enter Try.func176, Try.ntmps176
    go_wp2_with fail
    refine (cellIndexI_any x y _).mono ?_
    rintro e w1 ⟨rfl, hb1⟩
    obtain ⟨hc1, hf1, hz1⟩ := bk hb1
    (try simp at hz1)
    have hy1_0 : w.heap.size < w1.heap.size := by omega
    rw [He.out]
    go_wp2
    go_ret
    exact ⟨retI (by simp [domOrd]), ((Below.refl _ _).al _).tr hb1⟩

theorem domOrd_in {d : Dm} (h : domOk d = true) : 0 ≤ domOrd d ∧ domOrd d ≤ 127 := by
  have D1 := domOk_fst h
  unfold domOrd; split <;> omega
theorem domOkI_of (x y : Int) (d : Bool) (w : World) (hd : domOk (x, y, d) = true) : Calls Try.prog 139 #[.agg #[.int .i64 x, .int .i64 y, .bool d]] w (Ret (.bool true) w) := by
  have := domOkI_any x y d w; rw [hd] at this; exact this
set_option maxHeartbeats 1000000 in
set_option maxRecDepth 100000 in
theorem beforeI_yes (x y : Int) (d : Bool) (x' y' : Int) (d' : Bool) (w : World) (hd : domOk (x, y, d) = true) (hd' : domOk (x', y', d') = true) :
    Calls Try.prog 160 #[.agg #[.int .i64 x, .int .i64 y, .bool d], .agg #[.int .i64 x', .int .i64 y', .bool d']] w (Ret (.bool (decide (domOrd (x, y, d) < domOrd (x', y', d')))) w) := by
  have hA := ((Below.refl w.heap.size w).al (.cells #[.int .i64 x, .int .i64 y, .bool d] 73)).al (.cells #[.int .i64 x', .int .i64 y', .bool d'] 73)
  have hz : w.heap.size + 1 + 1 ≤ ((w.alloc (.cells #[.int .i64 x, .int .i64 y, .bool d] 73)).alloc (.cells #[.int .i64 x', .int .i64 y', .bool d'] 73)).drew.heap.size := by simp
  have Bacc := hA.drew
  have Hd := Lib.hid hd; have Hd' := Lib.hid hd'; clear hd hd'
  have hp0 : w.heap.size < w.heap.size + 1 + 1 := by omega
  have hp1 : w.heap.size + 1 < w.heap.size + 1 + 1 := by omega
  go_enter Try.func160, Try.ntmps160
  go_wp2_with fail
  go_region_held3 (fun w' => w'.cell? ⟨w.heap.size, 0, none⟩ = some (.int .i64 x) ∧ w'.cell? ⟨w.heap.size, 1, none⟩ = some (.int .i64 y) ∧ w'.cell? ⟨w.heap.size, 2, none⟩ = some (.bool d) ∧ w'.cell? ⟨w.heap.size + 1, 0, none⟩ = some (.int .i64 x') ∧ w'.cell? ⟨w.heap.size + 1, 1, none⟩ = some (.int .i64 y') ∧ w'.cell? ⟨w.heap.size + 1, 2, none⟩ = some (.bool d')) (go_keep) (first | (go_at_call 139; go_must (refine (domOkI_of _ _ _ _ (by first | exact Hd.out | exact Hd'.out)).mono ?_; rintro e wX ⟨rfl, hbX⟩; obtain ⟨hcX, hfX, hzX⟩ := bkn hbX (w.heap.size + 1 + 1) hz; have hz := hzX; have Bacc := Bacc.tr hbX)) | (go_at_call 176; go_must (refine (orderI_yes _ _ _ _ (by first | exact Hd.out | exact Hd'.out)).mono ?_; rintro e wX ⟨rfl, hbX⟩; obtain ⟨hcX, hfX, hzX⟩ := bkn hbX (w.heap.size + 1 + 1) hz; have hz := hzX; have Bacc := Bacc.tr hbX)))
  go_wp2
  go_ret
  exact ⟨rfl, Bacc⟩

theorem withI_int (S : Int) (s : Nat) (x y : Int) (w : World) (hS : S = (s : Int)) (hs : s < U64) (hc : cellOk (x, y) = true) : Calls Try.prog 105 #[.int .u64 S, .agg #[.int .i64 x, .int .i64 y]] w (Ret (.int .u64 (sWith s (cellIx (x, y)).toNat : Nat)) w) := by
  subst hS; exact withI_any s x y w hs hc
set_option maxHeartbeats 1000000 in
set_option maxRecDepth 100000 in
theorem domSetI_yes (x y : Int) (d : Bool) (w : World) (hd : domOk (x, y, d) = true) : Calls Try.prog 131 #[.agg #[.int .i64 x, .int .i64 y, .bool d]] w (Ret (.int .u64 (domSet (x, y, d) : Nat)) w) := by
  have h1 : cellOk (x, y) = true := by unfold domOk at hd; rw [Bool.and_eq_true] at hd; exact hd.1
  have h2 : cellOk (sec (x, y, d)) = true := by unfold domOk at hd; rw [Bool.and_eq_true] at hd; exact hd.2
  have hI := (domI_lt hd).1
  have hs1 : sWith 0 (domI (x, y, d)) < U64 := sWith_lt zero_lt_U64 hI
  have e : domSet (x, y, d) = sWith (sWith 0 (cellIx (x, y)).toNat) (cellIx (sec (x, y, d))).toNat := rfl
  have hs1' : sWith 0 (cellIx (x, y)).toNat < U64 := hs1
  obtain ⟨s, hs⟩ : ∃ s, s = sec (x, y, d) := ⟨_, rfl⟩
  rw [← hs] at h2 e
  obtain ⟨sx, sy⟩ := s
  obtain ⟨D, hD⟩ : ∃ D, D = domSet (x, y, d) := ⟨_, rfl⟩
  rw [← hD] at e ⊢
  have H1 := Lib.hid h1; have H2 := Lib.hid h2; have Hs := Lib.hid hs; have He := Lib.hid e; have Hs1 := Lib.hid hs1'
  clear h1 h2 hs e hs1 hs1' hI hD hd
  go_enter Try.func131, Try.ntmps131
  go_wp2_with fail
  refine (endsI_any x y d _).mono ?_
  rintro e w1 ⟨rfl, hb1⟩
  obtain ⟨hc1, hf1, hz1⟩ := bk hb1
  (try simp at hz1)
  have hy1_0 : w.heap.size < w1.heap.size := by omega
  rw [← Hs.out]
  have hA := ((((Below.refl _ _).al _).tr hb1).al (.cells #[.int .i64 x, .int .i64 y] 70)).al (.cells #[.int .i64 sx, .int .i64 sy] 70)
  have hz : w1.heap.size + 1 + 1 ≤ ((w1.alloc (.cells #[.int .i64 x, .int .i64 y] 70)).alloc (.cells #[.int .i64 sx, .int .i64 sy] 70)).drew.heap.size := by simp
  have Bacc := hA.drew
  have hp0 : w1.heap.size < w1.heap.size + 1 + 1 := by omega
  have hp1 : w1.heap.size + 1 < w1.heap.size + 1 + 1 := by omega
  go_wp2_with fail
  go_region_held3 (fun w' => w'.cell? ⟨w1.heap.size, 0, none⟩ = some (.int .i64 x) ∧ w'.cell? ⟨w1.heap.size, 1, none⟩ = some (.int .i64 y) ∧ w'.cell? ⟨w1.heap.size + 1, 0, none⟩ = some (.int .i64 sx) ∧ w'.cell? ⟨w1.heap.size + 1, 1, none⟩ = some (.int .i64 sy)) (go_keep) (first | (go_at_call 105; go_must (refine (withI_int _ _ _ _ _ (by first | exact (rfl : (0 : Int) = ((0 : Nat) : Int)) | rfl) (by first | exact zero_lt_U64 | exact Hs1.out) (by first | exact H1.out | exact H2.out)).mono ?_; rintro e wX ⟨rfl, hbX⟩; obtain ⟨hcX, hfX, hzX⟩ := bkn hbX (w1.heap.size + 1 + 1) hz; have hz := hzX; have Bacc := Bacc.tr hbX)))
  go_wp2
  go_ret
  exact ⟨retU (by rw [He.out]), Bacc⟩

/-- The dominoes of a list cover parts of what is left, in order. -/
def partGo (left : Nat) : Option Dm → List Dm → Bool
  | _, [] => true
  | p, d :: r => domOk d && decide (left &&& domSet d = domSet d) && (match p with | none => true | some e => decide (domOrd e < domOrd d)) && partGo (sDiff left (domSet d)) (some d) r
def isPartial (rows : List Int) (l : List Dm) : Bool := regionOk rows && partGo (setOf rows) none l
end Go.Proofs.Ytkbndchgmokabaa
