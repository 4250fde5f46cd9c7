/- Sets and regions: the walks of the program. No conditions but that a set is a number below 2^64. -/
import Derived.Test.YtkbndchgmokabaaDom
import Derived.Test.YtkbndchgmokabaaSets
namespace Go.Proofs.Ytkbndchgmokabaa
open Go.ChangeShapes Go.WideShapes Go.ChangeAt Go.RowKit
set_option linter.unusedVariables false

def cellIx (c : Cl) : Int := if cellOk c then c.2 * 8 + c.1 else -1
theorem cellIx_in {c : Cl} (h : cellOk c = true) : cellIx c = c.2 * 8 + c.1 ∧ 0 ≤ cellIx c ∧ cellIx c ≤ 63 := by
  have := cellOk_iff.1 h
  unfold cellIx; rw [if_pos h]; omega
theorem bit_has {s i : Nat} (hs : s < U64) : (bits .and .u64 ((s : Int) / 2 ^ i) 1 == 1) = s.testBit i := by
  have e : (s : Int) / 2 ^ i = ((s / 2 ^ i : Nat) : Int) := by simp
  have h1 : s / 2 ^ i < 18446744073709551616 := Nat.lt_of_le_of_lt (Nat.div_le_self _ _) (by unfold U64 at hs; exact hs)
  have h2 := u64_and_nat (s / 2 ^ i) 1 h1 (by decide)
  rw [e, show (1 : Int) = ((1 : Nat) : Int) from rfl, h2, nat_mask1, Nat.testBit_eq_decide_div_mod_eq]
  rw [Bool.eq_iff_iff, beq_iff_eq, decide_eq_true_iff]; omega
theorem wrap_pow {i : Nat} (hi : i ≤ 63) : IntKind.u64.wrap (2 ^ i) = ((2 ^ i : Nat) : Int) := by
  have h := pow_lt_U64 (i := i) (by omega)
  unfold U64 at h
  have e : (2 : Int) ^ i = ((2 ^ i : Nat) : Int) := by simp
  rw [e]
  generalize 2 ^ i = n at h ⊢
  exact IntWalk.u64_in _ (by omega)
theorem bit_with {s i : Nat} (hs : s < U64) (hi : i ≤ 63) : bits .or .u64 (s : Int) (IntKind.u64.wrap (2 ^ i)) = ((sWith s i : Nat) : Int) := by
  rw [wrap_pow hi]
  exact u64_or_nat s (2 ^ i) (by unfold U64 at hs; exact hs) (by have h := pow_lt_U64 (i := i) (by omega); unfold U64 at h; exact h)
theorem bit_without {s i : Nat} (hs : s < U64) (hi : i ≤ 63) : bits .andNot .u64 (s : Int) (IntKind.u64.wrap (2 ^ i)) = ((sWithout s i : Nat) : Int) := by
  rw [wrap_pow hi]
  exact u64_andNot_nat s (2 ^ i) (by unfold U64 at hs; exact hs) (by have h := pow_lt_U64 (i := i) (by omega); unfold U64 at h; exact h)
theorem retU {a b : Int} (h : a = b) : Ending.returned (.int .u64 a) = Ending.returned (.int .u64 b) := by rw [h]
theorem cellIndexI_any (x y : Int) (w : World) : Calls Try.prog 162 #[.agg #[.int .i64 x, .int .i64 y]] w (Ret (.int .i64 (cellIx (x, y))) w) := by
  rcases hc : cellOk (x, y) with _ | _
  · have e : cellIx (x, y) = -1 := by unfold cellIx; rw [hc]; rfl
    rw [e]
    go_enter Try.func162, Try.ntmps162
    go_wp2_with fail
    refine (cellOkI_any x y _).mono ?_
    rintro e w1 ⟨rfl, hb1⟩
    rw [hc]
    go_wp2
    go_ret
    exact ⟨rfl, ((Below.refl _ _).al _).tr hb1⟩
  · have e := (cellIx_in hc).1
    simp only at e
    rw [e]
    have C := cellOk_iff.1 hc
    simp only at C
    obtain ⟨⟨x1, x2⟩, y1, y2⟩ := C
    go_enter Try.func162, Try.ntmps162
    go_wp2_with fail
    refine (cellOkI_any x y _).mono ?_
    rintro e w1 ⟨rfl, hb1⟩
    obtain ⟨hc1, hf1, hz1⟩ := bk hb1
    (try simp at hz1)
    have hy1_0 : w.heap.size < w1.heap.size := by omega
    rw [hc]
    go_wp2
    go_ret
    exact ⟨rfl, ((Below.refl _ _).al _).tr hb1⟩

theorem hasI_any (s : Nat) (x y : Int) (w : World) (hs : s < U64) : Calls Try.prog 102 #[.int .u64 s, .agg #[.int .i64 x, .int .i64 y]] w (Ret (.bool (cellOk (x, y) && s.testBit (cellIx (x, y)).toNat)) w) := by
  rcases hc : cellOk (x, y) with _ | _
  · rw [Bool.false_and]
    go_enter Try.func102, Try.ntmps102
    go_wp2_with fail
    refine (cellOkI_any x y _).mono ?_
    rintro e w1 ⟨rfl, hb1⟩
    rw [hc]
    go_wp2
    go_ret
    exact ⟨rfl, ((Below.refl _ _).al _).tr hb1⟩
  · rw [Bool.true_and]
    obtain ⟨e, h0, h63⟩ := cellIx_in hc
    obtain ⟨i, hi⟩ := Int.eq_ofNat_of_zero_le h0
    rw [hi, Int.toNat_natCast]
    have Hi := Lib.hid hi; have hi63 : i ≤ 63 := by omega
    clear e h0 h63 hi
    go_enter Try.func102, Try.ntmps102
    go_wp2_with fail
    refine (cellOkI_any x y _).mono ?_
    rintro e w1 ⟨rfl, hb1⟩
    obtain ⟨hc1, hf1, hz1⟩ := bk hb1
    (try simp at hz1)
    have hy1_0 : w.heap.size < w1.heap.size := by omega
    rw [hc]
    go_wp2_with fail
    refine (cellIndexI_any x y _).mono ?_
    rintro e w2 ⟨rfl, hb2⟩
    rw [Hi.out]
    go_wp2
    go_ret
    exact ⟨retB (bit_has hs), (((Below.refl _ _).al _).tr hb1).tr hb2⟩
theorem withI_any (s : Nat) (x y : Int) (w : World) (hs : s < U64) (hc : cellOk (x, y) = true) : Calls Try.prog 105 #[.int .u64 s, .agg #[.int .i64 x, .int .i64 y]] w (Ret (.int .u64 (sWith s (cellIx (x, y)).toNat : Nat)) w) := by
  obtain ⟨e, h0, h63⟩ := cellIx_in hc
  obtain ⟨i, hi⟩ := Int.eq_ofNat_of_zero_le h0
  rw [hi, Int.toNat_natCast]
  have Hi := Lib.hid hi; have hi63 : i ≤ 63 := by omega
  clear e h0 h63 hi
  go_enter Try.func105, Try.ntmps105
  go_wp2_with fail
  refine (cellIndexI_any x y _).mono ?_
  rintro e w2 ⟨rfl, hb2⟩
  rw [Hi.out]
  go_wp2
  go_ret
  exact ⟨retU (bit_with hs hi63), ((Below.refl _ _).al _).tr hb2⟩
def regionOk (rows : List Int) : Bool := decide (rows.length ≤ 8) && allIn 0 255 rows
theorem regionOk_iff {rows : List Int} : regionOk rows = true ↔ RowsOk rows := by
  unfold regionOk RowsOk; rw [Bool.and_eq_true, decide_eq_true_iff, allIn_iff]

theorem regionOkI_any (v : Value) (rows : List Int) (w : World) (h : Rd 1 RInt w v rows) : Calls Try.prog 92 #[.agg #[v]] w (Ret (.bool (regionOk rows)) w) := by
  obtain ⟨A, c, rfl, hc, hm⟩ := h.form
  have h' := h.below RE.stays ((Below.refl _ _).al (.cells #[.slice A rows.length c] 31))
  unfold regionOk
  by_cases h8 : (rows.length : Int) ≤ 8
  · have e : decide (rows.length ≤ 8) = true := by simp; omega
    rw [e, Bool.true_and]
    go_enter Try.func92, Try.ntmps92
    go_wp2_with fail
    refine (allWithin_any _ rows _ _ _ h').mono ?_
    rintro e w1 ⟨rfl, rfl⟩
    go_wp2
    go_ret
    exact ⟨rfl, (Below.refl _ _).al _⟩
  · have e : decide (rows.length ≤ 8) = false := by simp; omega
    rw [e, Bool.false_and]
    go_enter Try.func92, Try.ntmps92
    go_wp2
    go_ret
    exact ⟨rfl, (Below.refl _ _).al _⟩

theorem shl_row {r : Int} {y : Nat} (h0 : 0 ≤ r) (h1 : r ≤ 255) (hy : y < 8) : IntKind.u64.wrap (r * 2 ^ (8 * y)) = ((r.toNat <<< (8 * y) : Nat) : Int) ∧ r.toNat <<< (8 * y) < U64 := by
  obtain ⟨n, rfl⟩ := Int.eq_ofNat_of_zero_le h0
  have hn : n < 2 ^ 8 := by omega
  have hlt : n * 2 ^ (8 * y) < 2 ^ 64 := calc n * 2 ^ (8 * y) < 2 ^ 8 * 2 ^ (8 * y) := Nat.mul_lt_mul_of_pos_right hn (Nat.pow_pos (by decide))
      _ = 2 ^ (8 + 8 * y) := by rw [Nat.pow_add]
      _ ≤ 2 ^ 64 := Nat.pow_le_pow_right (by decide) (by omega)
  rw [Int.toNat_natCast, Nat.shiftLeft_eq]
  refine ⟨?_, hlt⟩
  have e : (n : Int) * 2 ^ (8 * y) = ((n * 2 ^ (8 * y) : Nat) : Int) := by simp
  rw [e]
  generalize n * 2 ^ (8 * y) = m at hlt ⊢
  exact IntWalk.u64_in _ (by omega)
theorem or_row {s : Nat} {r : Int} {y : Nat} (hs : s < U64) (h0 : 0 ≤ r) (h1 : r ≤ 255) (hy : y < 8) : bits .or .u64 (s : Int) (IntKind.u64.wrap (r * 2 ^ (8 * y))) = ((s ||| r.toNat <<< (8 * y) : Nat) : Int) ∧ s ||| r.toNat <<< (8 * y) < U64 := by
  obtain ⟨e, hl⟩ := shl_row h0 h1 hy
  rw [e]
  generalize r.toNat <<< (8 * y) = m at hl ⊢
  unfold U64 at *
  exact ⟨u64_or_nat s m hs hl, Nat.or_lt_two_pow hs hl⟩

theorem setI_any (v : Value) (rows : List Int) (w : World) (h : Rd 1 RInt w v rows) (Hok : Hid (RowsOk rows)) : Calls Try.prog 94 #[.agg #[v]] w (Ret (.int .u64 (setOf rows : Nat)) w) := by
  obtain ⟨A, c, rfl, hc, hm⟩ := h.form
  have h' := h.below RE.stays ((Below.refl _ _).al (.cells #[.slice A rows.length c] 31))
  have h8 : rows.length ≤ 8 := Hok.out.1
  go_enter Try.func94, Try.ntmps94
  go_wp2
  go_loopw [3, 9] (fun q i wr => ∃ (k s : Nat), k ≤ rows.length ∧ i = .int .i64 k ∧ q = .int .u64 s ∧ Hid (s < U64 ∧ rowsFrom s k (rows.drop k) = setOf rows) ∧ wr = w.alloc (.cells #[.slice A rows.length c] 31)) (fun _ i _ => rows.length - (intOf i).toNat)
  case atStart => exact ⟨0, 0, Nat.zero_le _, rfl, rfl, Lib.hid ⟨by unfold U64; decide, rfl⟩, rfl⟩
  case round =>
    obtain ⟨k, s, hk, rfl, rfl, Hg, rfl⟩ := hrel
    by_cases hlt : k < rows.length
    · obtain ⟨b, off, rfl, hb, q1⟩ := h'.atInt hlt
      have hr := Hok.out.2 rows[k] (List.getElem_mem hlt)
      obtain ⟨e1, e2⟩ := or_row Hg.out.1 hr.1 hr.2 (y := k) (by omega)
      have HG : Hid (s ||| rows[k].toNat <<< (8 * k) < U64 ∧ rowsFrom (s ||| rows[k].toNat <<< (8 * k)) (k + 1) (rows.drop (k + 1)) = setOf rows) := by
        have G := Hg.out.2
        rw [List.drop_eq_getElem_cons hlt, rowsFrom] at G
        exact Lib.hid ⟨e2, G⟩
      have E1 := Lib.hid e1; clear e1 e2
      go_wp2
      go_roundw
      case rel => exact ⟨k + 1, _, by omega, by go_num, by rw [E1.out], HG, trivial⟩
      case measure => simp [intOf]; omega
    · go_wp2
      go_ret
      have G := Hg.out.2
      rw [List.drop_of_length_le (by omega), rowsFrom] at G
      exact ⟨retU (by rw [G]), (Below.refl _ _).al _⟩
end Go.Proofs.Ytkbndchgmokabaa
