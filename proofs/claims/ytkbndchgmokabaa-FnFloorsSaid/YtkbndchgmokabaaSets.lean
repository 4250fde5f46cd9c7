/- Sets of cells as numbers: bits, rows, cells. Plain lemmas on numbers and lists; no program in sight; no conditions but sizes. -/
import Derived.Laws.BitsAllLaws
namespace Go.Proofs.Ytkbndchgmokabaa
set_option linter.unusedVariables false

def U64 : Nat := 2 ^ 64
/-- A set without the cells of another. -/
def sDiff (a b : Nat) : Nat := a &&& (U64 - 1 - b)
def sWith (a i : Nat) : Nat := a ||| 2 ^ i
def sWithout (a i : Nat) : Nat := sDiff a (2 ^ i)

theorem testBit_sDiff {a b i : Nat} (hb : b < U64) (ha : a < U64) : (sDiff a b).testBit i = (a.testBit i && !b.testBit i) := by
  unfold sDiff
  rw [Nat.testBit_and]
  by_cases hi : i < 64
  · have : U64 - 1 - b = 2 ^ 64 - (b + 1) := by unfold U64; omega
    rw [this, Nat.testBit_two_pow_sub_succ (by unfold U64 at hb; exact hb)]
    simp [hi]
  · have : a.testBit i = false := Nat.testBit_lt_two_pow (Nat.lt_of_lt_of_le ha (by unfold U64; exact Nat.pow_le_pow_right (by decide) (by omega)))
    rw [this]; simp
theorem sDiff_lt {a b : Nat} (ha : a < U64) : sDiff a b < U64 := Nat.lt_of_le_of_lt Nat.and_le_left ha
theorem sWith_lt {a i : Nat} (ha : a < U64) (hi : i < 64) : sWith a i < U64 := by
  unfold sWith U64 at *
  exact Nat.or_lt_two_pow ha (Nat.pow_lt_pow_right (by decide) hi)
theorem pow_lt_U64 {i : Nat} (hi : i < 64) : 2 ^ i < U64 := by unfold U64; exact Nat.pow_lt_pow_right (by decide) hi
theorem testBit_sWith (a i j : Nat) : (sWith a i).testBit j = (a.testBit j || decide (i = j)) := by
  unfold sWith; rw [Nat.testBit_or, Nat.testBit_two_pow]
theorem testBit_sWithout {a i : Nat} (ha : a < U64) (hi : i < 64) (j : Nat) : (sWithout a i).testBit j = (a.testBit j && !decide (i = j)) := by
  unfold sWithout; rw [testBit_sDiff (pow_lt_U64 hi) ha, Nat.testBit_two_pow]

/-- Rows of eight cells make a set. -/
def rowsFrom (s y : Nat) : List Int → Nat
  | [] => s
  | r :: rs => rowsFrom (s ||| r.toNat <<< (8 * y)) (y + 1) rs
def setOf (rows : List Int) : Nat := rowsFrom 0 0 rows
def RowsOk (rows : List Int) : Prop := rows.length ≤ 8 ∧ ∀ r ∈ rows, 0 ≤ r ∧ r ≤ 255
theorem rowsFrom_bit : ∀ (rows : List Int) (s y i : Nat), (∀ r ∈ rows, 0 ≤ r ∧ r ≤ 255) → (rowsFrom s y rows).testBit i = (s.testBit i || (decide (8 * y ≤ i) && (rows.getD (i / 8 - y) 0).toNat.testBit (i % 8))) := by
  intro rows
  induction rows with
  | nil => intro s y i _; simp [rowsFrom]
  | cons r rs ih =>
    intro s y i h
    have hr := h r List.mem_cons_self
    have h' : ∀ x ∈ rs, 0 ≤ x ∧ x ≤ 255 := fun x hx => h x (List.mem_cons_of_mem _ hx)
    rw [rowsFrom, ih _ _ _ h', Nat.testBit_or, Nat.testBit_shiftLeft]
    by_cases h1 : 8 * y ≤ i
    · by_cases h2 : 8 * (y + 1) ≤ i
      · have e1 : i / 8 - y = (i / 8 - (y + 1)) + 1 := by omega
        have e2 : r.toNat.testBit (i - 8 * y) = false := Nat.testBit_lt_two_pow (Nat.lt_of_lt_of_le (by omega : r.toNat < 2 ^ 8) (Nat.pow_le_pow_right (by decide) (by omega)))
        rw [e1, List.getD_cons_succ, e2]; simp [h1, h2]
      · have e1 : i / 8 - y = 0 := by omega
        have e2 : i - 8 * y = i % 8 := by omega
        rw [e1, e2]; simp [h1, h2]
    · have h2 : ¬ 8 * (y + 1) ≤ i := by omega
      simp [h1, h2]
theorem setOf_bit {rows : List Int} (h : RowsOk rows) (i : Nat) : (setOf rows).testBit i = (rows.getD (i / 8) 0).toNat.testBit (i % 8) := by
  unfold setOf; rw [rowsFrom_bit rows 0 0 i h.2]; simp
theorem rowsFrom_lt : ∀ (rows : List Int) (s y : Nat), s < U64 → y + rows.length ≤ 8 → (∀ r ∈ rows, 0 ≤ r ∧ r ≤ 255) → rowsFrom s y rows < U64 := by
  intro rows
  induction rows with
  | nil => intro s y h _ _; exact h
  | cons r rs ih =>
    intro s y h hy hr
    have h1 := hr r List.mem_cons_self
    rw [rowsFrom]
    simp only [List.length_cons] at hy
    refine ih _ _ ?_ (by omega) fun x hx => hr x (List.mem_cons_of_mem _ hx)
    unfold U64 at *
    refine Nat.or_lt_two_pow h ?_
    rw [Nat.shiftLeft_eq]
    have h2 : r.toNat < 2 ^ 8 := by omega
    calc r.toNat * 2 ^ (8 * y) < 2 ^ 8 * 2 ^ (8 * y) := Nat.mul_lt_mul_of_pos_right h2 (Nat.pow_pos (by decide))
      _ = 2 ^ (8 + 8 * y) := by rw [Nat.pow_add]
      _ ≤ 2 ^ 64 := Nat.pow_le_pow_right (by decide) (by omega)
theorem setOf_lt {rows : List Int} (h : RowsOk rows) : setOf rows < U64 := rowsFrom_lt rows 0 0 (by unfold U64; decide) (by have := h.1; omega) h.2
/-- The rows of a set. -/
def rowsOf (s n : Nat) : List Int := (List.range n).map fun y => (((s >>> (8 * y)) &&& 255 : Nat) : Int)
theorem and255 (a : Nat) : a &&& 255 = a % 256 := Nat.and_two_pow_sub_one_eq_mod a 8
theorem rowsOf_at (s n y : Nat) (h : y < n) : (rowsOf s n).getD y 0 = (((s >>> (8 * y)) % 256 : Nat) : Int) := by
  unfold rowsOf
  rw [List.getD_eq_getElem?_getD, List.getElem?_map, List.getElem?_range h]
  simp [and255]
theorem rowsOf_len (s n : Nat) : (rowsOf s n).length = n := by simp [rowsOf]
theorem row_bit (s y x : Nat) (hx : x < 8) : ((s >>> (8 * y)) % 256).testBit x = s.testBit (8 * y + x) := by
  rw [show (256 : Nat) = 2 ^ 8 from rfl, Nat.testBit_mod_two_pow, Nat.testBit_shiftRight]; simp [hx]
theorem rowsOf_ok (s n : Nat) (hn : n ≤ 8) : RowsOk (rowsOf s n) := by
  refine ⟨by rw [rowsOf_len]; exact hn, fun r hr => ?_⟩
  unfold rowsOf at hr
  obtain ⟨y, _, rfl⟩ := List.mem_map.1 hr
  rw [and255]
  have := Nat.mod_lt (s >>> (8 * y)) (show 0 < 256 by decide)
  omega
/-- A row is told by its bits. -/
theorem row_ext {a b : Nat} (ha : a < 256) (hb : b < 256) (h : ∀ x, x < 8 → a.testBit x = b.testBit x) : a = b := by
  refine Nat.eq_of_testBit_eq fun i => ?_
  by_cases hi : i < 8
  · exact h i hi
  · rw [Nat.testBit_lt_two_pow (Nat.lt_of_lt_of_le ha (Nat.pow_le_pow_right (n := 2) (by decide) (show 8 ≤ i by omega))), Nat.testBit_lt_two_pow (Nat.lt_of_lt_of_le hb (Nat.pow_le_pow_right (n := 2) (by decide) (show 8 ≤ i by omega)))]
/-- Two sets are told apart by their bits below 64. -/
theorem set_ext {a b : Nat} (ha : a < U64) (hb : b < U64) (h : ∀ i, i < 64 → a.testBit i = b.testBit i) : a = b := by
  refine Nat.eq_of_testBit_eq fun i => ?_
  by_cases hi : i < 64
  · exact h i hi
  · unfold U64 at *
    rw [Nat.testBit_lt_two_pow (Nat.lt_of_lt_of_le ha (Nat.pow_le_pow_right (by decide) (by omega))), Nat.testBit_lt_two_pow (Nat.lt_of_lt_of_le hb (Nat.pow_le_pow_right (by decide) (by omega)))]
/-- The rows of the set of rows. -/
theorem setOf_rowsOf {s : Nat} (hs : s < U64) : setOf (rowsOf s 8) = s := by
  refine set_ext (setOf_lt (rowsOf_ok s 8 (by decide))) hs fun i hi => ?_
  rw [setOf_bit (rowsOf_ok s 8 (by decide)), rowsOf_at _ _ _ (by omega), Int.toNat_natCast, row_bit _ _ _ (by omega)]
  congr 1; omega
end Go.Proofs.Ytkbndchgmokabaa
