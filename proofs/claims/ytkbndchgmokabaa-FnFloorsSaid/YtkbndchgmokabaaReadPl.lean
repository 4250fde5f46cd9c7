/- What lines say: rows and dominoes. Plain laws. -/
import Derived.Test.YtkbndchgmokabaaFloorPl
namespace Go.Proofs.Ytkbndchgmokabaa
open Go.ChangeShapes Go.WideShapes Go.ChangeAt Go.RowKit
set_option linter.unusedVariables false

def chAt (s : ByteArray) (x : Nat) : UInt8 := s.data.toList.getD x 46
theorem chAt_get (s : ByteArray) (x : Nat) (h : x < s.size) : s[x] = chAt s x := by
  unfold chAt
  have hl : x < s.data.toList.length := by rw [Array.length_toList]; exact h
  rw [List.getD_eq_getElem?_getD, List.getElem?_eq_getElem hl, Option.getD_some]
  rfl
def domAtCh (s : ByteArray) (y x : Nat) : List Dm := if chAt s x = 60 then [((x : Int), (y : Int), false)] else if chAt s x = 94 then [((x : Int), (y : Int), true)] else []
def domsLine (s : ByteArray) (y k : Nat) : List Dm := (List.range k).flatMap (domAtCh s y)
theorem domsLine_succ (s : ByteArray) (y k : Nat) : domsLine s y (k + 1) = domsLine s y k ++ domAtCh s y k := by simp [domsLine, List.range_succ]
theorem domAtCh_le (s : ByteArray) (y x : Nat) : (domAtCh s y x).length ≤ 1 := by unfold domAtCh; split <;> (try split) <;> simp
theorem domsLine_le (s : ByteArray) (y : Nat) : ∀ k, (domsLine s y k).length ≤ k := by
  intro k
  induction k with
  | zero => simp [domsLine]
  | succ k ih => rw [domsLine_succ, List.length_append]; have := domAtCh_le s y k; omega
def lineAt (ls : List ByteArray) (y : Nat) : ByteArray := ls.getD y ByteArray.empty
theorem lineAt_get (ls : List ByteArray) (y : Nat) (h : y < ls.length) : lineAt ls y = ls[y] := by
  unfold lineAt; rw [List.getD_eq_getElem?_getD, List.getElem?_eq_getElem h, Option.getD_some]
def lineDoms (ls : List ByteArray) (y : Nat) : List Dm := if (lineAt ls y).size = 8 then domsLine (lineAt ls y) y 8 else []
def domsTo (ls : List ByteArray) (n : Nat) : List Dm := (List.range n).flatMap (lineDoms ls)
theorem domsTo_succ (ls : List ByteArray) (n : Nat) : domsTo ls (n + 1) = domsTo ls n ++ lineDoms ls n := by simp [domsTo, List.range_succ]
theorem lineDoms_le (ls : List ByteArray) (y : Nat) : (lineDoms ls y).length ≤ 8 := by
  unfold lineDoms; split
  · exact domsLine_le _ _ 8
  · simp
theorem domsTo_le (ls : List ByteArray) : ∀ n, (domsTo ls n).length ≤ 8 * n := by
  intro n
  induction n with
  | zero => simp [domsTo]
  | succ n ih => rw [domsTo_succ, List.length_append]; have := lineDoms_le ls n; omega
/-- The row of a line, bit by bit. -/
def rowLine (s : ByteArray) : Nat → Nat
  | 0 => 0
  | k + 1 => rowLine s k + if chAt s k = 46 then 0 else 2 ^ k
theorem rowLine_lt (s : ByteArray) : ∀ k, rowLine s k < 2 ^ k
  | 0 => by simp [rowLine]
  | k + 1 => by
    have := rowLine_lt s k
    unfold rowLine
    rw [Nat.pow_succ]
    split <;> omega
theorem rowLine_bit (s : ByteArray) : ∀ k i, (rowLine s k).testBit i = (decide (i < k) && decide (chAt s i ≠ 46))
  | 0, i => by simp [rowLine]
  | k + 1, i => by
    have h := rowLine_lt s k
    have ih := rowLine_bit s k i
    unfold rowLine
    by_cases hc : chAt s k = 46
    · rw [if_pos hc, Nat.add_zero, ih]
      by_cases e : i = k
      · subst e; simp [hc]
      · have : decide (i < k) = decide (i < k + 1) := by rw [decide_eq_decide]; omega
        rw [this]
    · rw [if_neg hc, Nat.add_comm]
      have e := Nat.two_pow_add_eq_or_of_lt h 1
      rw [Nat.mul_one] at e
      rw [e, Nat.testBit_or, Nat.testBit_two_pow, ih]
      by_cases e : i = k
      · subst e; simp [hc]
      · have : decide (i < k) = decide (i < k + 1) := by rw [decide_eq_decide]; omega
        rw [this]
        have e2 : decide (k = i) = false := by simp; omega
        rw [e2, Bool.false_or]
def rowOf (ls : List ByteArray) (y : Nat) : Nat := if (lineAt ls y).size = 8 then rowLine (lineAt ls y) 8 else 0
def rowsTo (ls : List ByteArray) (n : Nat) : List Int := (List.range n).map fun y => (rowOf ls y : Int)
theorem rowsTo_succ (ls : List ByteArray) (n : Nat) : rowsTo ls (n + 1) = rowsTo ls n ++ [(rowOf ls n : Int)] := by simp [rowsTo, List.range_succ]
theorem rowsTo_len (ls : List ByteArray) (n : Nat) : (rowsTo ls n).length = n := by simp [rowsTo]
/-- The set of the cells, bit by bit. -/
def setLine (acc : Nat) (s : ByteArray) (y : Nat) : Nat → Nat
  | 0 => acc
  | k + 1 => if chAt s k = 46 then setLine acc s y k else sWith (setLine acc s y k) (8 * y + k)
theorem setLine_lt {acc : Nat} (s : ByteArray) {y : Nat} (h : acc < U64) (hy : y < 8) : ∀ k, k ≤ 8 → setLine acc s y k < U64
  | 0, _ => h
  | k + 1, hk => by
    have ih := setLine_lt s h hy k (by omega)
    unfold setLine
    split
    · exact ih
    · exact sWith_lt ih (by omega)
theorem setLine_bit (acc : Nat) (s : ByteArray) (y : Nat) : ∀ k i, (setLine acc s y k).testBit i = (acc.testBit i || (decide (8 * y ≤ i ∧ i < 8 * y + k) && decide (chAt s (i - 8 * y) ≠ 46)))
  | 0, i => by
    have : decide (8 * y ≤ i ∧ i < 8 * y + 0) = false := by simp
    unfold setLine; rw [this]; simp
  | k + 1, i => by
    have ih := setLine_bit acc s y k i
    unfold setLine
    by_cases e : i = 8 * y + k
    · have h1 : decide (8 * y ≤ i ∧ i < 8 * y + k) = false := by simp; omega
      have h2 : decide (8 * y ≤ i ∧ i < 8 * y + (k + 1)) = true := by simp; omega
      rw [h1, Bool.false_and, Bool.or_false] at ih
      rw [h2, Bool.true_and]
      have e2 : i - 8 * y = k := by omega
      rw [e2]
      by_cases hc : chAt s k = 46
      · rw [if_pos hc, ih]; simp [hc]
      · rw [if_neg hc, testBit_sWith, ih]; simp [hc, e]
    · have h1 : decide (8 * y ≤ i ∧ i < 8 * y + k) = decide (8 * y ≤ i ∧ i < 8 * y + (k + 1)) := by rw [decide_eq_decide]; omega
      rw [h1] at ih
      by_cases hc : chAt s k = 46
      · rw [if_pos hc, ih]
      · rw [if_neg hc, testBit_sWith, ih]
        have : decide (8 * y + k = i) = false := by simp; omega
        rw [this, Bool.or_false]
def setTo (ls : List ByteArray) : Nat → Nat
  | 0 => 0
  | n + 1 => setLine (setTo ls n) (lineAt ls n) n 8
theorem setTo_lt (ls : List ByteArray) : ∀ n, n ≤ 8 → setTo ls n < U64
  | 0, _ => zero_lt_U64
  | n + 1, h => setLine_lt _ (setTo_lt ls n (by omega)) (by omega) 8 (Nat.le_refl _)
theorem setTo_bit (ls : List ByteArray) : ∀ n i, (setTo ls n).testBit i = (decide (i < 8 * n) && decide (chAt (lineAt ls (i / 8)) (i % 8) ≠ 46))
  | 0, i => by simp [setTo]
  | n + 1, i => by
    unfold setTo
    rw [setLine_bit, setTo_bit ls n i]
    by_cases h1 : i < 8 * n
    · have a : decide (8 * n ≤ i ∧ i < 8 * n + 8) = false := by simp; omega
      have b : decide (i < 8 * n) = true := by simp; omega
      have c : decide (i < 8 * (n + 1)) = true := by simp; omega
      rw [a, b, c]; simp
    · have b : decide (i < 8 * n) = false := by simp; omega
      rw [b, Bool.false_and, Bool.false_or]
      by_cases h2 : i < 8 * (n + 1)
      · have a : decide (8 * n ≤ i ∧ i < 8 * n + 8) = true := by simp; omega
        have c : decide (i < 8 * (n + 1)) = true := by simp; omega
        rw [a, c, show i / 8 = n by omega, show i - 8 * n = i % 8 by omega]
      · have a : decide (8 * n ≤ i ∧ i < 8 * n + 8) = false := by simp; omega
        have c : decide (i < 8 * (n + 1)) = false := by simp; omega
        rw [a, c]; simp
def All8 (ls : List ByteArray) : Prop := ∀ y, y < ls.length → (lineAt ls y).size = 8
theorem rowsOf_setTo {ls : List ByteArray} (h8 : ls.length ≤ 8) (ha : All8 ls) : rowsOf (setTo ls ls.length) ls.length = rowsTo ls ls.length := by
  unfold rowsOf rowsTo
  apply List.map_congr_left
  intro y hy
  rw [List.mem_range] at hy
  congr 1
  rw [and255]
  have hr : rowOf ls y = rowLine (lineAt ls y) 8 := by unfold rowOf; rw [if_pos (ha y hy)]
  rw [hr]
  refine row_ext (Nat.mod_lt _ (by decide)) (Nat.lt_of_lt_of_le (rowLine_lt _ 8) (by decide)) fun x hx => ?_
  rw [row_bit _ _ _ hx, setTo_bit, rowLine_bit, show (8 * y + x) / 8 = y by omega, show (8 * y + x) % 8 = x by omega]
  have a : decide (8 * y + x < 8 * ls.length) = true := by simp; omega
  have b : decide (x < 8) = true := by simp; omega
  rw [a, b]

def readOk (ls : List ByteArray) : Bool := decide (ls.length ≤ 8) && (isPartial (rowsTo ls ls.length) (domsTo ls ls.length) && decide (floorLines (rowsTo ls ls.length) (domsTo ls ls.length) = ls))
def readRows (ls : List ByteArray) : List Int := if readOk ls then rowsTo ls ls.length else []
def readDoms (ls : List ByteArray) : List Dm := if readOk ls then domsTo ls ls.length else []
theorem readOk_all {ls : List ByteArray} (h : readOk ls = true) : All8 ls := by
  unfold readOk at h
  simp only [Bool.and_eq_true, decide_eq_true_eq] at h
  intro y hy
  rw [lineAt_get ls y hy]
  have e := h.2.2
  have hm : ls[y] ∈ floorLines (rowsTo ls ls.length) (domsTo ls ls.length) := by rw [e]; exact List.getElem_mem _
  unfold floorLines at hm
  rw [if_pos h.2.1] at hm
  unfold fText at hm
  obtain ⟨z, _, hz⟩ := List.mem_map.1 hm
  rw [← hz, fStr_size]
theorem readOk_no {ls : List ByteArray} {y : Nat} (hy : y < ls.length) (h : (lineAt ls y).size ≠ 8) : readOk ls = false := by
  rcases e : readOk ls with _ | _
  · rfl
  · exact absurd (readOk_all e y hy) h
theorem readRows_le (ls : List ByteArray) : (readRows ls).length ≤ 8 := by
  unfold readRows
  split
  · rename_i h; unfold readOk at h; simp only [Bool.and_eq_true, decide_eq_true_eq] at h; rw [rowsTo_len]; exact h.1
  · simp
theorem readDoms_le (ls : List ByteArray) : (readDoms ls).length ≤ 64 := by
  unfold readDoms
  split
  · rename_i h; unfold readOk at h; simp only [Bool.and_eq_true, decide_eq_true_eq] at h
    have := domsTo_le ls ls.length; omega
  · simp
end Go.Proofs.Ytkbndchgmokabaa
