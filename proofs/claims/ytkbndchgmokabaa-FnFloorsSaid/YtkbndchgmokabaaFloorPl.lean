/- What a floor's lines show: plain laws of dominoes over cells and of partial coverings. -/
import Derived.Test.YtkbndchgmokabaaPartI
namespace Go.Proofs.Ytkbndchgmokabaa
open Go.ChangeShapes Go.WideShapes Go.ChangeAt Go.RowKit
set_option linter.unusedVariables false

def domHas (d : Dm) (c : Cl) : Bool := domOk d && (decide ((d.1, d.2.1) = c) || decide (sec d = c))
def covOf (l : List Dm) (c : Cl) : Option Dm := l.find? (domHas · c)
def domAtGo (c : Cl) : List Dm → Nat → Int
  | [], _ => -1
  | d :: r, k => if domHas d c then (k : Int) else domAtGo c r (k + 1)
def domAt (l : List Dm) (c : Cl) : Int := domAtGo c l 0
theorem domAtGo_spec (c : Cl) : ∀ (l : List Dm) (k : Nat), (domAtGo c l k = -1 ∧ covOf l c = none) ∨ ∃ j, ∃ h : j < l.length, domAtGo c l k = ((k + j : Nat) : Int) ∧ covOf l c = some l[j] := by
  intro l
  induction l with
  | nil => intro k; exact .inl ⟨rfl, rfl⟩
  | cons d r ih =>
    intro k
    by_cases hd : domHas d c = true
    · refine .inr ⟨0, by simp, ?_, ?_⟩
      · simp [domAtGo, hd]
      · simp [covOf, hd]
    · have hf : covOf (d :: r) c = covOf r c := by simp [covOf, hd]
      have hg : domAtGo c (d :: r) k = domAtGo c r (k + 1) := by simp [domAtGo, hd]
      rw [hf, hg]
      rcases ih (k + 1) with h | ⟨j, hj, h1, h2⟩
      · exact .inl h
      · exact .inr ⟨j + 1, by simpa using hj, by rw [h1]; congr 1; omega, by rw [h2]; simp⟩
theorem domAt_spec (l : List Dm) (c : Cl) : (domAt l c = -1 ∧ covOf l c = none) ∨ ∃ j, ∃ h : j < l.length, domAt l c = (j : Int) ∧ covOf l c = some l[j] := by
  rcases domAtGo_spec c l 0 with h | ⟨j, hj, h1, h2⟩
  · exact .inl h
  · exact .inr ⟨j, hj, by unfold domAt; rw [h1]; congr 1; omega, h2⟩
theorem cellIx_inj {a b : Cl} (ha : cellOk a = true) (hb : cellOk b = true) (h : (cellIx a).toNat = (cellIx b).toNat) : a = b := by
  have h1 := cellIx_in ha
  have h2 := cellIx_in hb
  have k1 := cellOk_iff.1 ha
  have k2 := cellOk_iff.1 hb
  obtain ⟨a1, a2⟩ := a
  obtain ⟨b1, b2⟩ := b
  simp only at h1 h2 k1 k2
  have : a2 = b2 := by omega
  have : a1 = b1 := by omega
  simp_all
theorem domOk_cells {d : Dm} (h : domOk d = true) : cellOk (d.1, d.2.1) = true ∧ cellOk (sec d) = true := by
  unfold domOk at h; rw [Bool.and_eq_true] at h; exact h
theorem domSet_bit {d : Dm} (h : domOk d = true) (j : Nat) : (domSet d).testBit j = (decide (domI d = j) || decide (domJ d = j)) := by
  unfold domSet
  rw [testBit_sWith, testBit_sWith, Nat.zero_testBit, Bool.false_or]
/-- What the program asks is what the reference asks. -/
theorem domHas_bit {d : Dm} (h : domOk d = true) (c : Cl) : (cellOk c && (domSet d).testBit (cellIx c).toNat) = domHas d c := by
  obtain ⟨h1, h2⟩ := domOk_cells h
  unfold domHas
  rw [h, Bool.true_and, domSet_bit h]
  rw [Bool.eq_iff_iff]
  simp only [Bool.and_eq_true, Bool.or_eq_true, decide_eq_true_eq]
  unfold domI domJ
  constructor
  · rintro ⟨hc, e | e⟩
    · exact .inl (cellIx_inj h1 hc e)
    · exact .inr (cellIx_inj h2 hc e)
  · rintro (e | e)
    · exact ⟨e ▸ h1, .inl (by rw [e])⟩
    · exact ⟨e ▸ h2, .inr (by rw [e])⟩
theorem domHas_no {d : Dm} (h : domOk d = false) (c : Cl) : domHas d c = false := by unfold domHas; rw [h]; rfl
theorem domHas_ok {d : Dm} {c : Cl} (h : domHas d c = true) : domOk d = true ∧ cellOk c = true := by
  have h1 : domOk d = true := by unfold domHas at h; rw [Bool.and_eq_true] at h; exact h.1
  rw [← domHas_bit h1 c, Bool.and_eq_true] at h
  exact ⟨h1, h.1⟩

theorem and_sub {a b : Nat} (h : a &&& b = b) (j : Nat) (hb : b.testBit j = true) : a.testBit j = true := by
  have := congrArg (·.testBit j) h
  simp only [Nat.testBit_and] at this
  rw [hb] at this
  simpa using this
theorem partGo_split {left : Nat} {p : Option Dm} {d : Dm} {r : List Dm} (h : partGo left p (d :: r) = true) : domOk d = true ∧ left &&& domSet d = domSet d ∧ partGo (sDiff left (domSet d)) (some d) r = true := by
  simp only [partGo, Bool.and_eq_true, decide_eq_true_eq] at h
  exact ⟨h.1.1.1, h.1.1.2, h.2⟩
theorem sDiff_bit {a b : Nat} (ha : a < U64) (hb : b < U64) (j : Nat) : (sDiff a b).testBit j = (a.testBit j && !b.testBit j) := testBit_sDiff hb ha
/-- Each domino of a partial covering is valid and lies in what was left. -/
theorem partGo_mem : ∀ (l : List Dm) (left : Nat) (p : Option Dm), left < U64 → partGo left p l = true → ∀ d ∈ l, domOk d = true ∧ ∀ j, (domSet d).testBit j = true → left.testBit j = true := by
  intro l
  induction l with
  | nil => intro left p _ _ d hd; cases hd
  | cons e r ih =>
    intro left p hl h d hd
    obtain ⟨h1, h2, h3⟩ := partGo_split h
    rcases List.mem_cons.1 hd with rfl | hd
    · exact ⟨h1, fun j hj => and_sub h2 j hj⟩
    · obtain ⟨k1, k2⟩ := ih _ _ (sDiff_lt hl) h3 d hd
      refine ⟨k1, fun j hj => ?_⟩
      have := k2 j hj
      rw [sDiff_bit hl (domSet_lt h1)] at this
      rw [Bool.and_eq_true] at this
      exact this.1
theorem isPartial_ok {rows : List Int} {l : List Dm} (h : isPartial rows l = true) : RowsOk rows ∧ partGo (setOf rows) none l = true := by
  unfold isPartial at h; rw [Bool.and_eq_true] at h; exact ⟨regionOk_iff.1 h.1, h.2⟩
/-- What a domino covers belongs to the region. -/
theorem cov_has {rows : List Int} {l : List Dm} (h : isPartial rows l = true) {c : Cl} {d : Dm} (hc : covOf l c = some d) : domHas d c = true ∧ d ∈ l ∧ (setOf rows).testBit (cellIx c).toNat = true := by
  obtain ⟨ho, hp⟩ := isPartial_ok h
  have h1 : domHas d c = true := List.find?_some (p := fun e => domHas e c) hc
  have h2 : d ∈ l := List.mem_of_find?_eq_some hc
  refine ⟨h1, h2, ?_⟩
  obtain ⟨k1, k2⟩ := partGo_mem l _ _ (setOf_lt ho) hp d h2
  apply k2
  have := domHas_bit k1 c
  rw [h1, Bool.and_eq_true] at this
  exact this.2

/-- The sign of a domino at a cell. -/
def markOf (d : Dm) (c : Cl) : UInt8 := if d.2.2 then (if (d.1, d.2.1) = c then 94 else 118) else (if (d.1, d.2.1) = c then 60 else 62)
def sgn (s : Nat) (l : List Dm) (x y : Nat) : UInt8 := if s.testBit (8 * y + x) then (match covOf l ((x : Int), (y : Int)) with | none => 63 | some d => markOf d ((x : Int), (y : Int))) else 46
def fLine (s : Nat) (l : List Dm) (y k : Nat) : List UInt8 := (List.range k).map fun x => sgn s l x y
def fStr (s : Nat) (l : List Dm) (y k : Nat) : ByteArray := ⟨(fLine s l y k).toArray⟩
def fText (s : Nat) (l : List Dm) (n : Nat) : List ByteArray := (List.range n).map fun y => fStr s l y 8
def floorLines (rows : List Int) (l : List Dm) : List ByteArray := if isPartial rows l then fText (setOf rows) l rows.length else []
theorem fLine_succ (s : Nat) (l : List Dm) (y k : Nat) : fLine s l y (k + 1) = fLine s l y k ++ [sgn s l k y] := by simp [fLine, List.range_succ]
theorem fLine_len (s : Nat) (l : List Dm) (y k : Nat) : (fLine s l y k).length = k := by simp [fLine]
theorem fStr_size (s : Nat) (l : List Dm) (y k : Nat) : (fStr s l y k).size = k := by simp [fStr, ByteArray.size, fLine]
theorem fStr_push (s : Nat) (l : List Dm) (y k : Nat) : fStr s l y k ++ (⟨#[sgn s l k y]⟩ : ByteArray) = fStr s l y (k + 1) := by
  have e : fStr s l y k ++ (⟨#[sgn s l k y]⟩ : ByteArray) = (fStr s l y k).push (sgn s l k y) := by
    apply ByteArray.ext; rw [ByteArray.data_append]; simp [ByteArray.push]
  rw [e]
  unfold fStr ByteArray.push
  congr 1
  simp [fLine_succ]
theorem fText_succ (s : Nat) (l : List Dm) (n : Nat) : fText s l (n + 1) = fText s l n ++ [fStr s l n 8] := by simp [fText, List.range_succ]
theorem fText_len (s : Nat) (l : List Dm) (n : Nat) : (fText s l n).length = n := by simp [fText]
theorem floorLines_le (rows : List Int) (l : List Dm) : (floorLines rows l).length ≤ 8 := by
  unfold floorLines
  split
  · rename_i h; rw [fText_len]; exact (isPartial_ok h).1.1
  · simp
end Go.Proofs.Ytkbndchgmokabaa
