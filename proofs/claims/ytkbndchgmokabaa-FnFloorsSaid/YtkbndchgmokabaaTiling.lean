/- Tilings: a partial covering covers all cells if and only if it has half as many dominoes as there are cells. Plain laws. -/
import Derived.Test.YtkbndchgmokabaaFloorPl
import Derived.Test.YtkbndchgmokabaaRegCells
namespace Go.Proofs.Ytkbndchgmokabaa
open Go.ChangeShapes Go.WideShapes Go.ChangeAt Go.RowKit
set_option linter.unusedVariables false

def cntF (f : Nat → Bool) : Nat → Nat
  | 0 => 0
  | k + 1 => cntF f k + (f k).toNat
theorem cntF_succ (f : Nat → Bool) (k : Nat) : cntF f (k + 1) = cntF f k + (f k).toNat := rfl
theorem cntF_cells (s : Nat) : ∀ k, (cellsTo s k).length = cntF s.testBit k
  | 0 => by simp [cellsTo, cntF]
  | k + 1 => by
    rw [cellsTo_succ, List.length_append, cntF_cells s k]
    rw [cntF_succ]
    cases s.testBit k <;> simp
theorem cntF_congr {f g : Nat → Bool} : ∀ k, (∀ j, j < k → f j = g j) → cntF f k = cntF g k
  | 0, _ => rfl
  | k + 1, h => by
    rw [cntF_succ, cntF_succ, cntF_congr k (fun j hj => h j (by omega)), h k (by omega)]
theorem cntF_del {f g : Nat → Bool} {i : Nat} (hne : ∀ j, j ≠ i → f j = g j) (hf : f i = true) (hg : g i = false) : ∀ k, cntF f k = cntF g k + (if i < k then 1 else 0)
  | 0 => by simp [cntF]
  | k + 1 => by
    have ih := cntF_del hne hf hg k
    rw [cntF_succ, cntF_succ]
    by_cases e : k = i
    · subst e
      rw [if_neg (by omega)] at ih
      rw [if_pos (by omega), ih, hf, hg]; simp
    · rw [ih, hne k e]
      by_cases h : i < k
      · rw [if_pos h, if_pos (by omega)]; omega
      · rw [if_neg h, if_neg (by omega)]; omega
theorem cntF_zero {f : Nat → Bool} : ∀ k, cntF f k = 0 → ∀ j, j < k → f j = false
  | 0, _, j, hj => by omega
  | k + 1, h, j, hj => by
    rw [cntF_succ] at h
    by_cases e : j = k
    · subst e
      rcases q : f j with _ | _
      · rfl
      · rw [q] at h; simp at h
    · exact cntF_zero k (by omega) j (by omega)
theorem cntF_none {f : Nat → Bool} : ∀ k, (∀ j, j < k → f j = false) → cntF f k = 0
  | 0, _ => rfl
  | k + 1, h => by
    rw [cntF_succ, cntF_none k (fun j hj => h j (by omega)), h k (by omega)]; rfl
theorem dom_ne {d : Dm} (h : domOk d = true) : domI d ≠ domJ d := by
  intro e
  obtain ⟨h1, h2⟩ := domOk_cells h
  have := cellIx_inj h1 h2 e
  have D := domOk_fst h
  unfold sec at this
  split at this
  · simp only [Prod.mk.injEq] at this
    have k := this.2
    unfold wrap64 at k; omega
  · simp only [Prod.mk.injEq] at this
    have k := this.1
    unfold wrap64 at k; omega
theorem cnt_step {left : Nat} {d : Dm} (hl : left < U64) (hd : domOk d = true) (hs : left &&& domSet d = domSet d) : cntF left.testBit 64 = cntF (sDiff left (domSet d)).testBit 64 + 2 := by
  obtain ⟨hi, hj⟩ := domI_lt hd
  have hne := dom_ne hd
  have bI : left.testBit (domI d) = true := and_sub hs _ (by rw [domSet_bit hd]; simp)
  have bJ : left.testBit (domJ d) = true := and_sub hs _ (by rw [domSet_bit hd]; simp)
  have h1 := cntF_del (f := left.testBit) (g := fun k => left.testBit k && !decide (domI d = k)) (i := domI d) (fun j hj => by
    have : decide (domI d = j) = false := by simp; omega
    simp only [this, Bool.not_false, Bool.and_true]) bI (by simp) 64
  have h2 := cntF_del (f := fun k => left.testBit k && !decide (domI d = k)) (g := (sDiff left (domSet d)).testBit) (i := domJ d) (fun j hj => by
    have : decide (domJ d = j) = false := by simp; omega
    simp only [sDiff_bit hl (domSet_lt hd), domSet_bit hd, this, Bool.or_false]) (by
    have : decide (domI d = domJ d) = false := by simp; omega
    simp only [this, bJ]; rfl) (by rw [sDiff_bit hl (domSet_lt hd), domSet_bit hd]; simp) 64
  rw [if_pos hi] at h1
  rw [if_pos hj] at h2
  omega
/-- What is left when the dominoes are taken away. -/
def leftOf (left : Nat) : List Dm → Nat
  | [] => left
  | d :: r => leftOf (sDiff left (domSet d)) r
def coverGo (s : Nat) : List Dm → Nat
  | [] => s
  | d :: r => coverGo (if domOk d then s ||| domSet d else s) r
theorem or_U64 {a b : Nat} (ha : a < U64) (hb : b < U64) : a ||| b < U64 := by
  unfold U64 at *; exact Nat.or_lt_two_pow (n := 64) ha hb
theorem cover_next {s : Nat} (hs : s < U64) (d : Dm) : (if domOk d then s ||| domSet d else s) < U64 := by
  split
  · rename_i h; exact or_U64 hs (domSet_lt h)
  · exact hs
theorem coverGo_lt : ∀ (l : List Dm) (s : Nat), s < U64 → coverGo s l < U64
  | [], s, h => h
  | d :: r, s, h => coverGo_lt r _ (cover_next h d)
theorem coverGo_bit (j : Nat) : ∀ (l : List Dm) (s : Nat), (coverGo s l).testBit j = (s.testBit j || l.any fun d => domOk d && (domSet d).testBit j)
  | [], s => by simp [coverGo]
  | d :: r, s => by
    unfold coverGo
    rw [coverGo_bit j r]
    rcases h : domOk d with _ | _
    · rw [if_neg (by simp)]; simp [h]
    · rw [if_pos rfl, Nat.testBit_or]; simp [h, Bool.or_assoc]
theorem partGo_left : ∀ (l : List Dm) (left : Nat) (p : Option Dm), left < U64 → partGo left p l = true → leftOf left l < U64 ∧ cntF left.testBit 64 = cntF (leftOf left l).testBit 64 + 2 * l.length ∧ ∀ j, (leftOf left l).testBit j = (left.testBit j && !l.any fun d => domOk d && (domSet d).testBit j)
  | [], left, p, hl, h => ⟨hl, by simp [leftOf], fun j => by simp [leftOf]⟩
  | d :: r, left, p, hl, h => by
    obtain ⟨h1, h2, h3⟩ := partGo_split h
    obtain ⟨a, b, c⟩ := partGo_left r _ _ (sDiff_lt hl) h3
    have := cnt_step hl h1 h2
    refine ⟨a, ?_, fun j => ?_⟩
    · show cntF left.testBit 64 = cntF (leftOf (sDiff left (domSet d)) r).testBit 64 + 2 * (d :: r).length
      rw [List.length_cons]; omega
    · show (leftOf (sDiff left (domSet d)) r).testBit j = _
      rw [c, sDiff_bit hl (domSet_lt h1), List.any_cons, h1, Bool.true_and, Bool.not_or, Bool.and_assoc]
theorem cover_iff {left : Nat} {p : Option Dm} {l : List Dm} (hl : left < U64) (h : partGo left p l = true) : coverGo 0 l = left ↔ 2 * l.length = cntF left.testBit 64 := by
  obtain ⟨a, b, c⟩ := partGo_left l left p hl h
  have hc : ∀ j, (coverGo 0 l).testBit j = l.any fun d => domOk d && (domSet d).testBit j := fun j => by rw [coverGo_bit]; simp
  constructor
  · intro e
    have : cntF (leftOf left l).testBit 64 = 0 := cntF_none 64 (fun j _ => by rw [c, ← hc, e]; simp)
    omega
  · intro e
    have hz : cntF (leftOf left l).testBit 64 = 0 := by omega
    refine set_ext (coverGo_lt l 0 zero_lt_U64) hl (fun j hj => ?_)
    have h0 := cntF_zero 64 hz j hj
    rw [c, ← hc] at h0
    rcases q : (coverGo 0 l).testBit j with _ | _
    · rw [q] at h0
      rcases r : left.testBit j with _ | _
      · rfl
      · rw [r] at h0; cases h0
    · rw [hc, List.any_eq_true] at q
      obtain ⟨d, hd, hb⟩ := q
      rw [Bool.and_eq_true] at hb
      exact ((partGo_mem l left p hl h d hd).2 j hb.2).symm
def isTiling (rows : List Int) (l : List Dm) : Bool := isPartial rows l && decide (2 * l.length = (regCells rows).length)
theorem isTiling_cover {rows : List Int} {l : List Dm} (h : isPartial rows l = true) : isTiling rows l = decide (coverGo 0 l = setOf rows) := by
  obtain ⟨ho, hp⟩ := isPartial_ok h
  unfold isTiling regCells
  rw [h, Bool.true_and, if_pos (regionOk_iff.2 ho), cntF_cells, decide_eq_decide]
  exact (cover_iff (setOf_lt ho) hp).symm
theorem partGo_len {left : Nat} {p : Option Dm} {l : List Dm} (hl : left < U64) (h : partGo left p l = true) : l.length ≤ 32 := by
  obtain ⟨a, b, c⟩ := partGo_left l left p hl h
  have : ∀ (f : Nat → Bool) k, cntF f k ≤ k := by
    intro f k
    induction k with
    | zero => simp [cntF]
    | succ k ih => rw [cntF_succ]; have : (f k).toNat ≤ 1 := Bool.toNat_le _; omega
  have := this left.testBit 64
  omega
end Go.Proofs.Ytkbndchgmokabaa
