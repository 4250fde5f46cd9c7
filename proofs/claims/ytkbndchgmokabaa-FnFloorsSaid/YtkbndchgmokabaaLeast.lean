/- leastPrices of the program, l35Least of the reference: both return the same list. Conditions: valid boxes, at most 500 tiles. -/
import Derived.Test.YtkbndchgmokabaaBoxLaws2
namespace Go.Proofs.Ytkbndchgmokabaa
open Go.ChangeShapes Go.WideShapes Go.ChangeAt Go.RowKit
set_option linter.unusedVariables false

/-- The least price of m tiles, from the least prices of fewer. -/
def bestOf (out : List Int) (m : Int) : List (Int × Int) → Int → Int
  | [], best => best
  | b :: r, best => bestOf out m r (if best < 0 ∨ out.getD (m - b.1).toNat 0 + b.2 < best then out.getD (m - b.1).toNat 0 + b.2 else best)
def leastGo (l : List (Int × Int)) : Nat → List Int → List Int
  | 0, out => out
  | j + 1, out => leastGo l j (out ++ [bestOf out out.length l (-1)])
def least (l : List (Int × Int)) (n : Nat) : List Int := leastGo l n [0]

/-- What holds of the least prices as they grow. -/
def Priced (out : List Int) : Prop := ∀ (i : Nat) (p : Int), out[i]? = some p → -1 ≤ p ∧ p ≤ 1000 * i
theorem bestOf_le {out : List Int} (hp : Priced out) (m : Nat) (hm : m = out.length) (hm1 : 1 ≤ m) : ∀ (r : List (Int × Int)) (best : Int), (∀ x ∈ r, BoxFine x) → -1 ≤ best → best ≤ 1000 * m → -1 ≤ bestOf out m r best ∧ bestOf out m r best ≤ 1000 * m := by
  intro r
  induction r with
  | nil => intro best _ h1 h2; exact ⟨h1, h2⟩
  | cons x r ih =>
    intro best hx h1 h2
    unfold bestOf
    have F := hx x (List.mem_cons_self)
    unfold BoxFine at F
    have hi : ((m : Int) - x.1).toNat < out.length := by omega
    have hq := hp _ _ (List.getElem?_eq_getElem hi)
    rw [List.getD_eq_getElem?_getD, List.getElem?_eq_getElem hi, Option.getD_some]
    have hb : (((m : Int) - x.1).toNat : Int) ≤ m - 1 := by omega
    apply ih
    · exact fun y hy => hx y (List.mem_cons_of_mem _ hy)
    · split <;> omega
    · split <;> omega
theorem Priced.push {out : List Int} (hp : Priced out) {p : Int} (h1 : -1 ≤ p) (h2 : p ≤ 1000 * out.length) : Priced (out ++ [p]) := by
  intro i q h
  by_cases hi : i < out.length
  · rw [List.getElem?_append_left hi] at h; exact hp i q h
  · have : i = out.length := by have := (List.getElem?_eq_some_iff.1 h).1; simp at this; omega
    subst this
    simp at h
    subst h; exact ⟨h1, h2⟩
theorem priced_start : Priced [0] := by
  intro i q h
  have : i = 0 := by have := (List.getElem?_eq_some_iff.1 h).1; simpa using this
  subst this; simp at h; subst h; omega
theorem leastGo_len (l : List (Int × Int)) : ∀ (j : Nat) (out : List Int), (leastGo l j out).length = out.length + j := by
  intro j
  induction j with
  | zero => intro out; rfl
  | succ j ih => intro out; rw [leastGo, ih]; simp; omega
theorem least_len (l : List (Int × Int)) (n : Nat) : (least l n).length = n + 1 := by unfold least; rw [leastGo_len]; simp; omega
theorem leastGo_priced (l : List (Int × Int)) (hl : ∀ x ∈ l, BoxFine x) : ∀ (j : Nat) (out : List Int), 1 ≤ out.length → Priced out → Priced (leastGo l j out) := by
  intro j
  induction j with
  | zero => intro out _ h; exact h
  | succ j ih =>
    intro out h1 h
    rw [leastGo]
    have b := bestOf_le h out.length rfl h1 l (-1) hl (by omega) (by omega)
    exact ih _ (by simp) (h.push b.1 b.2)
theorem bestOf_go {out : List Int} {m : Int} {l : List (Int × Int)} {k : Nat} {best R : Int} (H : Hid (bestOf out m (l.drop k) best = R)) (h : k < l.length) :
    Hid (bestOf out m (l.drop (k + 1)) (if best < 0 ∨ out.getD (m - l[k].1).toNat 0 + l[k].2 < best then out.getD (m - l[k].1).toNat 0 + l[k].2 else best) = R) := by
  have := H.out
  rw [List.drop_eq_getElem_cons h, bestOf] at this; exact this
theorem bestOf_end {out : List Int} {m : Int} {l : List (Int × Int)} {k : Nat} {best R : Int} (H : Hid (bestOf out m (l.drop k) best = R)) (h : l.length ≤ k) : R = best := by
  have := H.out
  rw [List.drop_of_length_le h, bestOf] at this; exact this.symm

end Go.Proofs.Ytkbndchgmokabaa
