/- BestBox, leastPrices, CheapestBoxes: the walks of the program and of the reference. No conditions but valid boxes. -/
import Derived.Test.YtkbndchgmokabaaBoxLaws
import Derived.IntWalk
namespace Go.Proofs.Ytkbndchgmokabaa
open Go.ChangeShapes Go.WideShapes Go.ChangeAt Go.RowKit
set_option linter.unusedVariables false

def BoxFine (x : Int × Int) : Prop := 1 ≤ x.1 ∧ x.1 ≤ 50 ∧ 1 ≤ x.2 ∧ x.2 ≤ 1000
theorem boxesOk_all : ∀ (l : List (Int × Int)) (n : Int), boxesOk l n = true → (∀ x ∈ l, BoxFine x) ∧ 1 ≤ n ∧ n ≤ 5 := by
  intro l
  induction l with
  | nil => intro n h; simp [boxesOk, inB] at h; exact ⟨fun x hx => (by cases hx), h⟩
  | cons x r ih =>
    intro n h
    unfold boxesOk at h
    by_cases hx : (!inB x.1 1 50 || !inB x.2 1 1000) = true
    · rw [if_pos hx] at h; cases h
    · rw [if_neg hx] at h
      obtain ⟨h1, h2⟩ := ih n h
      refine ⟨fun y hy => ?_, h2⟩
      rcases List.mem_cons.1 hy with rfl | hy
      · simp [inB] at hx; unfold BoxFine; omega
      · exact h1 y hy
def bestGo (all : List (Int × Int)) : List (Int × Int) → Nat → Nat → Nat
  | [], _, best => best
  | x :: r, k, best => bestGo all r (k + 1) (if x.2 * (all.getD best (0, 0)).1 < (all.getD best (0, 0)).2 * x.1 then k else best)
theorem bestGo_go {l : List (Int × Int)} {k best R : Nat} (H : Hid (bestGo l (l.drop k) k best = R)) (h : k < l.length) (hb : best < l.length) :
    Hid (bestGo l (l.drop (k + 1)) (k + 1) (if l[k].2 * l[best].1 < l[best].2 * l[k].1 then k else best) = R) := by
  have := H.out
  rw [List.drop_eq_getElem_cons h, bestGo] at this
  simp only [List.getD_eq_getElem?_getD, List.getElem?_eq_getElem hb, Option.getD_some] at this
  exact this
theorem bestGo_end {l : List (Int × Int)} {k best R : Nat} (H : Hid (bestGo l (l.drop k) k best = R)) (h : l.length ≤ k) : R = best := by
  have := H.out
  rw [List.drop_of_length_le h, bestGo] at this; exact this.symm
theorem prod_in {a b : Int} (ha : 1 ≤ a) (ha' : a ≤ 1000) (hb : 1 ≤ b) (hb' : b ≤ 1000) : 1 ≤ a * b ∧ a * b ≤ 1000000 := by
  refine ⟨?_, ?_⟩
  · have := Int.mul_le_mul ha hb (by omega) (by omega); simpa using this
  · have := Int.mul_le_mul ha' hb' (by omega) (by omega); simpa using this

end Go.Proofs.Ytkbndchgmokabaa
