/- The laws' copying, comparing, marking and holding of lists of this kind: Box. No conditions but sizes. -/
import Derived.Test.YtkbndchgmokabaaWords
namespace Go.Proofs.Ytkbndchgmokabaa
open Go.RowKit
set_option linter.unusedVariables false

theorem lenBox : ∀ x : Int × Int, (ePair x).length = 2 := fun _ => rfl
theorem oneBox : ∀ x : Int × Int, ∀ u ∈ ePair x, u.oneCell' = true := by
  intro x u hu; simp [ePair] at hu; rcases hu with rfl | rfl <;> rfl







end Go.Proofs.Ytkbndchgmokabaa
