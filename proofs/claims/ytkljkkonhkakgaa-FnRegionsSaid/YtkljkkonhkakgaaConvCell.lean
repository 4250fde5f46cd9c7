/- The laws' copying, comparing, marking and holding of lists of this kind: Cell. No conditions but sizes. -/
import Derived.Test.YtkljkkonhkakgaaWords
namespace Go.Proofs.Ytkljkkonhkakgaa
open Go.RowKit
set_option linter.unusedVariables false

theorem lenCell : ∀ x : Int × Int, (ePair x).length = 2 := fun _ => rfl
theorem oneCell : ∀ x : Int × Int, ∀ u ∈ ePair x, u.oneCell' = true := by
  intro x u hu; simp [ePair] at hu; rcases hu with rfl | rfl <;> rfl
theorem rowCell : Row Try.prog 51 40 (.agg #[.int .i64 0, .int .i64 0]) 2 16 := ⟨Try.underlying51, by kernel_rfl, rfl, by decide⟩







end Go.Proofs.Ytkljkkonhkakgaa
