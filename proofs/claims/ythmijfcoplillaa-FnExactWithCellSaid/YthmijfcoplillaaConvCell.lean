/- The laws' copying, comparing, marking and holding of lists of this kind: Cell. No conditions but sizes. -/
import Derived.Test.YthmijfcoplillaaWords
namespace Go.Proofs.Ythmijfcoplillaa
open Go.RowKit
set_option linter.unusedVariables false

theorem lenCell : ∀ x : Int × Int, (ePair x).length = 2 := fun _ => rfl
theorem oneCell : ∀ x : Int × Int, ∀ u ∈ ePair x, u.oneCell' = true := by
  intro x u hu; simp [ePair] at hu; rcases hu with rfl | rfl <;> rfl
theorem rowCell : Row Try.prog 91 79 (.agg #[.int .i64 0, .int .i64 0]) 2 16 := ⟨Try.underlying91, by kernel_rfl, rfl, by decide⟩
theorem toCell_any (x : Int × Int) (w : World) : Calls Try.prog 55 #[.agg #[.int .i64 x.1, .int .i64 x.2]] w (Ret (.agg #[.int .i64 x.1, .int .i64 x.2]) w) := by
  go_enter Try.func55, Try.ntmps55
  go_wp2
  refine bodyPost_ret (v := .agg #[.int .i64 x.1, .int .i64 x.2]) (by simp [results, Try.results55, go_sem]) rfl ⟨rfl, ?_⟩
  exact (((Below.refl _ _).al _).al _).al _







end Go.Proofs.Ythmijfcoplillaa
