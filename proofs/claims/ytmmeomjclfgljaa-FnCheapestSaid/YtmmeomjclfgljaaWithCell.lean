/- The law FnExactWithCell. No conditions. -/
import Derived.Test.YtmmeomjclfgljaaK3
import Derived.Deep.DeepCutAuto
import Derived.Deep.RegionHeld3
namespace Go.Proofs.Ytmmeomjclfgljaa
open Go.ChangeShapes Go.WideShapes Go.ChangeAt Go.RowKit
set_option linter.unusedVariables false

theorem eqRegion_same (u v : Value) (l : List Int) (w : World) (h : Rd 1 RInt w u l) (h' : Rd 1 RInt w v l) : Calls Try.prog 13 #[.agg #[u], .agg #[v]] w (Ret (.bool true) w) := by
  have := eqRegion_any u v l l w h h'; rw [beq_self_eq_true] at this; exact this

end Go.Proofs.Ytmmeomjclfgljaa
