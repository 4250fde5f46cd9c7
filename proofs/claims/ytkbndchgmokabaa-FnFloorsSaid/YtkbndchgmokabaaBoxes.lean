/- The walks of BoxesOk, of the program and of the reference. No conditions. -/
import Derived.Test.YtkbndchgmokabaaBase
namespace Go.Proofs.Ytkbndchgmokabaa
open Go.RowKit
set_option linter.unusedVariables false

def inB (n a b : Int) : Bool := decide (a ≤ n) && decide (n ≤ b)

theorem within_any (n a b : Int) (w : World) :
    Calls Try.prog 141 #[.int .i64 n, .int .i64 a, .int .i64 b] w (Pure (.bool (inB n a b)) w) := by
  go_enter Try.func141, Try.ntmps141
  go_wp2
  all_goals go_ret
  all_goals exact ⟨by simp_all [inB] <;> omega, rfl⟩

theorem in_any (n a b : Int) (w : World) :
    Calls Try.prog 128 #[.int .i64 n, .int .i64 a, .int .i64 b] w (Pure (.bool (inB n a b)) w) := by
  go_enter Try.func128, Try.ntmps128
  go_wp2
  all_goals go_ret
  all_goals exact ⟨by simp_all [inB] <;> omega, rfl⟩

def boxesOk : List (Int × Int) → Int → Bool
  | [], n => inB n 1 5
  | x :: xs, n => if !inB x.1 1 50 || !inB x.2 1 1000 then false else boxesOk xs n

end Go.Proofs.Ytkbndchgmokabaa
