/- Small words for the walks of laws: objects made one after the other share no block. Plain lemmas. -/
import Derived.Test.YtklgbjgjojelbaaGreatDoorK8
import Derived.Test.YtklgbjgjojelbaaGreatDoorSteps
import Derived.Test.YtklgbjgjojelbaaGreatDoorK3
import Derived.Deep.DeepCutAuto
namespace Go.Proofs.YtklgbjgjojelbaaGreatDoor
open Go.ChangeShapes Go.WideShapes Go.ChangeAt Go.RowKit
set_option linter.unusedVariables false

theorem do_small {x z : Fl} {c : Cl} {b : Bool} (hs : Small4 x) (h : doFl x c = (z, b)) : Small4 z := by
  unfold doFl at h
  split at h
  · rename_i q
    injection h with h _
    rw [← h]
    have h1 := flOk_flips q.1
    have h2 := flipTo_len x.2.2.1 c
    refine ⟨hs.1, hs.2.1, ?_, ?_⟩
    · unfold Small; simp only; omega
    · unfold Small; simp only [List.length_append, List.length_cons, List.length_nil]; omega
  · injection h with h _; rw [← h]; exact hs
/-- A workshop of the call's own, its numbers by themselves. -/
def RetWk (z : Fl) (s p r : Int) (w : World) (e : Ending) (w' : World) : Prop := ∃ A1 c1 A2 c2 A3 c3 A4 c4, e = .returned (.agg #[.slice A1 z.1.length c1, .slice A2 z.2.1.length c2, .slice A3 z.2.2.1.length c3, .slice A4 z.2.2.2.length c4, .int .i64 s, .int .i64 p, .int .i64 r]) ∧
  OwnFl w.heap.size w' (.slice A1 z.1.length c1) (.slice A2 z.2.1.length c2) (.slice A3 z.2.2.1.length c3) (.slice A4 z.2.2.2.length c4) z ∧ Below w.heap.size w w'
def RetWkB (z : Fl) (s p r : Int) (b : Bool) (w : World) (e : Ending) (w' : World) : Prop := ∃ A1 c1 A2 c2 A3 c3 A4 c4, e = .returned (.tuple #[.agg #[.slice A1 z.1.length c1, .slice A2 z.2.1.length c2, .slice A3 z.2.2.1.length c3, .slice A4 z.2.2.2.length c4, .int .i64 s, .int .i64 p, .int .i64 r], .bool b]) ∧
  OwnFl w.heap.size w' (.slice A1 z.1.length c1) (.slice A2 z.2.1.length c2) (.slice A3 z.2.2.1.length c3) (.slice A4 z.2.2.2.length c4) z ∧ Below w.heap.size w w'
end Go.Proofs.YtklgbjgjojelbaaGreatDoor
