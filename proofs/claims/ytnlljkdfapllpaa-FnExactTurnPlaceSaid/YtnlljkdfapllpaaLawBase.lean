/- Small words for the walks of laws: objects made one after the other share no block. Plain lemmas. -/
import Derived.Test.YtnlljkdfapllpaaK8
import Derived.Test.YtnlljkdfapllpaaK3
import Derived.Test.YtnlljkdfapllpaaFlCopyI
import Derived.Deep.DeepCutAuto
namespace Go.Proofs.Ytnlljkdfapllpaa
open Go.ChangeShapes Go.WideShapes Go.ChangeAt Go.RowKit
set_option linter.unusedVariables false

theorem apart_of {S T : Nat → Prop} {n m : Nat} (a : ∀ k, S k → k < n) (b : ∀ k, T k → m ≤ k) (h : n ≤ m) : ∀ k, S k → ¬ T k := fun k hk ht => by
  have h1 := a k hk
  have h2 := b k ht
  omega
theorem OwnL.rowL {α : Type} {E : TypeId} {size : Nat} {enc : α → List Value} {B g : Nat} {w w' : World} {v : Value} {l : List α} {t : TypeId} {cs : Array Value} (h : OwnL E size enc B w v l) (hb : Blk w g t cs) (hne : E ≠ t) (hg : w.grownBy w' (some g)) : OwnL E size enc B w' v l :=
  h.grownS (S := fun k => k = g) ⟨hg.os, hg.tape, hg.output, hg.size, fun k hk hs => hg.block k hk (fun e => hs (by injection e))⟩ (fun k hk e => h.apart hb hne (e ▸ hk))
theorem do_small {x z : Fl} {c : Cl} {b : Bool} (hs : Small4 x) (h : doFl x c = (z, b)) : Small4 z := by
  unfold doFl at h
  split at h
  · rename_i q
    injection h with h _
    rw [← h]
    have h1 := flOk_flips q.1
    have h2 := flipTo_len x.2.2.1 c
    refine ⟨hs.1, hs.2.1, ?_, ?_⟩
    · unfold Small; simp only; omega
    · unfold Small; simp only [List.length_append, List.length_cons, List.length_nil]; omega
  · injection h with h _; rw [← h]; exact hs
/-- A workshop of the call's own, its numbers by themselves. -/
def RetWk (z : Fl) (s p r : Int) (w : World) (e : Ending) (w' : World) : Prop := ∃ A1 c1 A2 c2 A3 c3 A4 c4, e = .returned (.agg #[.slice A1 z.1.length c1, .slice A2 z.2.1.length c2, .slice A3 z.2.2.1.length c3, .slice A4 z.2.2.2.length c4, .int .i64 s, .int .i64 p, .int .i64 r]) ∧
  OwnFl w.heap.size w' (.slice A1 z.1.length c1) (.slice A2 z.2.1.length c2) (.slice A3 z.2.2.1.length c3) (.slice A4 z.2.2.2.length c4) z ∧ Below w.heap.size w w'
def RetWkB (z : Fl) (s p r : Int) (b : Bool) (w : World) (e : Ending) (w' : World) : Prop := ∃ A1 c1 A2 c2 A3 c3 A4 c4, e = .returned (.tuple #[.agg #[.slice A1 z.1.length c1, .slice A2 z.2.1.length c2, .slice A3 z.2.2.1.length c3, .slice A4 z.2.2.2.length c4, .int .i64 s, .int .i64 p, .int .i64 r], .bool b]) ∧
  OwnFl w.heap.size w' (.slice A1 z.1.length c1) (.slice A2 z.2.1.length c2) (.slice A3 z.2.2.1.length c3) (.slice A4 z.2.2.2.length c4) z ∧ Below w.heap.size w w'
end Go.Proofs.Ytnlljkdfapllpaa
