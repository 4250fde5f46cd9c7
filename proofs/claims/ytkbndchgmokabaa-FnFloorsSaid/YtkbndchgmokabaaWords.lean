/- Words for the laws' own helpers. Plain lemmas; no conditions. -/
import Derived.Test.YtkbndchgmokabaaOwn
import Derived.WideShapes
import Derived.StillTailTactics
import Derived.Deep.QuietTactic
import Derived.BigQuiet
import Derived.Deep.RegionWith
namespace Go.Proofs.Ytkbndchgmokabaa
open Go.RowKit
set_option linter.unusedVariables false

def szOf (left : Int) (n : Nat) : Int := if left < n then -1 else left - n
theorem gr_set {w w' : World} {g : Nat} (h : w.grownBy w' (some g)) (i : Nat) (u : Value) : w.grownBy (w'.setCell ⟨g, i, none⟩ u) (some g) :=
  ⟨h.os, h.tape, h.output, by simpa using h.size, fun k hk hne => (Below.heap_setCell _ _ _ _ (by simp; intro e; exact hne (by rw [e]))).trans (h.block k hk hne)⟩
/-- The call returned r; only the block of v may have changed, and F holds of the world behind it. -/
def Marked (r : Value) (v : Value) (F : World → Prop) (w : World) (e : Ending) (w' : World) : Prop := e = .returned r ∧ F w' ∧ w.grownBy w' v.ownBlock
theorem take_set {α : Type} {m : List α} {j : Nat} (y : α) (h : j < m.length) : (m.set j y).take (j + 1) = m.take j ++ [y] := by
  refine List.ext_getElem? fun i => ?_
  by_cases h1 : i < j + 1
  · rw [List.getElem?_take_of_lt h1]
    by_cases h2 : i = j
    · subst h2; rw [List.getElem?_set_self h, List.getElem?_append_right (by simp; omega)]; simp [List.length_take, Nat.min_eq_left (Nat.le_of_lt h)]
    · rw [List.getElem?_set_ne (by omega), List.getElem?_append_left (by simp; omega), List.getElem?_take_of_lt (by omega)]
  · rw [List.getElem?_eq_none (by simp; omega), List.getElem?_eq_none (by simp; omega)]
theorem szOf_ok {left : Int} {n : Nat} (h : (n : Int) ≤ left) : szOf left n = left - n := by unfold szOf; rw [if_neg (by omega)]
theorem szOf_no {left : Int} {n : Nat} (h : ¬ (n : Int) ≤ left) : szOf left n = -1 := by unfold szOf; rw [if_pos (by omega)]
theorem str_inj {a b : ByteArray} : (a.toList = b.toList) ↔ (a = b) := by
  refine ⟨fun h => ?_, fun h => by rw [h]⟩
  rw [ByteArray.toList_eq, ByteArray.toList_eq] at h
  exact Go.WideShapes.bytes_inj h
section
variable {α : Type} [DecidableEq α] {l m : List α} {k : Nat} {r : Bool}
omit [DecidableEq α] in
theorem eqd_step (h : k < l.length) (h' : k < m.length) : (l.drop k = m.drop k) ↔ (l[k] = m[k] ∧ l.drop (k + 1) = m.drop (k + 1)) := by
  rw [List.drop_eq_getElem_cons h, List.drop_eq_getElem_cons h']
  exact ⟨fun e => by injection e with a b; exact ⟨a, b⟩, fun ⟨a, b⟩ => by rw [a, b]⟩
theorem eqd_go (H : Hid (decide (l.drop k = m.drop k) = r)) (h : k < l.length) (h' : k < m.length) (e : l[k] = m[k]) : Hid (decide (l.drop (k + 1) = m.drop (k + 1)) = r) := by
  have := H.out
  rw [← this]; exact Lib.hid (by rw [decide_eq_decide, eqd_step h h']; exact ⟨fun x => ⟨e, x⟩, fun x => x.2⟩)
theorem eqd_no (H : Hid (decide (l.drop k = m.drop k) = r)) (h : k < l.length) (h' : k < m.length) (e : ¬ l[k] = m[k]) : r = false := by
  have := H.out
  rw [← this, decide_eq_false_iff_not, eqd_step h h']; exact fun x => e x.1
theorem eqd_end (H : Hid (decide (l.drop k = m.drop k) = r)) (h : l.length ≤ k) (h' : m.length ≤ k) : r = true := by
  have := H.out
  rw [List.drop_of_length_le h, List.drop_of_length_le h'] at this; rw [← this]; simp
end
section
variable {α β : Type} {E1 E2 : TypeId} {s1 s2 : Nat} {e1 : α → List Value} {e2 : β → List Value} {B1 B2 : Nat} {w wa wb w3 w4 : World} {v1 v2 : Value} {l1 : List α} {l2 : List β}
/-- A mark on a list of the call's own leaves what was there. -/
theorem below_mark (h : Below w.heap.size w w3) (own : OwnL E2 s2 e2 B2 wb v2 l2) (hB : w.heap.size ≤ B2) (hg : w3.grownBy w4 v2.ownBlock) : Below w.heap.size w w4 :=
  h.grown hg h.size fun k hk => Nat.le_trans hB (World.ownsRow.lt own k hk).1
/-- .. and every list that was made before it. -/
theorem OwnL.kept_ (a : OwnL E1 s1 e1 B1 wa v1 l1) (b : OwnL E2 s2 e2 B2 wb v2 l2) (hab : wa.heap.size ≤ B2) (cur : OwnL E1 s1 e1 B1 w3 v1 l1) (hg : w3.grownBy w4 v2.ownBlock) : OwnL E1 s1 e1 B1 w4 v1 l1 := by
  refine World.ownsRow.kept cur hg ?_
  rcases h1 : v1.ownBlock with _ | g1
  · exact .inl rfl
  · refine .inr fun h => ?_
    have k1 := (World.ownsRow.lt a g1 h1).2
    have k2 := (World.ownsRow.lt b g1 h.symm).1
    omega
/-- .. and every list that was made behind it. -/
theorem OwnL.kept' (a : OwnL E1 s1 e1 B1 wa v1 l1) (b : OwnL E2 s2 e2 B2 wb v2 l2) (hab : wb.heap.size ≤ B1) (cur : OwnL E1 s1 e1 B1 w3 v1 l1) (hg : w3.grownBy w4 v2.ownBlock) : OwnL E1 s1 e1 B1 w4 v1 l1 := by
  refine World.ownsRow.kept cur hg ?_
  rcases h1 : v1.ownBlock with _ | g1
  · exact .inl rfl
  · refine .inr fun h => ?_
    have k1 := (World.ownsRow.lt a g1 h1).1
    have k2 := (World.ownsRow.lt b g1 h.symm).2
    omega
end
end Go.Proofs.Ytkbndchgmokabaa
