/- All tilings behind a head, step by step; the first of the cheapest. Plain laws. -/
import Derived.Test.YtmmeomjclfgljaaK9
namespace Go.Proofs.Ytmmeomjclfgljaa
set_option linter.unusedVariables false

/-- The tilings of a set, each behind a head. -/
def tilsFrom (s : Nat) (head : List Dm) : List (List Dm) := (tils s).map (head ++ ·)
theorem from_nil (s : Nat) : tilsFrom s [] = tils s := by
  unfold tilsFrom; simp
theorem from_zero (head : List Dm) : tilsFrom 0 head = [head] := by
  unfold tilsFrom; rw [tils_zero]; simp
theorem from_len (s : Nat) (head : List Dm) : (tilsFrom s head).length = (tils s).length := by
  unfold tilsFrom; simp
theorem from_step {s i : Nat} (hs : s < U64) (hl : LowBit s i) (head : List Dm) : tilsFrom s head =
    (if fitsD s (domRt i) then tilsFrom (sDiff s (domSet (domRt i))) (head ++ [domRt i]) else []) ++ (if fitsD s (domDn i) then tilsFrom (sDiff s (domSet (domDn i))) (head ++ [domDn i]) else []) := by
  unfold tilsFrom
  rw [tils_step hs hl, List.map_append]
  congr 1
  · split
    · rw [List.map_map]; congr 1; funext t; simp
    · rfl
  · split
    · rw [List.map_map]; congr 1; funext t; simp
    · rfl
/-- The first of the cheapest of a list behind one that is at hand. -/
def ctGo (f : List Dm → Int) : List Dm → List (List Dm) → List Dm
  | b, [] => b
  | b, t :: l => ctGo f (if f t < f b then t else b) l
def ctOf (f : List Dm → Int) (l : List (List Dm)) : List Dm := ctGo f (l.headD []) l
theorem ctGo_mem (f : List Dm → Int) : ∀ (l : List (List Dm)) (b : List Dm), ctGo f b l = b ∨ ctGo f b l ∈ l
  | [], b => .inl rfl
  | t :: l, b => by
    unfold ctGo
    rcases ctGo_mem f l (if f t < f b then t else b) with h | h
    · rw [h]; split
      · exact .inr (List.mem_cons_self ..)
      · exact .inl rfl
    · exact .inr (List.mem_cons_of_mem _ h)
theorem ctGo_le (f : List Dm → Int) : ∀ (l : List (List Dm)) (b : List Dm), f (ctGo f b l) ≤ f b ∧ ∀ t ∈ l, f (ctGo f b l) ≤ f t
  | [], b => ⟨Int.le_refl _, fun t h => by simp at h⟩
  | t :: l, b => by
    unfold ctGo
    obtain ⟨h1, h2⟩ := ctGo_le f l (if f t < f b then t else b)
    have h3 : f (if f t < f b then t else b) ≤ f b ∧ f (if f t < f b then t else b) ≤ f t := by split <;> omega
    refine ⟨by omega, fun u hu => ?_⟩
    rcases List.mem_cons.1 hu with rfl | hu
    · omega
    · exact h2 u hu
theorem ctOf_mem {f : List Dm → Int} {l : List (List Dm)} (h : l ≠ []) : ctOf f l ∈ l := by
  unfold ctOf
  rcases ctGo_mem f l (l.headD []) with e | e
  · rw [e]
    cases l with
    | nil => exact absurd rfl h
    | cons a l => exact List.mem_cons_self ..
  · exact e
theorem ctOf_le (f : List Dm → Int) (l : List (List Dm)) : ∀ t ∈ l, f (ctOf f l) ≤ f t := (ctGo_le f l _).2
/-- The loop's state behind k of the list: what is left gives the whole. -/
theorem ctGo_drop (f : List Dm → Int) (b : List Dm) {l : List (List Dm)} {k : Nat} (h : k < l.length) : ctGo f b (l.drop k) = ctGo f (if f l[k] < f b then l[k] else b) (l.drop (k + 1)) := by
  rw [List.drop_eq_getElem_cons h]; rfl
end Go.Proofs.Ytmmeomjclfgljaa
