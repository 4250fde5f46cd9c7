/- Sorted dominoes and flips: the functions and their plain laws. -/
import Derived.Test.YtkbndchgmokabaaTiling
namespace Go.Proofs.Ytkbndchgmokabaa
open Go.ChangeShapes Go.WideShapes Go.ChangeAt Go.RowKit
set_option linter.unusedVariables false

def insD (d : Dm) : List Dm → List Dm
  | [] => [d]
  | e :: r => if domOrd e < domOrd d then e :: insD d r else if e = d then e :: r else d :: e :: r
def sortStep (out : List Dm) (d : Dm) : List Dm := if domOk d then insD d out else out
def sortGo (out l : List Dm) : List Dm := l.foldl sortStep out
def sortD (l : List Dm) : List Dm := sortGo [] l
def Sorted (l : List Dm) : Prop := (∀ d ∈ l, domOk d = true) ∧ l.Pairwise fun a b => domOrd a < domOrd b
theorem domOrd_inj {a b : Dm} (ha : domOk a = true) (hb : domOk b = true) (h : domOrd a = domOrd b) : a = b := by
  obtain ⟨a1, a2, a3⟩ := a
  obtain ⟨b1, b2, b3⟩ := b
  have A := domOk_fst ha
  have B := domOk_fst hb
  simp only at A B
  unfold domOrd at h
  simp only at h
  have e3 : a3 = b3 := by
    cases a3 <;> cases b3 <;> simp at h ⊢ <;> omega
  subst e3
  have e2 : a2 = b2 := by omega
  subst e2
  have e1 : a1 = b1 := by omega
  subst e1
  rfl
/-- The place of a domino: how many come before it. -/
def posD (d : Dm) (l : List Dm) : Nat := (l.takeWhile fun e => decide (domOrd e < domOrd d)).length
theorem posD_le (d : Dm) : ∀ l : List Dm, posD d l ≤ l.length
  | [] => by simp [posD]
  | e :: r => by
    have := posD_le d r
    unfold posD at *
    rw [List.takeWhile_cons]
    split <;> simp <;> omega
theorem posD_cons (d e : Dm) (r : List Dm) : posD d (e :: r) = if domOrd e < domOrd d then posD d r + 1 else 0 := by
  unfold posD
  rw [List.takeWhile_cons]
  by_cases h : domOrd e < domOrd d <;> simp [h]
theorem posD_lt (d : Dm) : ∀ (l : List Dm) (k : Nat) (h : k < l.length), k < posD d l → domOrd l[k] < domOrd d
  | [], k, h, _ => by simp at h
  | e :: r, k, h, hk => by
    rw [posD_cons] at hk
    split at hk
    · cases k with
      | zero => simpa
      | succ k => simp only [List.getElem_cons_succ]; exact posD_lt d r k (by simpa using h) (by omega)
    · omega
theorem posD_at (d : Dm) : ∀ (l : List Dm) (h : posD d l < l.length), ¬ domOrd l[posD d l] < domOrd d
  | [], h => by simp at h
  | e :: r, h => by
    by_cases q : domOrd e < domOrd d
    · have e1 : posD d (e :: r) = posD d r + 1 := by rw [posD_cons, if_pos q]
      simp only [e1, List.getElem_cons_succ]
      exact posD_at d r (by rw [e1] at h; simpa using h)
    · have e1 : posD d (e :: r) = 0 := by rw [posD_cons, if_neg q]
      simp only [e1, List.getElem_cons_zero]; exact q
theorem insD_pos (d : Dm) : ∀ l : List Dm, insD d l = if l[posD d l]? = some d then l else l.take (posD d l) ++ d :: l.drop (posD d l)
  | [] => by simp [insD, posD]
  | e :: r => by
    unfold insD
    by_cases q : domOrd e < domOrd d
    · rw [if_pos q, posD_cons, if_pos q, insD_pos d r]
      simp only [List.getElem?_cons_succ, List.take_succ_cons, List.drop_succ_cons]
      split <;> rfl
    · rw [if_neg q, posD_cons, if_neg q]
      simp only [List.getElem?_cons_zero, List.take_zero, List.drop_zero, List.nil_append, Option.some.injEq]
theorem insD_mem (d : Dm) : ∀ (l : List Dm) (x : Dm), x ∈ insD d l ↔ x = d ∨ x ∈ l
  | [], x => by simp [insD]
  | e :: r, x => by
    unfold insD
    split
    · rw [List.mem_cons, insD_mem d r, List.mem_cons]; constructor <;> rintro (h | h | h) <;> simp [h]
    · split
      · rename_i h; subst h; simp
      · simp
theorem sorted_ins {d : Dm} (hd : domOk d = true) : ∀ {l : List Dm}, Sorted l → Sorted (insD d l)
  | [], h => ⟨fun x hx => by simp [insD] at hx; rw [hx]; exact hd, by simp [insD]⟩
  | e :: r, h => by
    have hr : Sorted r := ⟨fun x hx => h.1 x (List.mem_cons_of_mem _ hx), (List.pairwise_cons.1 h.2).2⟩
    have he := h.1 e (List.mem_cons_self ..)
    have hep := (List.pairwise_cons.1 h.2).1
    have ih := sorted_ins hd hr
    unfold insD
    split
    · rename_i q
      refine ⟨fun x hx => ?_, List.pairwise_cons.2 ⟨fun x hx => ?_, ih.2⟩⟩
      · rcases List.mem_cons.1 hx with rfl | hx
        · exact he
        · exact ih.1 x hx
      · rcases (insD_mem d r x).1 hx with rfl | hx
        · exact q
        · exact hep x hx
    · rename_i q
      split
      · exact h
      · rename_i q2
        have hne : domOrd e ≠ domOrd d := fun h' => q2 (domOrd_inj he hd h')
        refine ⟨fun x hx => ?_, List.pairwise_cons.2 ⟨fun x hx => ?_, h.2⟩⟩
        · rcases List.mem_cons.1 hx with rfl | hx
          · exact hd
          · exact h.1 x hx
        · rcases List.mem_cons.1 hx with rfl | hx
          · omega
          · have := hep x hx; omega
theorem sorted_step {out : List Dm} (h : Sorted out) (d : Dm) : Sorted (sortStep out d) := by
  unfold sortStep
  split
  · rename_i q; exact sorted_ins q h
  · exact h
theorem sorted_go : ∀ (l : List Dm) {out : List Dm}, Sorted out → Sorted (sortGo out l)
  | [], out, h => h
  | d :: r, out, h => sorted_go r (sorted_step h d)
theorem sorted_nil : Sorted [] := ⟨by simp, List.Pairwise.nil⟩
theorem sorted_sortD (l : List Dm) : Sorted (sortD l) := sorted_go l sorted_nil
theorem len_pairwise : ∀ (l : List Int) (n : Nat), l.Pairwise (· < ·) → (∀ x ∈ l, (128 : Int) - n ≤ x ∧ x < 128) → l.length ≤ n
  | [], n, _, _ => by simp
  | x :: r, n, hp, hb => by
    have h1 := hb x (List.mem_cons_self ..)
    cases n with
    | zero => omega
    | succ n =>
      have := len_pairwise r n (List.pairwise_cons.1 hp).2 (fun y hy => by
        have h2 := hb y (List.mem_cons_of_mem _ hy)
        have h3 := (List.pairwise_cons.1 hp).1 y hy
        omega)
      simp; omega
theorem sorted_len {l : List Dm} (h : Sorted l) : l.length ≤ 128 := by
  have := len_pairwise (l.map domOrd) 128 (List.pairwise_map.2 h.2) (fun x hx => by
    obtain ⟨d, hd, rfl⟩ := List.mem_map.1 hx
    have := domOrd_in (h.1 d hd)
    omega)
  simpa using this
/-- What is smaller than a place, and what is greater. -/
theorem sorted_pos {l : List Dm} (h : Sorted l) {d : Dm} {k : Nat} (hk : k < l.length) : domOrd l[k] < domOrd d ↔ k < posD d l := by
  constructor
  · intro q
    by_cases hn : k < posD d l
    · exact hn
    · exfalso
      have hp : posD d l < l.length := by omega
      have := posD_at d l hp
      by_cases e : posD d l = k
      · subst e; exact this q
      · have := List.pairwise_iff_getElem.1 h.2 _ _ hp hk (by omega); omega
  · exact posD_lt d l k hk
/-- Where the program stops, from the back: the place, or one behind it if the domino is there. -/
theorem sorted_back {l : List Dm} (h : Sorted l) {d : Dm} (hd : domOk d = true) {k : Nat} (hk : k < l.length) : (domOrd l[k] > domOrd d) ↔ (if l[posD d l]? = some d then posD d l + 1 else posD d l) ≤ k := by
  by_cases q : l[posD d l]? = some d
  · rw [if_pos q]
    obtain ⟨hp, e⟩ := List.getElem?_eq_some_iff.1 q
    constructor
    · intro hgt
      by_cases hn : posD d l + 1 ≤ k
      · exact hn
      · exfalso
        by_cases e2 : k = posD d l
        · subst e2; rw [e] at hgt; omega
        · have := posD_lt d l k hk (by omega); omega
    · intro hle
      have := List.pairwise_iff_getElem.1 h.2 _ _ hp hk (by omega)
      rw [e] at this; omega
  · rw [if_neg q]
    constructor
    · intro hgt
      by_cases hn : posD d l ≤ k
      · exact hn
      · have := posD_lt d l k hk (by omega); omega
    · intro hle
      have hp : posD d l < l.length := by omega
      have h1 := posD_at d l hp
      have hne : domOrd l[posD d l] ≠ domOrd d := by
        intro e
        apply q
        rw [List.getElem?_eq_getElem hp, domOrd_inj (h.1 _ (List.getElem_mem hp)) hd e]
      by_cases e2 : k = posD d l
      · subst e2; omega
      · have := List.pairwise_iff_getElem.1 h.2 _ _ hp hk (by omega); omega

/-- The four dominoes of a flip. -/
def accOf (c : Cl) : Dm × Dm := ((c.1, c.2, false), (c.1, c.2 + 1, false))
def dwnOf (c : Cl) : Dm × Dm := ((c.1, c.2, true), (c.1 + 1, c.2, true))
def inFlip (c : Cl) : Bool := decide (0 ≤ c.1 ∧ c.1 ≤ 6) && decide (0 ≤ c.2 ∧ c.2 ≤ 6)
def hasBoth (l : List Dm) (p : Dm × Dm) : Bool := l.contains p.1 && l.contains p.2
def kindOf (l : List Dm) (c : Cl) : Nat := if inFlip c then (if hasBoth l (accOf c) then 1 else if hasBoth l (dwnOf c) then 2 else 0) else 0
def goneOf (k : Nat) (c : Cl) : Dm × Dm := if k = 1 then accOf c else dwnOf c
def nextOf (k : Nat) (c : Cl) : Dm × Dm := if k = 1 then dwnOf c else accOf c
def keepD (g : Dm × Dm) (d : Dm) : Bool := !(decide (d = g.1) || decide (d = g.2))
def flipPre (l : List Dm) (g n : Dm × Dm) : List Dm := [n.1, n.2] ++ l.filter (keepD g)
def flipTo (l : List Dm) (c : Cl) : List Dm := sortD (flipPre l (goneOf (kindOf l c) c) (nextOf (kindOf l c) c))
def flipAt (l : List Dm) (c : Cl) : List Dm × Bool := if kindOf l c = 0 then (l, false) else (flipTo l c, true)
theorem kindOf_le (l : List Dm) (c : Cl) : kindOf l c ≤ 2 := by unfold kindOf; split <;> (try split) <;> (try split) <;> omega
theorem flipTo_len (l : List Dm) (c : Cl) : (flipTo l c).length ≤ 128 := sorted_len (sorted_sortD _)
/-- The flips of many cells. -/
def flipGo (l : List Dm) : List Cl → Option (List Dm)
  | [] => some l
  | c :: r => if kindOf l c = 0 then none else flipGo (flipTo l c) r
def flipAll (l : List Dm) (cs : List Cl) : List Dm × Bool := if cs.length > 200 then (l, false) else match flipGo l cs with | none => (l, false) | some m => (m, true)
def floorOk (rows : List Int) (f n : List Dm) (cs : List Cl) : Bool := isTiling rows f && decide (cs.length ≤ 60) && (flipAll f cs).2 && decide ((flipAll f cs).1 = n)
end Go.Proofs.Ytkbndchgmokabaa
