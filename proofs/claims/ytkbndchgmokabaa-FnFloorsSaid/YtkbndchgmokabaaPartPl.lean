/- Partial coverings as a property: valid dominoes in order that share no cell. Plain laws. -/
import Derived.Test.YtkbndchgmokabaaFlipPl
import Derived.Test.YtkbndchgmokabaaPartI2
namespace Go.Proofs.Ytkbndchgmokabaa
open Go.ChangeShapes Go.WideShapes Go.ChangeAt Go.RowKit
set_option linter.unusedVariables false

def Apart (a b : Dm) : Prop := ∀ j, (domSet a).testBit j = true → (domSet b).testBit j = false
def In (s : Nat) (d : Dm) : Prop := domOk d = true ∧ ∀ j, (domSet d).testBit j = true → s.testBit j = true
def PartOk (s : Nat) (l : List Dm) : Prop := (∀ d ∈ l, In s d) ∧ (l.Pairwise fun a b => domOrd a < domOrd b) ∧ l.Pairwise Apart
theorem PartOk.sorted {s : Nat} {l : List Dm} (h : PartOk s l) : Sorted l := ⟨fun d hd => (h.1 d hd).1, h.2.1⟩
theorem PartOk.tail {s : Nat} {d : Dm} {l : List Dm} (h : PartOk s (d :: l)) : PartOk s l :=
  ⟨fun e he => h.1 e (List.mem_cons_of_mem _ he), (List.pairwise_cons.1 h.2.1).2, (List.pairwise_cons.1 h.2.2).2⟩
theorem and_eq_of_sub {a b : Nat} (h : ∀ j, b.testBit j = true → a.testBit j = true) : a &&& b = b := by
  apply Nat.eq_of_testBit_eq
  intro j
  rw [Nat.testBit_and]
  rcases q : b.testBit j with _ | _
  · simp
  · rw [h j q]; rfl
theorem PartOk.less {s : Nat} (hs : s < U64) {d : Dm} {l : List Dm} (h : PartOk s (d :: l)) : PartOk (sDiff s (domSet d)) l := by
  refine ⟨fun e he => ?_, h.tail.2⟩
  obtain ⟨e1, e2⟩ := h.tail.1 e he
  refine ⟨e1, fun j hj => ?_⟩
  rw [sDiff_bit hs (domSet_lt (h.1 d (List.mem_cons_self ..)).1), e2 j hj, Bool.true_and, Bool.not_eq_true']
  rcases q : (domSet d).testBit j with _ | _
  · rfl
  · have := (List.pairwise_cons.1 h.2.2).1 e he j q
    rw [hj] at this; cases this
theorem partGo_of : ∀ {l : List Dm} {s : Nat} {p : Option Dm}, s < U64 → PartOk s l → (∀ e, p = some e → ∀ d, l.head? = some d → domOrd e < domOrd d) → partGo s p l = true
  | [], s, p, _, _, _ => rfl
  | d :: r, s, p, hs, h, hp => by
    obtain ⟨d1, d2⟩ := h.1 d (List.mem_cons_self ..)
    have ih := partGo_of (p := some d) (sDiff_lt hs) (h.less hs) (fun e he d' hd' => by
      cases he
      cases r with
      | nil => cases hd'
      | cons x y => injection hd' with hd'; subst hd'; exact (List.pairwise_cons.1 h.2.1).1 _ (List.mem_cons_self ..))
    rw [partGo_cons, d1, ih, decide_eq_true (and_eq_of_sub d2)]
    cases p with
    | none => rfl
    | some e => simp only [goodPrev, Bool.true_and, Bool.and_true, decide_eq_true_eq]; exact hp e rfl d rfl
theorem partGo_to : ∀ {l : List Dm} {s : Nat} {p : Option Dm}, s < U64 → partGo s p l = true → PartOk s l ∧ ∀ e, p = some e → ∀ d ∈ l, domOrd e < domOrd d
  | [], s, p, _, _ => ⟨⟨by simp, List.Pairwise.nil, List.Pairwise.nil⟩, by simp⟩
  | d :: r, s, p, hs, h => by
    obtain ⟨d1, d2, d3⟩ := partGo_split h
    obtain ⟨⟨a, b, c⟩, f⟩ := partGo_to (sDiff_lt hs) d3
    have hd := domSet_lt d1
    refine ⟨⟨fun e he => ?_, List.pairwise_cons.2 ⟨fun e he => f d rfl e he, b⟩, List.pairwise_cons.2 ⟨fun e he j hj => ?_, c⟩⟩, ?_⟩
    · rcases List.mem_cons.1 he with rfl | he
      · exact ⟨d1, fun j hj => and_sub d2 j hj⟩
      · refine ⟨(a e he).1, fun j hj => ?_⟩
        have := (a e he).2 j hj
        rw [sDiff_bit hs hd, Bool.and_eq_true] at this
        exact this.1
    · rcases q : (domSet e).testBit j with _ | _
      · rfl
      · have := (a e he).2 j q
        rw [sDiff_bit hs hd, hj] at this; simp at this
    · intro e he x hx
      subst he
      rw [partGo_cons] at h
      simp only [Bool.and_eq_true, goodPrev, decide_eq_true_eq] at h
      have h1 := h.1.2
      rcases List.mem_cons.1 hx with rfl | hx
      · exact h1
      · have := f d rfl x hx; omega
theorem isPartial_iff {rows : List Int} {l : List Dm} : isPartial rows l = true ↔ RowsOk rows ∧ PartOk (setOf rows) l := by
  constructor
  · intro h
    obtain ⟨a, b⟩ := isPartial_ok h
    exact ⟨a, (partGo_to (setOf_lt a) b).1⟩
  · rintro ⟨a, b⟩
    unfold isPartial
    rw [regionOk_iff.2 a, partGo_of (setOf_lt a) b (by simp)]; rfl
/-- Two sorted lists of the same dominoes are the same. -/
theorem sorted_eq : ∀ {l m : List Dm}, l.Pairwise (fun a b => domOrd a < domOrd b) → m.Pairwise (fun a b => domOrd a < domOrd b) → (∀ d, d ∈ l ↔ d ∈ m) → l = m
  | [], [], _, _, _ => rfl
  | [], d :: m, _, _, h => by have := (h d).2 (List.mem_cons_self ..); cases this
  | d :: l, [], _, _, h => by have := (h d).1 (List.mem_cons_self ..); cases this
  | d :: l, e :: m, hl, hm, h => by
    have hl2 := List.pairwise_cons.1 hl
    have hm2 := List.pairwise_cons.1 hm
    have hde : d = e := by
      rcases List.mem_cons.1 ((h d).1 (List.mem_cons_self ..)) with q | q
      · exact q
      · rcases List.mem_cons.1 ((h e).2 (List.mem_cons_self ..)) with r | r
        · exact r.symm
        · have a := hm2.1 d q
          have b := hl2.1 e r
          omega
    subst hde
    congr 1
    refine sorted_eq hl2.2 hm2.2 (fun x => ?_)
    have hx := h x
    rw [List.mem_cons, List.mem_cons] at hx
    constructor
    · intro q
      rcases hx.1 (.inr q) with r | r
      · subst r; have := hl2.1 x q; omega
      · exact r
    · intro q
      rcases hx.2 (.inr q) with r | r
      · subst r; have := hm2.1 x q; omega
      · exact r
/-- A domino with its two cells in the set. -/
theorem in_iff {s : Nat} {d : Dm} : In s d ↔ domOk d = true ∧ s.testBit (domI d) = true ∧ s.testBit (domJ d) = true := by
  constructor
  · rintro ⟨a, b⟩
    exact ⟨a, b _ (by rw [domSet_bit a]; simp), b _ (by rw [domSet_bit a]; simp)⟩
  · rintro ⟨a, b, c⟩
    refine ⟨a, fun j hj => ?_⟩
    rw [domSet_bit a, Bool.or_eq_true, decide_eq_true_eq, decide_eq_true_eq] at hj
    rcases hj with rfl | rfl
    · exact b
    · exact c
theorem apart_comm {a b : Dm} (h : Apart a b) : Apart b a := fun j hj => by
  rcases q : (domSet a).testBit j with _ | _
  · rfl
  · rw [h j q] at hj; cases hj
theorem apart_ne {a : Dm} (ha : domOk a = true) : ¬ Apart a a := fun h => by
  have q : (domSet a).testBit (domI a) = true := by rw [domSet_bit ha]; simp
  rw [h _ q] at q; cases q
theorem PartOk.apart {s : Nat} {l : List Dm} (h : PartOk s l) {a b : Dm} (ha : a ∈ l) (hb : b ∈ l) (hne : a ≠ b) : Apart a b := by
  have : ∀ {m : List Dm}, m.Pairwise Apart → a ∈ m → b ∈ m → Apart a b := by
    intro m
    induction m with
    | nil => intro _ h; cases h
    | cons x m ih =>
      intro hp h1 h2
      obtain ⟨p1, p2⟩ := List.pairwise_cons.1 hp
      rcases List.mem_cons.1 h1 with e1 | h1'
      · rcases List.mem_cons.1 h2 with e | h2'
        · exact absurd (e1.trans e.symm) hne
        · rw [e1]; exact p1 b h2'
      · rcases List.mem_cons.1 h2 with e | h2'
        · rw [e]; exact apart_comm (p1 a h1')
        · exact ih p2 h1' h2'
  exact this h.2.2 ha hb
/-- The domino over a cell is the only one. -/
theorem cov_one {s : Nat} {l : List Dm} (h : PartOk s l) {d : Dm} {c : Cl} (hd : d ∈ l) (hc : domHas d c = true) : covOf l c = some d := by
  rcases q : covOf l c with _ | e
  · have := List.find?_eq_none.1 q d hd
    exact absurd hc this
  · have h1 : domHas e c = true := List.find?_some (p := fun e => domHas e c) q
    have h2 : e ∈ l := List.mem_of_find?_eq_some q
    by_cases hne : d = e
    · rw [hne]
    · exfalso
      have b1 := domHas_bit (h.1 d hd).1 c
      have b2 := domHas_bit (h.1 e h2).1 c
      rw [hc, Bool.and_eq_true] at b1
      rw [h1, Bool.and_eq_true] at b2
      have := h.apart hd h2 hne _ b1.2
      rw [b2.2] at this; cases this
end Go.Proofs.Ytkbndchgmokabaa
