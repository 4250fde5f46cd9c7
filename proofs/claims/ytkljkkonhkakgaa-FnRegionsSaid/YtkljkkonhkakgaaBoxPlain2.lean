/- Plain laws for FnBoxes: the best box, what chosen boxes hold and cost. Conditions: valid boxes. -/
import Derived.Test.YtkljkkonhkakgaaChooseL
namespace Go.Proofs.Ytkljkkonhkakgaa
open Go.ChangeShapes Go.WideShapes Go.ChangeAt Go.RowKit
set_option linter.unusedVariables false

def bS (l : List (Int × Int)) (i : Nat) : Int := (l.getD i (0, 0)).1
def bP (l : List (Int × Int)) (i : Nat) : Int := (l.getD i (0, 0)).2
theorem bS_at {l : List (Int × Int)} {i : Nat} (h : i < l.length) : bS l i = l[i].1 := by unfold bS; rw [List.getD_eq_getElem?_getD, List.getElem?_eq_getElem h]; rfl
theorem bP_at {l : List (Int × Int)} {i : Nat} (h : i < l.length) : bP l i = l[i].2 := by unfold bP; rw [List.getD_eq_getElem?_getD, List.getElem?_eq_getElem h]; rfl
theorem bS_pos {l : List (Int × Int)} (hl : Fine l) {i : Nat} (h : i < l.length) : 1 ≤ bS l i ∧ bS l i ≤ 50 := by
  have := hl l[i] (List.getElem_mem h); unfold BoxFine at this; rw [bS_at h]; omega
theorem bP_pos {l : List (Int × Int)} (hl : Fine l) {i : Nat} (h : i < l.length) : 1 ≤ bP l i ∧ bP l i ≤ 1000 := by
  have := hl l[i] (List.getElem_mem h); unfold BoxFine at this; rw [bP_at h]; omega
theorem cross {pk sb pb sk si pi : Int} (h1 : pk * sb ≤ pb * sk) (h2 : pb * si ≤ pi * sb) (hsb : 1 ≤ sb) (hsi : 1 ≤ si) (hsk : 1 ≤ sk) : pk * si ≤ pi * sk := by
  have a1 : pk * sb * si ≤ pb * sk * si := Int.mul_le_mul_of_nonneg_right h1 (by omega)
  have a2 : pb * si * sk ≤ pi * sb * sk := Int.mul_le_mul_of_nonneg_right h2 (by omega)
  have e1 : pk * sb * si = pk * si * sb := by rw [Int.mul_assoc, Int.mul_comm sb si, ← Int.mul_assoc]
  have e2 : pb * sk * si = pb * si * sk := by rw [Int.mul_assoc, Int.mul_comm sk si, ← Int.mul_assoc]
  have e3 : pi * sb * sk = pi * sk * sb := by rw [Int.mul_assoc, Int.mul_comm sb sk, ← Int.mul_assoc]
  have : pk * si * sb ≤ pi * sk * sb := by omega
  exact Int.le_of_mul_le_mul_right this (by omega)
theorem bestGo_all {l : List (Int × Int)} (hl : Fine l) : ∀ (r : List (Int × Int)) (k best : Nat), l.drop k = r → best < l.length → (∀ i, i < k → i < l.length → bP l best * bS l i ≤ bP l i * bS l best) →
    bestGo l r k best < l.length ∧ ∀ i, i < l.length → bP l (bestGo l r k best) * bS l i ≤ bP l i * bS l (bestGo l r k best) := by
  intro r
  induction r with
  | nil =>
    intro k best hd hb h
    have : l.length ≤ k := by have := congrArg List.length hd; simp at this; omega
    exact ⟨hb, fun i hi => h i (by omega) hi⟩
  | cons x r ih =>
    intro k best hd hb h
    have hk : k < l.length := by have := congrArg List.length hd; simp at this; omega
    have hx : l[k] = x := by rw [List.drop_eq_getElem_cons hk] at hd; injection hd
    have hr : l.drop (k + 1) = r := by rw [List.drop_eq_getElem_cons hk] at hd; injection hd
    have e1 : x.1 = bS l k := by rw [bS_at hk, hx]
    have e2 : x.2 = bP l k := by rw [bP_at hk, hx]
    rw [bestGo]
    change bestGo l r (k + 1) (if x.2 * bS l best < bP l best * x.1 then k else best) < l.length ∧ ∀ i, i < l.length → bP l (bestGo l r (k + 1) (if x.2 * bS l best < bP l best * x.1 then k else best)) * bS l i ≤ bP l i * bS l (bestGo l r (k + 1) (if x.2 * bS l best < bP l best * x.1 then k else best))
    rw [e1, e2]
    by_cases hc : bP l k * bS l best < bP l best * bS l k
    · rw [if_pos hc]
      refine ih (k + 1) k hr hk fun i hi hil => ?_
      by_cases hik : i = k
      · subst hik; exact Int.le_refl _
      · exact cross (by omega) (h i (by omega) hil) (bS_pos hl hb).1 (bS_pos hl hil).1 (bS_pos hl hk).1
    · rw [if_neg hc]
      refine ih (k + 1) best hr hb fun i hi hil => ?_
      by_cases hik : i = k
      · subst hik; omega
      · exact h i (by omega) hil
theorem bestGo_spec {l : List (Int × Int)} (hl : Fine l) (h0 : 0 < l.length) : bestGo l l 0 0 < l.length ∧ ∀ i, i < l.length → bP l (bestGo l l 0 0) * bS l i ≤ bP l i * bS l (bestGo l l 0 0) :=
  bestGo_all hl l 0 0 rfl h0 fun i hi => absurd hi (by omega)

theorem sum_zip (f : Int × Int → Int) : ∀ (c : List Int) (l : List (Int × Int)), c.length = l.length → ((List.range l.length).map fun i => c.getD i 0 * f (l.getD i (0, 0))).sum = (List.zipWith (fun c b => c * f b) c l).sum := by
  intro c
  induction c with
  | nil => intro l h; have : l = [] := List.eq_nil_of_length_eq_zero (by simpa using h.symm); subst this; rfl
  | cons x c ih =>
    intro l h
    cases l with
    | nil => simp at h
    | cons b l =>
      have := ih l (by simpa using h)
      rw [List.zipWith_cons_cons, List.sum_cons, ← this, List.length_cons, List.range_succ_eq_map, List.map_cons, List.map_map, List.sum_cons]
      rfl
/-- What the chosen boxes hold and cost. -/
theorem hold_chosen {l : List (Int × Int)} (hok : boxesOk l l.length = true) {n : Nat} (hn : n ≤ 500) : n ≤ (hold l (chosen l n)).1 ∧ (hold l (chosen l n)).2 = cheapest l n := by
  obtain ⟨hall, h1, h5⟩ := boxesOk_all _ _ hok
  have hF : Fine l := hall
  have hne : l ≠ [] := by rintro rfl; simp at h1
  rw [chosen_yes hok hn, cheapest_lp hok hn]
  obtain ⟨g1, g2, g3⟩ := choose_good l n hF (lp_nonneg hF hne n)
  have hlen := choose_len l n (lp l n)
  have hin : allIn 0 500 (choose l n (lp l n)) = true := allIn_iff.2 fun x hx => by have := g1 x hx; omega
  have e : hold l (choose l n (lp l n)) = (sumT l (choose l n (lp l n)) l.length, sumP l (choose l n (lp l n)) l.length) := by
    unfold hold; rw [hok, hin, hlen]; simp
  have s1 := sum_zip (fun b => b.1) (choose l n (lp l n)) l hlen
  have s2 := sum_zip (fun b => b.2) (choose l n (lp l n)) l hlen
  rw [e]
  unfold sumT sumP
  simp only
  rw [s1, s2]
  exact ⟨g2, g3⟩
theorem boxesOk_of {l : List (Int × Int)} (hl : ∀ x ∈ l, BoxFine x) : ∀ n : Int, 1 ≤ n → n ≤ 5 → boxesOk l n = true := by
  induction l with
  | nil => intro n h1 h5; simp [boxesOk, inB]; omega
  | cons x r ih =>
    intro n h1 h5
    have F := hl x List.mem_cons_self
    unfold BoxFine at F
    unfold boxesOk
    have : (!inB x.1 1 50 || !inB x.2 1 1000) = false := by simp [inB]; omega
    rw [this]
    exact ih (fun y hy => hl y (List.mem_cons_of_mem _ hy)) n h1 h5
end Go.Proofs.Ytkljkkonhkakgaa
