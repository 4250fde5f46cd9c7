/- The least prices of boxes as numbers, and the choice of boxes: plain laws. Conditions: valid boxes. -/
import Derived.Test.YtmmeomjclfgljaaGreatK2
namespace Go.Proofs.YtmmeomjclfgljaaGreat
open Go.ChangeShapes Go.WideShapes Go.ChangeAt Go.RowKit
set_option linter.unusedVariables false

theorem leastGo_snoc (l : List (Int × Int)) : ∀ (j : Nat) (out : List Int), leastGo l (j + 1) out = leastGo l j out ++ [bestOf (leastGo l j out) (leastGo l j out).length l (-1)] := by
  intro j
  induction j with
  | zero => intro out; rfl
  | succ j ih => intro out; rw [leastGo, ih, ← leastGo]
theorem least_succ (l : List (Int × Int)) (n : Nat) : least l (n + 1) = least l n ++ [bestOf (least l n) ((n + 1 : Nat) : Int) l (-1)] := by
  have := leastGo_snoc l n [0]
  have e : (leastGo l n [0]).length = n + 1 := least_len l n
  rw [e] at this
  exact this
/-- The least price of boxes that hold n. -/
def lp (l : List (Int × Int)) (i : Nat) : Int := (least l i).getD i 0
theorem least_at (l : List (Int × Int)) : ∀ (N i : Nat), i ≤ N → (least l N).getD i 0 = lp l i := by
  intro N
  induction N with
  | zero => intro i h; obtain rfl : i = 0 := by omega
            rfl
  | succ N ih =>
    intro i h
    by_cases hi : i = N + 1
    · subst hi; rfl
    · rw [least_succ, List.getD_eq_getElem?_getD, List.getElem?_append_left (by rw [least_len]; omega), ← List.getD_eq_getElem?_getD]
      exact ih i (by omega)
theorem lp_zero (l : List (Int × Int)) : lp l 0 = 0 := rfl
theorem lp_succ (l : List (Int × Int)) (n : Nat) : lp l (n + 1) = bestOf (least l n) ((n + 1 : Nat) : Int) l (-1) := by
  unfold lp
  rw [least_succ, List.getD_eq_getElem?_getD, List.getElem?_append_right (by rw [least_len]; omega), least_len]
  simp
theorem lp_nil (n : Nat) : lp [] (n + 1) = -1 := by rw [lp_succ]; rfl
/-- What is left to hold. -/
def nd (n : Nat) (s : Int) : Nat := ((n : Int) - s).toNat
theorem best_spec (f : Int × Int → Int) (out : List Int) (m : Int) : ∀ (r : List (Int × Int)) (best : Int), (∀ b ∈ r, out.getD (m - b.1).toNat 0 + b.2 = f b ∧ 0 ≤ f b) → -1 ≤ best → (r ≠ [] ∨ 0 ≤ best) →
    0 ≤ bestOf out m r best ∧ (∀ b ∈ r, bestOf out m r best ≤ f b) ∧ (0 ≤ best → bestOf out m r best ≤ best) ∧ ((0 ≤ best ∧ bestOf out m r best = best) ∨ ∃ b ∈ r, bestOf out m r best = f b) := by
  intro r
  induction r with
  | nil => intro best _ _ h; rcases h with h | h
           · exact absurd rfl h
           · exact ⟨h, (fun b hb => absurd hb (by simp)), (fun _ => Int.le_refl _), Or.inl ⟨h, rfl⟩⟩
  | cons x r ih =>
    intro best hf h1 h2
    obtain ⟨e, hx⟩ := hf x List.mem_cons_self
    have hf' : ∀ b ∈ r, out.getD (m - b.1).toNat 0 + b.2 = f b ∧ 0 ≤ f b := fun b hb => hf b (List.mem_cons_of_mem _ hb)
    rw [bestOf, e]
    by_cases hc : best < 0 ∨ f x < best
    · rw [if_pos hc]
      obtain ⟨k1, k2, k3, k4⟩ := ih (f x) hf' (by omega) (.inr hx)
      have k3' := k3 hx
      refine ⟨k1, fun b hb => ?_, fun _ => by omega, ?_⟩
      · rcases List.mem_cons.1 hb with rfl | hb
        · exact k3'
        · exact k2 b hb
      · rcases k4 with ⟨_, k4⟩ | ⟨b, hb, k4⟩
        · exact .inr ⟨x, List.mem_cons_self, k4⟩
        · exact .inr ⟨b, List.mem_cons_of_mem _ hb, k4⟩
    · rw [if_neg hc]
      have h0 : 0 ≤ best := by omega
      obtain ⟨k1, k2, k3, k4⟩ := ih best hf' h1 (.inr h0)
      have k3' := k3 h0
      refine ⟨k1, fun b hb => ?_, fun _ => k3', ?_⟩
      · rcases List.mem_cons.1 hb with rfl | hb
        · omega
        · exact k2 b hb
      · rcases k4 with ⟨_, k4⟩ | ⟨b, hb, k4⟩
        · exact .inl ⟨h0, k4⟩
        · exact .inr ⟨b, List.mem_cons_of_mem _ hb, k4⟩
def Fine (l : List (Int × Int)) : Prop := ∀ x ∈ l, BoxFine x
theorem Fine.tail {b : Int × Int} {l : List (Int × Int)} (h : Fine (b :: l)) : Fine l := fun x hx => h x (List.mem_cons_of_mem _ hx)
theorem lp_main (l : List (Int × Int)) (hl : Fine l) (hne : l ≠ []) : ∀ n : Nat, 0 ≤ lp l n ∧ ∀ m, n = m + 1 → (∀ b ∈ l, lp l n ≤ lp l (nd n b.1) + b.2) ∧ ∃ b ∈ l, lp l n = lp l (nd n b.1) + b.2 := by
  intro n
  induction n using Nat.strongRecOn with
  | ind n ih =>
    rcases n with _ | n
    · exact ⟨Int.le_refl _, fun m h => by cases h⟩
    · have key : ∀ b ∈ l, (least l n).getD (((n + 1 : Nat) : Int) - b.1).toNat 0 + b.2 = lp l (nd (n + 1) b.1) + b.2 ∧ 0 ≤ lp l (nd (n + 1) b.1) + b.2 := by
        intro b hb
        have F := hl b hb
        unfold BoxFine at F
        have hi : (((n + 1 : Nat) : Int) - b.1).toNat ≤ n := by omega
        rw [least_at l n _ hi]
        have := (ih _ (show (((n + 1 : Nat) : Int) - b.1).toNat < n + 1 by omega)).1
        exact ⟨rfl, by unfold nd; omega⟩
      obtain ⟨k1, k2, _, k4⟩ := best_spec (fun b => lp l (nd (n + 1) b.1) + b.2) (least l n) ((n + 1 : Nat) : Int) l (-1) key (by omega) (.inl hne)
      rw [← lp_succ] at k1 k2 k4
      refine ⟨k1, fun m _ => ⟨k2, ?_⟩⟩
      rcases k4 with ⟨h, _⟩ | h
      · omega
      · exact h
theorem lp_nonneg {l : List (Int × Int)} (hl : Fine l) (hne : l ≠ []) (n : Nat) : 0 ≤ lp l n := (lp_main l hl hne n).1
theorem lp_le {l : List (Int × Int)} (hl : Fine l) {b : Int × Int} (hb : b ∈ l) (n : Nat) : lp l n ≤ lp l (nd n b.1) + b.2 := by
  have hne : l ≠ [] := by rintro rfl; cases hb
  rcases n with _ | n
  · have := lp_nonneg hl hne (nd 0 b.1)
    have F := hl b hb
    unfold BoxFine at F
    rw [lp_zero]; omega
  · exact ((lp_main l hl hne (n + 1)).2 n rfl).1 b hb
theorem lp_ex {l : List (Int × Int)} (hl : Fine l) (hne : l ≠ []) {n : Nat} (hn : 0 < n) : ∃ b ∈ l, lp l n = lp l (nd n b.1) + b.2 := by
  obtain ⟨m, rfl⟩ : ∃ m, n = m + 1 := ⟨n - 1, by omega⟩
  exact ((lp_main l hl hne (m + 1)).2 m rfl).2
theorem nd_lt {n : Nat} {s : Int} (hn : 0 < n) (hs : 1 ≤ s) : nd n s < n := by unfold nd; omega
theorem nd_le (n : Nat) {s : Int} (hs : 0 ≤ s) : nd n s ≤ n := by unfold nd; omega
theorem lp_neg {l : List (Int × Int)} (hl : Fine l) {n : Nat} (h : lp l n < 0) : l = [] ∧ 0 < n := by
  refine ⟨Classical.byContradiction fun hne => ?_, ?_⟩
  · have := lp_nonneg hl hne n; omega
  · rcases n with _ | n
    · rw [lp_zero] at h; omega
    · omega
/-- Fewer kinds cost no less. -/
theorem lp_sub {b : Int × Int} {l : List (Int × Int)} (hl : Fine (b :: l)) : ∀ n : Nat, 0 ≤ lp l n → lp (b :: l) n ≤ lp l n := by
  intro n
  induction n using Nat.strongRecOn with
  | ind n ih =>
    intro h
    rcases Nat.eq_zero_or_pos n with rfl | hn
    · rw [lp_zero, lp_zero]; omega
    · have hne : l ≠ [] := by
        rintro rfl
        obtain ⟨m, rfl⟩ : ∃ m, n = m + 1 := ⟨n - 1, by omega⟩
        rw [lp_nil] at h; omega
      obtain ⟨c, hc, e⟩ := lp_ex hl.tail hne hn
      have F := hl.tail c hc
      unfold BoxFine at F
      have i1 := ih (nd n c.1) (nd_lt hn F.1) (lp_nonneg hl.tail hne _)
      have i2 := lp_le hl (List.mem_cons_of_mem b hc) n
      omega
theorem nd_mul (n k : Nat) {s : Int} (hs : 1 ≤ s) : nd (nd n s) (k * s) = nd n ((k + 1 : Nat) * s) := by
  have e : ((k + 1 : Nat) : Int) * s = k * s + s := by rw [Int.natCast_add, Int.add_mul]; simp
  have h0 : 0 ≤ (k : Int) * s := Int.mul_nonneg (by omega) (by omega)
  rw [e]; unfold nd; omega
theorem nd_comm (n : Nat) {s t : Int} (hs : 0 ≤ s) (ht : 0 ≤ t) : nd (nd n s) t = nd (nd n t) s := by unfold nd; omega
theorem nd_zero (n : Nat) (s : Int) : nd n ((0 : Nat) * s) = n := by unfold nd; simp
theorem lp_low {b : Int × Int} {l : List (Int × Int)} (hl : Fine (b :: l)) : ∀ (k n : Nat), 0 ≤ lp l (nd n (k * b.1)) → lp (b :: l) n ≤ lp l (nd n (k * b.1)) + k * b.2 := by
  have F := hl b List.mem_cons_self
  unfold BoxFine at F
  intro k
  induction k with
  | zero => intro n h; rw [nd_zero] at h ⊢; have := lp_sub hl n h; omega
  | succ k ih =>
    intro n h
    rw [← nd_mul n k F.1] at h ⊢
    have i1 := ih (nd n b.1) h
    have i2 := lp_le hl (List.mem_cons_self (a := b) (l := l)) n
    have e : ((k + 1 : Nat) : Int) * b.2 = k * b.2 + b.2 := by rw [Int.natCast_add, Int.add_mul]; simp
    omega
/-- Some number of boxes of the first kind is right. -/
theorem lp_first {b : Int × Int} {l : List (Int × Int)} (hl : Fine (b :: l)) : ∀ n : Nat, ∃ k : Nat, k ≤ n ∧ 0 ≤ lp l (nd n (k * b.1)) ∧ lp l (nd n (k * b.1)) + k * b.2 = lp (b :: l) n := by
  have F := hl b List.mem_cons_self
  unfold BoxFine at F
  intro n
  induction n using Nat.strongRecOn with
  | ind n ih =>
    rcases Nat.eq_zero_or_pos n with rfl | hn
    · exact ⟨0, by omega, by rw [nd_zero, lp_zero]; omega, by rw [nd_zero, lp_zero, lp_zero]; simp⟩
    · obtain ⟨c, hc, e⟩ := lp_ex hl (by simp) hn
      have Fc := hl c hc
      unfold BoxFine at Fc
      obtain ⟨k, hk, h0, he⟩ := ih (nd n c.1) (nd_lt hn Fc.1)
      have hkn := nd_lt hn Fc.1
      rcases List.mem_cons.1 hc with rfl | hc'
      · refine ⟨k + 1, by omega, ?_, ?_⟩
        · rw [← nd_mul n k F.1]; exact h0
        · rw [← nd_mul n k F.1]
          have e2 : ((k + 1 : Nat) : Int) * c.2 = k * c.2 + c.2 := by rw [Int.natCast_add, Int.add_mul]; simp
          omega
      · have hne : l ≠ [] := by rintro rfl; cases hc'
        have h0' := lp_nonneg hl.tail hne (nd n (k * b.1))
        refine ⟨k, by omega, h0', ?_⟩
        have ks : 0 ≤ (k : Int) * b.1 := Int.mul_nonneg (by omega) (by omega)
        have i1 := lp_le hl.tail hc' (nd n (k * b.1))
        rw [nd_comm n ks (by omega)] at i1
        have i2 := lp_low hl k n h0'
        omega
/-- Is k the number of the first kind? -/
def fits (l : List (Int × Int)) (n : Nat) (b : Int × Int) (left : Int) (k : Nat) : Bool := decide (0 ≤ lp l (nd n (k * b.1))) && decide (lp l (nd n (k * b.1)) + k * b.2 = left)
def kOf (l : List (Int × Int)) (n : Nat) (b : Int × Int) (left : Int) : Nat := ((List.range (n + 1)).find? fun k => fits l n b left k).getD 0
theorem kOf_spec {b : Int × Int} {l : List (Int × Int)} (hl : Fine (b :: l)) (n : Nat) : kOf l n b (lp (b :: l) n) ≤ n ∧ fits l n b (lp (b :: l) n) (kOf l n b (lp (b :: l) n)) = true ∧ ∀ j, j < kOf l n b (lp (b :: l) n) → fits l n b (lp (b :: l) n) j = false := by
  obtain ⟨k, hk, h0, he⟩ := lp_first hl n
  have hf : fits l n b (lp (b :: l) n) k = true := by unfold fits; simp [h0, he]
  rcases hx : (List.range (n + 1)).find? fun k => fits l n b (lp (b :: l) n) k with _ | x
  · have := List.find?_eq_none.1 hx k (by simp; omega)
    exact absurd hf this
  · have e : kOf l n b (lp (b :: l) n) = x := by unfold kOf; rw [hx]; rfl
    rw [e]
    obtain ⟨h1, xs, ys, h2, h3⟩ := List.find?_eq_some_iff_append.1 hx
    have hmem : x ∈ List.range (n + 1) := by rw [h2]; simp
    refine ⟨by have := List.mem_range.1 hmem; omega, h1, fun j hj => ?_⟩
    have hlen : xs.length = x := by
      have h4 : (List.range (n + 1))[xs.length]? = some x := by rw [h2]; simp
      rw [List.getElem?_range (by have := congrArg List.length h2; simp at this; omega)] at h4
      injection h4
    have h5 : (List.range (n + 1))[j]? = some j := List.getElem?_range (by have := List.mem_range.1 hmem; omega)
    rw [h2, List.getElem?_append_left (by omega)] at h5
    have := h3 j (List.mem_of_getElem? h5)
    simpa using this
/-- The choice of boxes. -/
def choose : List (Int × Int) → Nat → Int → List Int
  | [], _, _ => []
  | b :: r, n, left => (kOf r n b left : Int) :: choose r (nd n (kOf r n b left * b.1)) (left - kOf r n b left * b.2)
theorem choose_len : ∀ (l : List (Int × Int)) (n : Nat) (left : Int), (choose l n left).length = l.length := by
  intro l
  induction l with
  | nil => intro n left; rfl
  | cons b r ih => intro n left; simp [choose, ih]
theorem fits_left {l : List (Int × Int)} {n : Nat} {b : Int × Int} {left : Int} {k : Nat} (h : fits l n b left k = true) : left - k * b.2 = lp l (nd n (k * b.1)) ∧ 0 ≤ lp l (nd n (k * b.1)) := by
  unfold fits at h; simp at h; omega
/-- The boxes that are chosen hold enough, and cost the least. -/
theorem choose_good : ∀ (l : List (Int × Int)) (n : Nat), Fine l → 0 ≤ lp l n → (∀ k ∈ choose l n (lp l n), 0 ≤ k ∧ k ≤ n) ∧
    (n : Int) ≤ (List.zipWith (fun c b => c * b.1) (choose l n (lp l n)) l).sum ∧ (List.zipWith (fun c b => c * b.2) (choose l n (lp l n)) l).sum = lp l n := by
  intro l
  induction l with
  | nil =>
    intro n _ h
    rcases n with _ | n
    · exact ⟨fun k hk => (by cases hk), by simp [choose], by simp [choose, lp_zero]⟩
    · rw [lp_nil] at h; omega
  | cons b r ih =>
    intro n hl h
    have F := hl b List.mem_cons_self
    unfold BoxFine at F
    obtain ⟨k1, k2, _⟩ := kOf_spec hl n
    obtain ⟨k3, k4⟩ := fits_left k2
    obtain ⟨i1, i2, i3⟩ := ih _ hl.tail k4
    have ks : 0 ≤ (kOf r n b (lp (b :: r) n) : Int) * b.1 := Int.mul_nonneg (by omega) (by omega)
    have hle := nd_le n ks
    simp only [choose, k3]
    generalize kOf r n b (lp (b :: r) n) = K at *
    refine ⟨fun k hk => ?_, ?_, ?_⟩
    · rcases List.mem_cons.1 hk with rfl | hk
      · omega
      · have := i1 k hk; omega
    · simp only [List.zipWith_cons_cons, List.sum_cons]
      unfold nd at i2 ⊢
      omega
    · simp only [List.zipWith_cons_cons, List.sum_cons, i3]
      omega
/-- More tiles cost no less; two purchases cost no less than one. -/
theorem lp_mono {l : List (Int × Int)} (hl : Fine l) (hne : l ≠ []) : ∀ n m : Nat, n ≤ m → lp l n ≤ lp l m := by
  intro n m
  induction m using Nat.strongRecOn generalizing n with
  | ind m ih =>
    intro h
    rcases Nat.eq_zero_or_pos m with rfl | hm
    · obtain rfl : n = 0 := by omega
      exact Int.le_refl _
    · obtain ⟨c, hc, e⟩ := lp_ex hl hne hm
      have Fc := hl c hc
      unfold BoxFine at Fc
      have i1 := ih (nd m c.1) (nd_lt hm Fc.1) (nd n c.1) (by unfold nd; omega)
      have i2 := lp_le hl hc n
      omega
theorem lp_add {l : List (Int × Int)} (hl : Fine l) (hne : l ≠ []) : ∀ n m : Nat, lp l (n + m) ≤ lp l n + lp l m := by
  intro n
  induction n using Nat.strongRecOn with
  | ind n ih =>
    intro m
    rcases Nat.eq_zero_or_pos n with rfl | hn
    · rw [lp_zero, Nat.zero_add]; omega
    · obtain ⟨c, hc, e⟩ := lp_ex hl hne hn
      have Fc := hl c hc
      unfold BoxFine at Fc
      have i1 := ih (nd n c.1) (nd_lt hn Fc.1) m
      have i2 := lp_le hl hc (n + m)
      have i3 := lp_mono hl hne (nd (n + m) c.1) (nd n c.1 + m) (by unfold nd; omega)
      omega
theorem lp_pos {l : List (Int × Int)} (hl : Fine l) (hne : l ≠ []) {n : Nat} (hn : 0 < n) : 0 < lp l n := by
  obtain ⟨c, hc, e⟩ := lp_ex hl hne hn
  have Fc := hl c hc
  unfold BoxFine at Fc
  have := lp_nonneg hl hne (nd n c.1)
  omega
/-- No price beats the best box's. -/
theorem lp_best {l : List (Int × Int)} (hl : Fine l) (hne : l ≠ []) {s p : Int} (hs : 1 ≤ s) (hp : 1 ≤ p) (hb : ∀ c ∈ l, p * c.1 ≤ c.2 * s) : ∀ n : Nat, n * p ≤ lp l n * s := by
  intro n
  induction n using Nat.strongRecOn with
  | ind n ih =>
    rcases Nat.eq_zero_or_pos n with rfl | hn
    · rw [lp_zero]; simp
    · obtain ⟨c, hc, e⟩ := lp_ex hl hne hn
      have Fc := hl c hc
      unfold BoxFine at Fc
      have i1 := ih (nd n c.1) (nd_lt hn Fc.1)
      have i2 := hb c hc
      have e2 : (lp l (nd n c.1) + c.2) * s = lp l (nd n c.1) * s + c.2 * s := Int.add_mul _ _ _
      have i3 : (n : Int) * p ≤ ((nd n c.1 : Nat) + c.1) * p := Int.mul_le_mul_of_nonneg_right (by unfold nd; omega) (by omega)
      have e3 : (((nd n c.1 : Nat) : Int) + c.1) * p = (nd n c.1 : Nat) * p + p * c.1 := by rw [Int.add_mul, Int.mul_comm c.1 p]
      rw [e, e2]; omega
theorem lp_bound {l : List (Int × Int)} (hl : Fine l) (n : Nat) : -1 ≤ lp l n ∧ lp l n ≤ 1000 * n := by
  have h := leastGo_priced l hl n [0] (by simp) priced_start
  have hn : n < (least l n).length := by rw [least_len]; omega
  have := h n (least l n)[n] (List.getElem?_eq_getElem hn)
  have e : lp l n = (least l n)[n] := by unfold lp; rw [List.getD_eq_getElem?_getD, List.getElem?_eq_getElem hn]; rfl
  rw [e]; exact this
end Go.Proofs.YtmmeomjclfgljaaGreat
