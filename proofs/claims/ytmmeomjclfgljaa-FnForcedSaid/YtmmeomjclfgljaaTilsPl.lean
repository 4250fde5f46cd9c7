/- Tilings and dominoes: a member is a tiling; the tilings with a domino are the tilings without its cells. Plain laws. -/
import Derived.Test.YtmmeomjclfgljaaListP2
import Derived.Test.YtmmeomjclfgljaaK5
import Derived.Test.YtmmeomjclfgljaaK9
namespace Go.Proofs.Ytmmeomjclfgljaa
set_option linter.unusedVariables false

theorem tils_til {s : Nat} {t : List Dm} : t ∈ tils s ↔ Til 0 s.testBit t := tl_til 64 0 s.testBit t rfl
theorem Til.part {s : Nat} {t : List Dm} (h : Til 0 s.testBit t) : PartOk s t :=
  ⟨fun d hd => by obtain ⟨a, _, c, e⟩ := h.ok d hd; exact in_iff.2 ⟨a, c, e⟩, h.ord, h.ap⟩
theorem tils_part {s : Nat} {t : List Dm} (h : t ∈ tils s) : PartOk s t := (tils_til.1 h).part
theorem tils_ok {s : Nat} {t : List Dm} (h : t ∈ tils s) : ∀ d ∈ t, domOk d = true := fun d hd => (in_iff.1 ((tils_part h).1 d hd)).1
theorem fits_iff {s : Nat} {d : Dm} : fitsD s d = true ↔ domOk d = true ∧ s.testBit (domI d) = true ∧ s.testBit (domJ d) = true := by
  constructor
  · intro h
    unfold fitsD at h
    rw [Bool.and_eq_true, decide_eq_true_iff] at h
    exact ⟨h.1, and_sub h.2 _ (by rw [domSet_bit h.1]; simp), and_sub h.2 _ (by rw [domSet_bit h.1]; simp)⟩
  · rintro ⟨a, b, c⟩
    unfold fitsD
    rw [a, Bool.true_and, decide_eq_true_iff]
    refine and_eq_of_sub fun j hj => ?_
    rw [domSet_bit a, Bool.or_eq_true, decide_eq_true_iff, decide_eq_true_iff] at hj
    rcases hj with rfl | rfl
    · exact b
    · exact c
theorem tils_fits {s : Nat} {t : List Dm} (h : t ∈ tils s) {d : Dm} (hd : d ∈ t) : fitsD s d = true := fits_iff.2 (in_iff.1 ((tils_part h).1 d hd))
theorem tils_cov {s : Nat} (hs : s < U64) {t : List Dm} (h : t ∈ tils s) : coverGo 0 t = s := by
  have T := tils_til.1 h
  refine Nat.eq_of_testBit_eq fun j => ?_
  rw [coverGo_bit0]
  rcases q : s.testBit j with _ | _
  · rw [List.any_eq_false]
    intro d hd
    have := tils_fits h hd
    obtain ⟨a, b, c⟩ := fits_iff.1 this
    rw [a, Bool.true_and, domSet_bit a]
    by_cases e1 : domI d = j
    · rw [e1, q] at b; cases b
    · by_cases e2 : domJ d = j
      · rw [e2, q] at c; cases c
      · simp [e1, e2]
  · have hj : j < 64 := by
      rcases Nat.lt_or_ge j 64 with h | h
      · exact h
      · rw [Nat.testBit_lt_two_pow (Nat.lt_of_lt_of_le hs (by unfold U64; exact Nat.pow_le_pow_right (by decide) h))] at q; cases q
    obtain ⟨d, hd, e⟩ := T.all j (Nat.zero_le _) hj q
    rw [List.any_eq_true]
    refine ⟨d, hd, ?_⟩
    have a := tils_ok h d hd
    rw [a, Bool.true_and, domSet_bit a]
    rcases e with e | e <;> simp [e]
/-- Every member of the list is a tiling. -/
theorem tils_tiling {rows : List Int} (hr : RowsOk rows) {t : List Dm} (h : t ∈ tils (setOf rows)) : isTiling rows t = true := by
  have hp : isPartial rows t = true := isPartial_iff.2 ⟨hr, tils_part h⟩
  rw [isTiling_cover hp, tils_cov (setOf_lt hr) h, decide_eq_true rfl]
theorem tils_len {s : Nat} {t : List Dm} (h : t ∈ tils s) : t.length ≤ 64 := tl_len _ _ _ _ h
theorem tils_nodup {s : Nat} {t : List Dm} (h : t ∈ tils s) : t.Nodup := by
  refine List.Pairwise.imp ?_ (tils_til.1 h).ord
  intro a b hab e
  rw [e] at hab; omega
/-- A branch of the list: those with a domino further on, that domino taken out. -/
theorem pull_branch {n i m : Nat} {S : Nat → Bool} {x d : Dm} {c : Bool} (hn : i + 1 + n = 64) (hx : x ≠ d) (hd : domOk d = true) (hi : i < domI d) (h1 : S (domI d) = true) (h2 : S (domJ d) = true)
    (ih : ∀ S : Nat → Bool, S (domI d) = true → S (domJ d) = true → ((tl n (i + 1) S).filter (fun t => t.contains d)).map (fun t => t.erase d) = tl n (i + 1) (fun j => S j && !decide (j = domI d) && !decide (j = domJ d))) :
    ((if c && S m then (tl n (i + 1) (fun j => S j && !decide (j = m))).map (x :: ·) else []).filter (fun t => t.contains d)).map (fun t => t.erase d) =
      if c && (S m && !decide (m = domI d) && !decide (m = domJ d)) then (tl n (i + 1) (fun j => (S j && !decide (j = domI d) && !decide (j = domJ d)) && !decide (j = m))).map (x :: ·) else [] := by
  by_cases hc : (c && S m) = true
  · rw [if_pos hc]
    obtain ⟨hc1, hc2⟩ := Bool.and_eq_true .. ▸ hc
    rw [List.filter_map, List.map_map]
    have e1 : ((fun t : List Dm => t.contains d) ∘ fun t => x :: t) = fun t => t.contains d := by
      funext t
      simp only [Function.comp_apply, List.contains_cons]
      rw [show (d == x) = false by simpa using fun e => hx e.symm, Bool.false_or]
    have e2 : ((fun t : List Dm => t.erase d) ∘ fun t => x :: t) = (fun t => x :: t) ∘ fun t => t.erase d := by
      funext t
      simp only [Function.comp_apply]
      rw [List.erase_cons_tail (by simpa using hx)]
    rw [e1, e2, ← List.map_map]
    by_cases hm : m = domI d ∨ m = domJ d
    · have hf : (c && (S m && !decide (m = domI d) && !decide (m = domJ d))) = false := by
        rcases hm with e | e <;> simp [e]
      rw [hf, if_neg (by simp)]
      have : (tl n (i + 1) (fun j => S j && !decide (j = m))).filter (fun t => t.contains d) = [] := by
        rw [List.filter_eq_nil_iff]
        intro t ht hcd
        have hdt : d ∈ t := by simpa using hcd
        obtain ⟨_, _, a, b⟩ := ((tl_til n (i + 1) _ t hn).1 ht).ok d hdt
        rcases hm with e | e
        · simp [e] at a
        · simp [e] at b
      rw [this]; rfl
    · have hm1 : m ≠ domI d := fun e => hm (.inl e)
      have hm2 : m ≠ domJ d := fun e => hm (.inr e)
      rw [ih (fun j => S j && !decide (j = m)) (by simp [h1, Ne.symm hm1]) (by simp [h2, Ne.symm hm2])]
      rw [if_pos (by simp [hc1, hc2, hm1, hm2])]
      congr 1
      refine tl_congr _ _ _ _ fun j _ => ?_
      rcases S j <;> rcases decide (j = m) <;> rcases decide (j = domI d) <;> rcases decide (j = domJ d) <;> rfl
  · have hcf : (c && S m) = false := by simpa using hc
    rw [if_neg hc]
    rw [show (c && (S m && !decide (m = domI d) && !decide (m = domJ d))) = false by rw [Bool.and_assoc, ← Bool.and_assoc, hcf]; rfl, if_neg (by simp)]
    rfl
/-- The tilings with a domino, it taken out, are the tilings without its cells, in order. -/
theorem pull_tl {d : Dm} (hd : domOk d = true) : ∀ (n i : Nat) (S : Nat → Bool), i + n = 64 → i ≤ domI d → S (domI d) = true → S (domJ d) = true →
    ((tl n i S).filter (fun t => t.contains d)).map (fun t => t.erase d) = tl n i (fun j => S j && !decide (j = domI d) && !decide (j = domJ d))
  | 0, i, S, hn, hi, h1, h2 => by have := (domI_lt hd).1; omega
  | n + 1, i, S, hn, hi, h1, h2 => by
    have hgt := domJ_gt hd
    rw [tl_succ, tl_succ]
    rcases hS : S i with _ | _
    · have hne : i ≠ domI d := fun e => by rw [e, h1] at hS; cases hS
      simp only [Bool.false_and, Bool.false_eq_true, if_false]
      exact pull_tl hd n (i + 1) S (by omega) (by omega) h1 h2
    · by_cases he : i = domI d
      · have hno : ∀ (S : Nat → Bool) (t : List Dm), t ∈ tl n (i + 1) S → d ∉ t := fun S t ht hdt => by
          have := (((tl_til n (i + 1) S t (by omega)).1 ht).ok d hdt).2.1; omega
        have hall : ∀ (x : Dm) (S : Nat → Bool), x = d → (((tl n (i + 1) S).map (x :: ·)).filter (fun t => t.contains d)).map (fun t => t.erase d) = tl n (i + 1) S := fun x S e => by
          subst e
          rw [List.filter_map, List.map_map]
          have e1 : ((fun t : List Dm => t.contains x) ∘ fun t => x :: t) = fun t => true := by funext t; simp
          have e2 : ((fun t : List Dm => t.erase x) ∘ fun t => x :: t) = id := by funext t; simp
          rw [e1, e2, List.map_id, List.filter_eq_self.2 (fun _ _ => rfl)]
        have hnone : ∀ (x : Dm) (S : Nat → Bool), x ≠ d → (((tl n (i + 1) S).map (x :: ·)).filter (fun t => t.contains d)).map (fun t => t.erase d) = [] := fun x S hx => by
          rw [List.map_eq_nil_iff, List.filter_eq_nil_iff]
          intro t ht hcd
          obtain ⟨t', ht', rfl⟩ := List.mem_map.1 ht
          have hdt : d ∈ x :: t' := by simpa using hcd
          rcases List.mem_cons.1 hdt with e | e
          · exact hx e.symm
          · exact hno S t' ht' e
        simp only [Bool.true_and]
        rw [show (!decide (i = domI d)) = false by simp [he], Bool.false_and, if_neg (c := false = true) (by simp), if_pos trivial]
        rw [List.filter_append, List.map_append]
        rcases (dom_two hd).2 with ⟨e, e7⟩ | ⟨e, e7⟩
        · rw [← he] at e e7
          have hJ : domJ d = i + 1 := by rw [e]; exact (rt_facts (by omega) e7).2.2
          have hdn : domDn i ≠ d := fun q => by rw [e] at q; unfold domDn domRt at q; simp at q
          rw [hJ] at h2
          rw [decide_eq_true e7, h2, Bool.true_and, if_pos (c := true = true) rfl, hall _ _ e.symm]
          have h0 : ((if decide (i < 56) && S (i + 8) then (tl n (i + 1) (fun j => S j && !decide (j = i + 8))).map (domDn i :: ·) else []).filter (fun t => t.contains d)).map (fun t => t.erase d) = [] := by
            split
            · exact hnone _ _ hdn
            · rfl
          rw [h0, List.append_nil]
          refine tl_congr _ _ _ _ fun j hj => ?_
          rw [hJ, decide_eq_false (show ¬ j = domI d by omega)]; simp
        · rw [← he] at e e7
          have hJ : domJ d = i + 8 := by rw [e]; exact (dn_facts e7).2.2
          have hrt : domRt i ≠ d := fun q => by rw [e] at q; unfold domDn domRt at q; simp at q
          rw [hJ] at h2
          rw [decide_eq_true e7, h2, Bool.true_and, if_pos (c := true = true) rfl, hall _ _ e.symm]
          have h0 : ((if decide (i % 8 < 7) && S (i + 1) then (tl n (i + 1) (fun j => S j && !decide (j = i + 1))).map (domRt i :: ·) else []).filter (fun t => t.contains d)).map (fun t => t.erase d) = [] := by
            split
            · exact hnone _ _ hrt
            · rfl
          rw [h0, List.nil_append]
          refine tl_congr _ _ _ _ fun j hj => ?_
          rw [hJ, decide_eq_false (show ¬ j = domI d by omega)]; simp
      · have hi' : i < domI d := by omega
        have hi64 : i < 64 := by have := (domI_lt hd).1; omega
        rw [show (true && !decide (i = domI d) && !decide (i = domJ d)) = true by simp [he]; omega, if_pos (c := true = true) rfl, if_pos (c := true = true) rfl]
        rw [List.filter_append, List.map_append]
        have ih := fun S h1 h2 => pull_tl hd n (i + 1) S (by omega) (by omega) h1 h2
        congr 1
        · refine pull_branch (by omega) (fun e => ?_) hd hi' h1 h2 ih
          rw [← e] at hd hi'
          have := domI_rt hd hi64; omega
        · refine pull_branch (by omega) (fun e => ?_) hd hi' h1 h2 ih
          rw [← e] at hd hi'
          have := domI_dn hd hi64; omega
theorem pull {s : Nat} {d : Dm} (hs : s < U64) (hf : fitsD s d = true) : ((tils s).filter (fun t => t.contains d)).map (fun t => t.erase d) = tils (sDiff s (domSet d)) := by
  obtain ⟨a, b, c⟩ := fits_iff.1 hf
  unfold tils
  rw [pull_tl a 64 0 s.testBit rfl (Nat.zero_le _) b c]
  refine tl_congr _ _ _ _ fun j _ => ?_
  rw [sDiff_bit hs (domSet_lt a), domSet_bit a, Bool.not_or, Bool.and_assoc]
  congr 2
  · congr 1; exact decide_eq_decide.2 ⟨fun e => e.symm, fun e => e.symm⟩
  · congr 1; exact decide_eq_decide.2 ⟨fun e => e.symm, fun e => e.symm⟩
/-- How many tilings a domino is in. -/
theorem cntWith_is {rows : List Int} (hr : RowsOk rows) (d : Dm) (hd : domOk d = true) : cntWith rows d = (((tils (setOf rows)).filter (fun t => t.contains d)).length : Nat) := by
  have hs := setOf_lt hr
  unfold cntWith
  rw [regionOk_iff.2 hr, Bool.true_and]
  rcases h : fitsD (setOf rows) d with _ | _
  · rw [if_neg (by simp), List.filter_eq_nil_iff.2 (fun t ht hc => by
      have := tils_fits ht (show d ∈ t by simpa using hc)
      rw [h] at this; cases this)]; rfl
  · rw [if_pos rfl, cntSet_is (sDiff_lt hs), ← pull hs h, List.length_map]
theorem cntRows_is {rows : List Int} (hr : RowsOk rows) : cntRows rows = ((tils (setOf rows)).length : Nat) := by
  unfold cntRows; rw [if_pos (regionOk_iff.2 hr), cntSet_is (setOf_lt hr)]
end Go.Proofs.Ytmmeomjclfgljaa
