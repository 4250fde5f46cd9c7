/- Forced dominoes: in every tiling; what is left without them. Plain laws. -/
import Derived.Test.YtmmeomjclfgljaaTilsPl
namespace Go.Proofs.Ytmmeomjclfgljaa
set_option linter.unusedVariables false
set_option linter.unusedSectionVars false

theorem two_mem {d : Dm} (hd : domOk d = true) : d ∈ (List.range 64).flatMap twoD := by
  rw [List.mem_flatMap]
  refine ⟨domI d, List.mem_range.2 (domI_lt hd).1, ?_⟩
  unfold twoD
  rcases (dom_two hd).2 with ⟨e, _⟩ | ⟨e, _⟩
  · rw [← e]; exact List.mem_cons_self ..
  · rw [← e]; exact List.mem_cons_of_mem _ (List.mem_cons_self ..)
theorem mem_whereL {rows : List Int} {p : Int → Bool} {d : Dm} : d ∈ whereL rows p ↔ domOk d = true ∧ p (cntWith rows d) = true := by
  unfold whereL
  rw [List.mem_filter]
  unfold whereD
  rw [Bool.and_eq_true]
  exact ⟨fun h => h.2, fun h => ⟨two_mem h.1, h⟩⟩
theorem two_nodup : ((List.range 64).flatMap twoD).Nodup := by decide +kernel
theorem whereL_nodup (rows : List Int) (p : Int → Bool) : (whereL rows p).Nodup := List.Nodup.sublist (List.filter_sublist) two_nodup
/-- A domino is possible, if a tiling has it. -/
theorem mem_possible {rows : List Int} (hr : RowsOk rows) {d : Dm} : d ∈ possible rows ↔ ∃ t ∈ tils (setOf rows), d ∈ t := by
  unfold possible
  rw [mem_whereL]
  constructor
  · rintro ⟨a, b⟩
    rw [decide_eq_true_iff, cntWith_is hr d a] at b
    have : 0 < ((tils (setOf rows)).filter (fun t => t.contains d)).length := by omega
    obtain ⟨t, ht⟩ := List.exists_mem_of_length_pos this
    rw [List.mem_filter] at ht
    exact ⟨t, ht.1, by simpa using ht.2⟩
  · rintro ⟨t, ht, hd⟩
    have a := tils_ok ht d hd
    refine ⟨a, ?_⟩
    rw [decide_eq_true_iff, cntWith_is hr d a]
    have : 0 < ((tils (setOf rows)).filter (fun t => t.contains d)).length := List.length_pos_of_mem (List.mem_filter.2 ⟨ht, by simpa using hd⟩)
    omega
/-- A domino is forced, if every tiling has it. -/
theorem mem_forced {rows : List Int} (hr : RowsOk rows) (h0 : cntRows rows ≠ 0) {d : Dm} : d ∈ forced rows ↔ ∀ t ∈ tils (setOf rows), d ∈ t := by
  have hc := cntRows_is hr
  unfold forced
  rw [if_neg h0, mem_whereL]
  constructor
  · rintro ⟨a, b⟩ t ht
    rw [decide_eq_true_iff, cntWith_is hr d a, hc] at b
    have hl : ((tils (setOf rows)).filter (fun t => t.contains d)).length = (tils (setOf rows)).length := by omega
    have := List.length_filter_eq_length_iff.1 hl t ht
    simpa using this
  · intro h
    have hne : (tils (setOf rows)) ≠ [] := fun e => by rw [e] at hc; exact h0 hc
    obtain ⟨t, ht⟩ := List.exists_mem_of_ne_nil _ hne
    have a := tils_ok ht d (h t ht)
    refine ⟨a, ?_⟩
    rw [decide_eq_true_iff, cntWith_is hr d a, hc]
    have := List.length_filter_eq_length_iff.2 (fun t ht => show (fun t : List Dm => t.contains d) t = true by simpa using h t ht)
    omega
theorem forced_nodup (rows : List Int) : (forced rows).Nodup := by
  unfold forced; split
  · exact List.nodup_nil
  · exact whereL_nodup _ _
/-- All dominoes of a list out of a tiling. -/
def outOf (F : List Dm) (t : List Dm) : List Dm := F.foldl (fun t d => t.erase d) t
theorem outOf_mem {F t : List Dm} (h : t.Nodup) {d : Dm} : d ∈ outOf F t ↔ d ∈ t ∧ d ∉ F := by
  induction F generalizing t with
  | nil => simp [outOf]
  | cons x F ih =>
    show d ∈ outOf F (t.erase x) ↔ _
    rw [ih (h.erase x), List.Nodup.mem_erase_iff h]
    constructor
    · rintro ⟨⟨a, b⟩, c⟩
      exact ⟨b, fun q => by rcases List.mem_cons.1 q with q | q; exact a q; exact c q⟩
    · rintro ⟨a, b⟩
      exact ⟨⟨fun q => b (by rw [q]; exact List.mem_cons_self ..), a⟩, fun q => b (List.mem_cons_of_mem _ q)⟩
theorem outOf_len {F t : List Dm} (hF : F.Nodup) (h : ∀ d ∈ F, d ∈ t) (ht : t.Nodup) : (outOf F t).length + F.length = t.length := by
  induction F generalizing t with
  | nil => simp [outOf]
  | cons x F ih =>
    have hx := h x (List.mem_cons_self ..)
    have hF' := List.nodup_cons.1 hF
    have := ih hF'.2 (t := t.erase x) (fun d hd => (List.Nodup.mem_erase_iff ht).2 ⟨fun e => hF'.1 (e ▸ hd), h d (List.mem_cons_of_mem _ hd)⟩) (ht.erase x)
    rw [List.length_erase_of_mem hx] at this
    have := List.length_pos_of_mem hx
    show (outOf F (t.erase x)).length + (F.length + 1) = t.length
    omega
/-- Dominoes that all tilings have: without their cells the tilings are those without them. -/
theorem tils_out : ∀ (F : List Dm) (s : Nat), s < U64 → F.Nodup → tils s ≠ [] → (∀ t ∈ tils s, ∀ d ∈ F, d ∈ t) → tils (sDiff s (coverGo 0 F)) = (tils s).map (outOf F)
  | [], s, hs, _, _, _ => by
    have e : sDiff s (coverGo 0 []) = s := by
      refine Nat.eq_of_testBit_eq fun j => ?_
      rw [sDiff_bit hs (by decide : coverGo 0 [] < U64), coverGo_bit0]; simp
    rw [e]
    have : outOf [] = id := by funext t; rfl
    rw [this, List.map_id]
  | d :: F, s, hs, hF, hne, h => by
    have hF' := List.nodup_cons.1 hF
    obtain ⟨t0, ht0⟩ := List.exists_mem_of_ne_nil _ hne
    have hf := tils_fits ht0 (h t0 ht0 d (List.mem_cons_self ..))
    have hd := (fits_iff.1 hf).1
    have e1 : tils (sDiff s (domSet d)) = (tils s).map (fun t => t.erase d) := by
      rw [← pull hs hf, List.filter_eq_self.2 (fun t ht => by simpa using h t ht d (List.mem_cons_self ..))]
    have e2 : sDiff s (coverGo 0 (d :: F)) = sDiff (sDiff s (domSet d)) (coverGo 0 F) := by
      refine Nat.eq_of_testBit_eq fun j => ?_
      rw [sDiff_bit hs (coverGo_lt _ _ (by decide)), sDiff_bit (sDiff_lt hs) (coverGo_lt _ _ (by decide)), sDiff_bit hs (domSet_lt hd), coverGo_bit0, coverGo_bit0, List.any_cons, hd, Bool.true_and, Bool.not_or, Bool.and_assoc]
    rw [e2, tils_out F _ (sDiff_lt hs) hF'.2 (by rw [e1]; simpa using hne) (fun t ht x hx => ?_), e1, List.map_map]
    · rfl
    · rw [e1] at ht
      obtain ⟨u, hu, rfl⟩ := List.mem_map.1 ht
      exact (List.mem_erase_of_ne (a := x) (b := d) (fun e => hF'.1 (by rw [← e]; exact hx))).2 (h u hu x (List.mem_cons_of_mem _ hx))
section
variable {rows : List Int} (hr : RowsOk rows) (h0 : cntRows rows ≠ 0)
include hr h0
theorem tils_ne : tils (setOf rows) ≠ [] := fun e => by have := cntRows_is hr; rw [e] at this; exact h0 this
theorem free_set : setOf (freeRows rows) = sDiff (setOf rows) (coverGo 0 (forced rows)) := by
  unfold freeRows; rw [if_neg h0, setOf_rowsOf (sDiff_lt (setOf_lt hr))]
theorem free_ok : RowsOk (freeRows rows) := by
  unfold freeRows; rw [if_neg h0]; exact rowsOf_ok _ _ (by decide)
theorem free_tils : tils (setOf (freeRows rows)) = (tils (setOf rows)).map (outOf (forced rows)) := by
  rw [free_set hr h0]
  exact tils_out _ _ (setOf_lt hr) (forced_nodup rows) (tils_ne hr h0) (fun t ht d hd => (mem_forced hr h0).1 hd t ht)
theorem free_cnt : cntRows (freeRows rows) = cntRows rows := by
  rw [cntRows_is (free_ok hr h0), cntRows_is hr, free_tils hr h0, List.length_map]
theorem free_forced : forced (freeRows rows) = [] := by
  rw [List.eq_nil_iff_forall_not_mem]
  intro d hd
  have h1 := (mem_forced (free_ok hr h0) (by rw [free_cnt hr h0]; exact h0)).1 hd
  rw [free_tils hr h0] at h1
  have hin : ∀ t ∈ tils (setOf rows), d ∈ t ∧ d ∉ forced rows := fun t ht => (outOf_mem (tils_nodup ht)).1 (h1 _ (List.mem_map_of_mem ht))
  obtain ⟨t, ht⟩ := List.exists_mem_of_ne_nil _ (tils_ne hr h0)
  exact (hin t ht).2 ((mem_forced hr h0).2 fun t ht => (hin t ht).1)
theorem free_cells : (regCells (freeRows rows)).length + 2 * (forced rows).length = (regCells rows).length := by
  obtain ⟨t, ht⟩ := List.exists_mem_of_ne_nil _ (tils_ne hr h0)
  have h1 : isTiling rows t = true := tils_tiling hr ht
  have h2 : isTiling (freeRows rows) (outOf (forced rows) t) = true := tils_tiling (free_ok hr h0) (by rw [free_tils hr h0]; exact List.mem_map_of_mem ht)
  have h3 := outOf_len (forced_nodup rows) (fun d hd => (mem_forced hr h0).1 hd t ht) (tils_nodup ht)
  unfold isTiling at h1 h2
  rw [Bool.and_eq_true, decide_eq_true_iff] at h1 h2
  omega
end
/-- The possible dominoes over a cell. -/
def overC (rows : List Int) (c : Cl) : List Dm := (possible rows).filter fun d => domHas d c
theorem four_over : ∀ i, i < 64 → (((List.range 64).flatMap twoD).filter fun d => domHas d (ixCell i)).length ≤ 4 := by decide +kernel
theorem filter_len_le {α : Type} (p q : α → Bool) (l : List α) : ((l.filter p).filter q).length ≤ (l.filter q).length := by
  rw [List.filter_filter]
  rw [← List.countP_eq_length_filter, ← List.countP_eq_length_filter]
  exact List.countP_mono_left fun x _ h => by rw [Bool.and_eq_true] at h; exact h.1
theorem over_le (rows : List Int) {i : Nat} (hi : i < 64) : (overC rows (ixCell i)).length ≤ 4 := by
  refine Nat.le_trans ?_ (four_over i hi)
  unfold overC possible whereL
  exact filter_len_le _ _ _
theorem domHas_ix {d : Dm} (hd : domOk d = true) {i : Nat} (hi : i < 64) : domHas d (ixCell i) = (decide (domI d = i) || decide (domJ d = i)) := by
  obtain ⟨a, b⟩ := ixCell_ok hi
  rw [← domHas_bit hd, a, b, Bool.true_and, domSet_bit hd]
section
variable {rows : List Int} (hr : RowsOk rows) (h0 : cntRows rows ≠ 0) {i : Nat} (hi : i < 64) (hb : (setOf rows).testBit i = true)
include hr h0 hi hb
theorem over_some {t : List Dm} (ht : t ∈ tils (setOf rows)) : ∃ d ∈ t, d ∈ overC rows (ixCell i) := by
  obtain ⟨d, hd, e⟩ := (tils_til.1 ht).all i (Nat.zero_le _) hi hb
  refine ⟨d, hd, List.mem_filter.2 ⟨(mem_possible hr).2 ⟨t, ht, hd⟩, ?_⟩⟩
  rw [domHas_ix (tils_ok ht d hd) hi]
  rcases e with e | e <;> simp [e]
theorem over_pos : 1 ≤ (overC rows (ixCell i)).length := by
  obtain ⟨t, ht⟩ := List.exists_mem_of_ne_nil _ (tils_ne hr h0)
  obtain ⟨d, _, hd⟩ := over_some hr h0 hi hb ht
  exact List.length_pos_of_mem hd
/-- One possible domino over a cell: the forced one. -/
theorem over_one : (overC rows (ixCell i)).length = 1 ↔ 0 ≤ domAt (forced rows) (ixCell i) := by
  have hcov : (0 ≤ domAt (forced rows) (ixCell i)) ↔ ∃ d ∈ forced rows, domHas d (ixCell i) = true := by
    rcases domAt_spec (forced rows) (ixCell i) with ⟨a, b⟩ | ⟨j, hj, a, b⟩
    · rw [a]
      constructor
      · intro h; omega
      · rintro ⟨d, hd, hc⟩
        unfold covOf at b
        exact absurd hc (by simpa using List.find?_eq_none.1 b d hd)
    · rw [a]
      constructor
      · intro _
        exact ⟨_, List.getElem_mem hj, by unfold covOf at b; have q := List.find?_some (p := fun x => domHas x (ixCell i)) b; exact q⟩
      · intro _; omega
  rw [hcov]
  constructor
  · intro h
    obtain ⟨d, hd⟩ := List.length_eq_one_iff.1 h
    have hdm : d ∈ overC rows (ixCell i) := by rw [hd]; exact List.mem_singleton.2 rfl
    refine ⟨d, (mem_forced hr h0).2 fun t ht => ?_, (List.mem_filter.1 hdm).2⟩
    obtain ⟨e, he, hem⟩ := over_some hr h0 hi hb ht
    rw [hd, List.mem_singleton] at hem
    rwa [← hem]
  · rintro ⟨d, hd, hc⟩
    have hall := (mem_forced hr h0).1 hd
    have huniq : ∀ e ∈ overC rows (ixCell i), e = d := by
      intro e he
      obtain ⟨h1, h2⟩ := List.mem_filter.1 he
      obtain ⟨t, ht, het⟩ := (mem_possible hr).1 h1
      by_cases q : e = d
      · exact q
      · have ha := (tils_part ht).apart het (hall t ht) q
        have oe := tils_ok ht e het
        have od := tils_ok ht d (hall t ht)
        rw [apart_iff oe od] at ha
        rw [domHas_ix oe hi] at h2
        rw [domHas_ix od hi] at hc
        simp only [Bool.or_eq_true, decide_eq_true_eq] at h2 hc
        omega
    have hn : (overC rows (ixCell i)).Nodup := List.Nodup.sublist (List.filter_sublist) (whereL_nodup _ _)
    have hp := over_pos hr h0 hi hb
    rcases hl : overC rows (ixCell i) with _ | ⟨a, _ | ⟨b, l⟩⟩
    · rw [hl] at hp; simp at hp
    · rfl
    · rw [hl] at huniq hn
      have e1 := huniq a (List.mem_cons_self ..)
      have e2 := huniq b (List.mem_cons_of_mem _ (List.mem_cons_self ..))
      have := (List.nodup_cons.1 hn).1
      exact absurd (show a ∈ b :: l by rw [e1, e2]; exact List.mem_cons_self ..) this
end
/-- A share in lowest terms: the same ratio. -/
theorem share_cross {a b g : Int} (ha : 0 < a) (hab : a ≤ b) (hg : 0 < g) (h1 : g ∣ a) (h2 : g ∣ b) : 1 ≤ a / g ∧ a / g ≤ b / g ∧ (a / g) * b = (b / g) * a := by
  obtain ⟨x, rfl⟩ := h1
  obtain ⟨y, rfl⟩ := h2
  rw [Int.mul_ediv_cancel_left _ (by omega), Int.mul_ediv_cancel_left _ (by omega)]
  refine ⟨?_, ?_, by rw [Int.mul_left_comm, Int.mul_comm x y, Int.mul_left_comm, ← Int.mul_left_comm]⟩
  · rcases Int.lt_or_le x 1 with h | h
    · have := Int.mul_le_mul_of_nonneg_left (show x ≤ 0 by omega) (show 0 ≤ g by omega); omega
    · exact h
  · exact Int.le_of_mul_le_mul_left hab hg
end Go.Proofs.Ytmmeomjclfgljaa
