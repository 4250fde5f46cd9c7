/- A floor read back from its lines; its signs counted. Plain laws. -/
import Derived.Test.YtkbndchgmokabaaPartPl
import Derived.Test.YtkbndchgmokabaaReadPl
import Derived.Test.YtkbndchgmokabaaCount
import Derived.Test.YtkbndchgmokabaaRegPlain
namespace Go.Proofs.Ytkbndchgmokabaa
open Go.ChangeShapes Go.WideShapes Go.ChangeAt Go.RowKit
set_option linter.unusedVariables false

theorem chAt_fStr (s : Nat) (l : List Dm) (y : Nat) {x : Nat} (hx : x < 8) : chAt (fStr s l y 8) x = sgn s l x y := by
  unfold chAt fStr fLine
  simp [hx]
theorem lineAt_fText (s : Nat) (l : List Dm) {n y : Nat} (hy : y < n) : lineAt (fText s l n) y = fStr s l y 8 := by
  unfold lineAt fText
  simp [hy]
theorem markOf_ne (d : Dm) (c : Cl) : markOf d c ≠ 46 ∧ markOf d c ≠ 63 := by unfold markOf; split <;> split <;> decide
theorem sgn_46 (s : Nat) (l : List Dm) (x y : Nat) : decide (sgn s l x y ≠ 46) = s.testBit (8 * y + x) := by
  unfold sgn
  rcases q : s.testBit (8 * y + x) with _ | _
  · simp
  · simp only [if_true]
    split
    · simp
    · rename_i d _; simpa using (markOf_ne d _).1
theorem rows_back {rows : List Int} (ho : RowsOk rows) (l : List Dm) : rowsTo (fText (setOf rows) l rows.length) rows.length = rows := by
  apply List.ext_getElem
  · rw [rowsTo_len]
  · intro y h1 h2
    have hl := lineAt_fText (setOf rows) l h2
    have hr : rowOf (fText (setOf rows) l rows.length) y = rowLine (fStr (setOf rows) l y 8) 8 := by unfold rowOf; rw [hl, if_pos (fStr_size _ _ _ _)]
    have e : (rowsTo (fText (setOf rows) l rows.length) rows.length)[y] = (rowOf (fText (setOf rows) l rows.length) y : Int) := by simp only [rowsTo, List.getElem_map, List.getElem_range]
    rw [e, hr]
    have hin := ho.2 rows[y] (List.getElem_mem h2)
    have e2 : rowLine (fStr (setOf rows) l y 8) 8 = rows[y].toNat := by
      refine row_ext (Nat.lt_of_lt_of_le (rowLine_lt _ 8) (by decide)) (by omega) fun x hx => ?_
      rw [rowLine_bit, chAt_fStr _ _ _ hx, sgn_46, setOf_bit ho, show (8 * y + x) / 8 = y by omega, show (8 * y + x) % 8 = x by omega, List.getD_eq_getElem?_getD, List.getElem?_eq_getElem h2]
      simp [hx]
    rw [e2]; omega
theorem ixc (x y : Nat) (hx : x < 8) (hy : y < 8) : cellOk ((x : Int), (y : Int)) = true ∧ (cellIx ((x : Int), (y : Int))).toNat = 8 * y + x := by
  have h : cellOk ((x : Int), (y : Int)) = true := cellOk_iff.2 (by simp only; omega)
  refine ⟨h, ?_⟩
  rw [(cellIx_in h).1]; simp only; omega
theorem bit_row {rows : List Int} (ho : RowsOk rows) {i : Nat} (h : (setOf rows).testBit i = true) : i < 8 * rows.length := by
  rw [setOf_bit ho, List.getD_eq_getElem?_getD] at h
  by_cases q : i / 8 < rows.length
  · omega
  · rw [List.getElem?_eq_none (by omega)] at h; simp at h
section
variable {rows : List Int} {l : List Dm}
theorem cov_iff (hp : PartOk (setOf rows) l) (c : Cl) (d : Dm) : covOf l c = some d ↔ d ∈ l ∧ domHas d c = true := by
  constructor
  · intro h
    exact ⟨List.mem_of_find?_eq_some h, List.find?_some (p := fun e => domHas e c) h⟩
  · rintro ⟨a, b⟩; exact cov_one hp a b
theorem has_ix {d : Dm} (hd : domOk d = true) {x y : Nat} (hx : x < 8) (hy : y < 8) : (domHas d ((x : Int), (y : Int)) = true ↔ domI d = 8 * y + x ∨ domJ d = 8 * y + x) ∧ ((d.1, d.2.1) = ((x : Int), (y : Int)) ↔ domI d = 8 * y + x) := by
  obtain ⟨hc, hi⟩ := ixc x y hx hy
  refine ⟨?_, ?_⟩
  · rw [← domHas_bit hd, hc, Bool.true_and, hi, domSet_bit hd]; simp
  · have h1 := (domOk_cells hd).1
    constructor
    · intro e; unfold domI; rw [e, hi]
    · intro e; exact cellIx_inj h1 hc (by rw [hi]; exact e)
theorem sgn_case (hp : PartOk (setOf rows) l) {x y : Nat} (hx : x < 8) (hy : y < 8) (m : UInt8) (hm : m ≠ 46 ∧ m ≠ 63) :
    sgn (setOf rows) l x y = m ↔ ∃ d, d ∈ l ∧ (domI d = 8 * y + x ∨ domJ d = 8 * y + x) ∧ markOf d ((x : Int), (y : Int)) = m := by
  constructor
  · intro h
    unfold sgn at h
    rcases q : (setOf rows).testBit (8 * y + x) with _ | _
    · rw [q] at h; simp at h; exact absurd h.symm hm.1
    · rw [q] at h
      simp only [if_true] at h
      split at h
      · exact absurd h.symm hm.2
      · rename_i d hd
        obtain ⟨a, b⟩ := (cov_iff hp _ _).1 hd
        exact ⟨d, a, (has_ix (hp.1 d a).1 hx hy).1.1 b, h⟩
  · rintro ⟨d, a, b, e⟩
    have hd := (hp.1 d a).1
    have hh := (has_ix hd hx hy).1.2 b
    have hs : (setOf rows).testBit (8 * y + x) = true := (hp.1 d a).2 _ (by rw [domSet_bit hd]; rcases b with b | b <;> simp [b])
    unfold sgn
    rw [hs, (cov_iff hp _ _).2 ⟨a, hh⟩]
    exact e
theorem sgn_60 (hp : PartOk (setOf rows) l) {x y : Nat} (hx : x < 8) (hy : y < 8) : sgn (setOf rows) l x y = 60 ↔ ∃ d, d ∈ l ∧ d.2.2 = false ∧ domI d = 8 * y + x := by
  rw [sgn_case hp hx hy 60 (by decide)]
  constructor
  · rintro ⟨d, a, b, e⟩
    unfold markOf at e
    rcases q : d.2.2 with _ | _
    · rw [q] at e
      simp only [Bool.false_eq_true, if_false] at e
      by_cases r : (d.1, d.2.1) = ((x : Int), (y : Int))
      · exact ⟨d, a, q, (has_ix (hp.1 d a).1 hx hy).2.1 r⟩
      · rw [if_neg r] at e; exact absurd e (by decide)
    · rw [q] at e; simp only [if_true] at e; split at e <;> simp at e
  · rintro ⟨d, a, q, e⟩
    refine ⟨d, a, .inl e, ?_⟩
    unfold markOf
    rw [q, (has_ix (hp.1 d a).1 hx hy).2.2 e]; simp
theorem sgn_94 (hp : PartOk (setOf rows) l) {x y : Nat} (hx : x < 8) (hy : y < 8) : sgn (setOf rows) l x y = 94 ↔ ∃ d, d ∈ l ∧ d.2.2 = true ∧ domI d = 8 * y + x := by
  rw [sgn_case hp hx hy 94 (by decide)]
  constructor
  · rintro ⟨d, a, b, e⟩
    unfold markOf at e
    rcases q : d.2.2 with _ | _
    · rw [q] at e; simp only [Bool.false_eq_true, if_false] at e; split at e <;> simp at e
    · rw [q] at e
      by_cases r : (d.1, d.2.1) = ((x : Int), (y : Int))
      · exact ⟨d, a, q, (has_ix (hp.1 d a).1 hx hy).2.1 r⟩
      · rw [if_neg r] at e; simp at e
  · rintro ⟨d, a, q, e⟩
    refine ⟨d, a, .inl e, ?_⟩
    unfold markOf
    rw [q, (has_ix (hp.1 d a).1 hx hy).2.2 e]; simp
theorem sgn_62 (hp : PartOk (setOf rows) l) {x y : Nat} (hx : x < 8) (hy : y < 8) : sgn (setOf rows) l x y = 62 ↔ ∃ d, d ∈ l ∧ d.2.2 = false ∧ domJ d = 8 * y + x := by
  rw [sgn_case hp hx hy 62 (by decide)]
  constructor
  · rintro ⟨d, a, b, e⟩
    unfold markOf at e
    rcases q : d.2.2 with _ | _
    · rw [q] at e
      simp only [Bool.false_eq_true, if_false] at e
      by_cases r : (d.1, d.2.1) = ((x : Int), (y : Int))
      · rw [if_pos r] at e; exact absurd e (by decide)
      · rcases b with b | b
        · exact absurd ((has_ix (hp.1 d a).1 hx hy).2.2 b) r
        · exact ⟨d, a, q, b⟩
    · rw [q] at e; simp only [if_true] at e; split at e <;> simp at e
  · rintro ⟨d, a, q, e⟩
    refine ⟨d, a, .inr e, ?_⟩
    unfold markOf
    have : ¬ (d.1, d.2.1) = ((x : Int), (y : Int)) := fun r => by
      have := (has_ix (hp.1 d a).1 hx hy).2.1 r
      exact dom_ne (hp.1 d a).1 (by omega)
    rw [q]
    first | (rw [if_neg this]; rfl) | (simp only [Bool.false_eq_true, if_false]; rw [if_neg this])
theorem sgn_118 (hp : PartOk (setOf rows) l) {x y : Nat} (hx : x < 8) (hy : y < 8) : sgn (setOf rows) l x y = 118 ↔ ∃ d, d ∈ l ∧ d.2.2 = true ∧ domJ d = 8 * y + x := by
  rw [sgn_case hp hx hy 118 (by decide)]
  constructor
  · rintro ⟨d, a, b, e⟩
    unfold markOf at e
    rcases q : d.2.2 with _ | _
    · rw [q] at e; simp only [Bool.false_eq_true, if_false] at e; split at e <;> simp at e
    · rw [q] at e
      by_cases r : (d.1, d.2.1) = ((x : Int), (y : Int))
      · rw [if_pos r] at e; simp at e
      · rcases b with b | b
        · exact absurd ((has_ix (hp.1 d a).1 hx hy).2.2 b) r
        · exact ⟨d, a, q, b⟩
  · rintro ⟨d, a, q, e⟩
    refine ⟨d, a, .inr e, ?_⟩
    unfold markOf
    have : ¬ (d.1, d.2.1) = ((x : Int), (y : Int)) := fun r => by
      have := (has_ix (hp.1 d a).1 hx hy).2.1 r
      exact dom_ne (hp.1 d a).1 (by omega)
    rw [q]
    first | (rw [if_neg this]; rfl) | (simp only [Bool.false_eq_true, if_false]; rw [if_neg this])
/-- The dominoes that the lines say. -/
theorem doms_mem (ho : RowsOk rows) (hp : PartOk (setOf rows) l) (d : Dm) : d ∈ domsTo (fText (setOf rows) l rows.length) rows.length ↔ d ∈ l := by
  unfold domsTo
  rw [List.mem_flatMap]
  constructor
  · rintro ⟨y, hy, hd⟩
    rw [List.mem_range] at hy
    have hy8 : y < 8 := by have := ho.1; omega
    unfold lineDoms at hd
    rw [lineAt_fText _ _ hy, if_pos (fStr_size _ _ _ _)] at hd
    unfold domsLine at hd
    rw [List.mem_flatMap] at hd
    obtain ⟨x, hx, hd⟩ := hd
    rw [List.mem_range] at hx
    unfold domAtCh at hd
    rw [chAt_fStr _ _ _ hx] at hd
    have key : ∀ e : Dm, e ∈ l → domI e = 8 * y + x → e = ((x : Int), (y : Int), e.2.2) := fun e he h => by
      have := (has_ix (hp.1 e he).1 hx hy8).2.2 h
      obtain ⟨a, b, c⟩ := e
      simp only [Prod.mk.injEq] at this ⊢
      exact ⟨this.1, this.2, trivial⟩
    split at hd
    · rename_i q
      obtain ⟨e, he, e2, e3⟩ := (sgn_60 hp hx hy8).1 q
      rw [List.mem_singleton] at hd
      rw [hd, ← e2, ← key e he e3]; exact he
    · split at hd
      · rename_i q
        obtain ⟨e, he, e2, e3⟩ := (sgn_94 hp hx hy8).1 q
        rw [List.mem_singleton] at hd
        rw [hd, ← e2, ← key e he e3]; exact he
      · cases hd
  · intro hd
    have hok := (hp.1 d hd).1
    have D := domOk_fst hok
    have hI := (hp.1 d hd).2 (domI d) (by rw [domSet_bit hok]; simp)
    have hr := bit_row ho hI
    obtain ⟨a, b, c⟩ := d
    simp only at D
    obtain ⟨x, rfl⟩ := Int.eq_ofNat_of_zero_le D.1.1
    obtain ⟨y, rfl⟩ := Int.eq_ofNat_of_zero_le D.2.1
    have hx : x < 8 := by omega
    have hy8 : y < 8 := by omega
    have hi : domI ((x : Int), (y : Int), c) = 8 * y + x := (ixc x y hx hy8).2
    rw [hi] at hr
    have hy : y < rows.length := by omega
    refine ⟨y, List.mem_range.2 hy, ?_⟩
    unfold lineDoms
    rw [lineAt_fText _ _ hy, if_pos (fStr_size _ _ _ _)]
    unfold domsLine
    rw [List.mem_flatMap]
    refine ⟨x, List.mem_range.2 hx, ?_⟩
    unfold domAtCh
    rw [chAt_fStr _ _ _ hx]
    cases c
    · rw [(sgn_60 hp hx hy8).2 ⟨_, hd, rfl, hi⟩]; simp
    · rw [(sgn_94 hp hx hy8).2 ⟨_, hd, rfl, hi⟩]; simp
theorem domAtCh_mem {s : ByteArray} {y x : Nat} {d : Dm} (h : d ∈ domAtCh s y x) : d.1 = x ∧ d.2.1 = y := by
  unfold domAtCh at h
  split at h
  · rw [List.mem_singleton] at h; rw [h]; exact ⟨rfl, rfl⟩
  · split at h
    · rw [List.mem_singleton] at h; rw [h]; exact ⟨rfl, rfl⟩
    · cases h
theorem domAtCh_pw (s : ByteArray) (y x : Nat) : (domAtCh s y x).Pairwise fun a b => domOrd a < domOrd b := by
  unfold domAtCh; split
  · simp
  · split <;> simp
theorem ord_bound (d : Dm) : 2 * (d.2.1 * 8 + d.1) ≤ domOrd d ∧ domOrd d ≤ 2 * (d.2.1 * 8 + d.1) + 1 := by unfold domOrd; split <;> omega
theorem domsTo_pw (ls : List ByteArray) (n : Nat) : (domsTo ls n).Pairwise fun a b => domOrd a < domOrd b := by
  unfold domsTo
  rw [List.pairwise_flatMap]
  refine ⟨fun y _ => ?_, ?_⟩
  · unfold lineDoms
    split
    · unfold domsLine
      rw [List.pairwise_flatMap]
      refine ⟨fun x _ => domAtCh_pw _ _ _, List.pairwise_lt_range.imp fun {a b} hab p hp q hq => ?_⟩
      have h1 := domAtCh_mem hp
      have h2 := domAtCh_mem hq
      have h3 := ord_bound p
      have h4 := ord_bound q
      omega
    · simp
  · have hm : ∀ y d, d ∈ lineDoms ls y → d.2.1 = y ∧ 0 ≤ d.1 ∧ d.1 ≤ 7 := fun y d hd => by
      unfold lineDoms at hd
      split at hd
      · unfold domsLine at hd
        rw [List.mem_flatMap] at hd
        obtain ⟨x, hx, hd⟩ := hd
        rw [List.mem_range] at hx
        have := domAtCh_mem hd
        omega
      · cases hd
    refine List.pairwise_lt_range.imp fun {a b} hab p hp q hq => ?_
    have h1 := hm a p hp
    have h2 := hm b q hq
    have h3 := ord_bound p
    have h4 := ord_bound q
    omega
theorem doms_back (ho : RowsOk rows) (hp : PartOk (setOf rows) l) : domsTo (fText (setOf rows) l rows.length) rows.length = l :=
  sorted_eq (domsTo_pw _ _) hp.2.1 (doms_mem ho hp)
theorem read_back (h : isPartial rows l = true) : readOk (floorLines rows l) = true ∧ readRows (floorLines rows l) = rows ∧ readDoms (floorLines rows l) = l := by
  obtain ⟨ho, hp⟩ := isPartial_iff.1 h
  have e : floorLines rows l = fText (setOf rows) l rows.length := by unfold floorLines; rw [if_pos h]
  have h1 := rows_back ho l
  have h2 := doms_back ho hp
  have h3 : readOk (floorLines rows l) = true := by
    unfold readOk
    rw [e, fText_len, h1, h2, h, e, decide_eq_true ho.1]; simp
  refine ⟨h3, ?_, ?_⟩
  · unfold readRows; rw [if_pos h3, e, fText_len, h1]
  · unfold readDoms; rw [if_pos h3, e, fText_len, h2]
/-- Signs counted. -/
theorem cntF_add (f : Nat → Bool) (a : Nat) : ∀ b, cntF f (a + b) = cntF f a + cntF (fun x => f (a + x)) b
  | 0 => rfl
  | b + 1 => by
    show cntF f (a + b + 1) = _
    rw [cntF_succ, cntF_succ, cntF_add f a b]; omega
theorem cnt_list (c : UInt8) (f : Nat → UInt8) : ∀ k, ((List.range k).map f).countP (· == c) = cntF (fun x => f x == c) k
  | 0 => rfl
  | k + 1 => by
    rw [List.range_succ, List.map_append, List.countP_append, cnt_list c f k, cntF_succ]
    cases q : (f k == c) <;> simp [q]
theorem cnt_fStr (s : Nat) (m : List Dm) (y : Nat) (c : UInt8) : cnt (fStr s m y 8) c = cntF (fun x => sgn s m x y == c) 8 := by
  unfold cnt cntTo
  rw [fStr_size]
  have : (fStr s m y 8).data.toList = (List.range 8).map fun x => sgn s m x y := by unfold fStr fLine; simp
  rw [this, List.take_of_length_le (by simp)]
  exact cnt_list c _ 8
theorem cnt_text (s : Nat) (m : List Dm) (c : UInt8) : ∀ n, cntAll (fText s m n) c = cntF (fun i => sgn s m (i % 8) (i / 8) == c) (8 * n)
  | 0 => rfl
  | n + 1 => by
    rw [fText_succ]
    unfold cntAll
    rw [List.map_append, List.sum_append]
    have ih := cnt_text s m c n
    unfold cntAll at ih
    rw [ih, show 8 * (n + 1) = 8 * n + 8 by omega, cntF_add]
    congr 1
    simp only [List.map_cons, List.map_nil, List.sum_cons, List.sum_nil, Nat.add_zero, cnt_fStr]
    refine cntF_congr 8 fun j hj => ?_
    rw [show (8 * n + j) % 8 = j by omega, show (8 * n + j) / 8 = n by omega]
theorem cnt_inj (f : Dm → Nat) (K : Nat) : ∀ m : List Dm, (m.map f).Nodup → (∀ d ∈ m, f d < K) → cntF (fun i => m.any fun d => decide (f d = i)) K = m.length
  | [], _, _ => cntF_none K (fun j _ => rfl)
  | d :: r, hn, hb => by
    rw [List.map_cons, List.nodup_cons] at hn
    have ih := cnt_inj f K r hn.2 (fun e he => hb e (List.mem_cons_of_mem _ he))
    have hnot : (r.any fun e => decide (f e = f d)) = false := by
      rw [List.any_eq_false]
      intro e he
      simp only [decide_eq_true_eq]
      intro h
      exact hn.1 (List.mem_map.2 ⟨e, he, h⟩)
    have := cntF_del (f := fun i => (d :: r).any fun e => decide (f e = i)) (g := fun i => r.any fun e => decide (f e = i)) (i := f d) (fun j hj => by
      have : decide (f d = j) = false := by simp; omega
      simp only [List.any_cons, this, Bool.false_or]) (by simp) hnot K
    rw [if_pos (hb d (List.mem_cons_self ..)), ih] at this
    rw [this]; rfl
theorem inj_nodup {f : Dm → Nat} : ∀ {m : List Dm}, m.Nodup → (∀ a ∈ m, ∀ b ∈ m, f a = f b → a = b) → (m.map f).Nodup
  | [], _, _ => by simp
  | d :: r, hn, hi => by
    rw [List.nodup_cons] at hn
    rw [List.map_cons, List.nodup_cons]
    refine ⟨fun h => ?_, inj_nodup hn.2 (fun a ha b hb => hi a (List.mem_cons_of_mem _ ha) b (List.mem_cons_of_mem _ hb))⟩
    obtain ⟨e, he, h2⟩ := List.mem_map.1 h
    have := hi e (List.mem_cons_of_mem _ he) d (List.mem_cons_self ..) h2
    exact hn.1 (this ▸ he)
theorem sorted_nodup {m : List Dm} (h : m.Pairwise fun a b => domOrd a < domOrd b) : m.Nodup := h.imp fun {a b} hab e => by subst e; omega
theorem cnt_side (ho : RowsOk rows) (hp : PartOk (setOf rows) l) (p : Dm → Bool) (f : Dm → Nat) (hf : ∀ d ∈ l, (domSet d).testBit (f d) = true) (c : UInt8)
    (hs : ∀ x y, x < 8 → y < 8 → (sgn (setOf rows) l x y = c ↔ ∃ d, d ∈ l ∧ p d = true ∧ f d = 8 * y + x)) : cntAll (fText (setOf rows) l rows.length) c = (l.filter p).length := by
  rw [cnt_text]
  have hinj : ∀ a ∈ l, ∀ b ∈ l, f a = f b → a = b := fun a ha b hb h => by
    by_cases e : a = b
    · exact e
    · have := hp.apart ha hb e _ (hf a ha)
      rw [h, hf b hb] at this; cases this
  have hn : ((l.filter p).map f).Nodup := inj_nodup ((sorted_nodup hp.2.1).filter _) (fun a ha b hb => hinj a (List.mem_filter.1 ha).1 b (List.mem_filter.1 hb).1)
  rw [← cnt_inj f (8 * rows.length) (l.filter p) hn (fun d hd => by
    have hd' := (List.mem_filter.1 hd).1
    exact bit_row ho ((hp.1 d hd').2 _ (hf d hd')))]
  refine cntF_congr _ fun j hj => ?_
  have h8 := ho.1
  have := hs (j % 8) (j / 8) (by omega) (by omega)
  rw [Bool.eq_iff_iff, beq_iff_eq, this, List.any_eq_true]
  constructor
  · rintro ⟨d, a, b, e⟩
    exact ⟨d, List.mem_filter.2 ⟨a, b⟩, by simp only [decide_eq_true_eq]; omega⟩
  · rintro ⟨d, a, e⟩
    obtain ⟨a1, a2⟩ := List.mem_filter.1 a
    simp only [decide_eq_true_eq] at e
    exact ⟨d, a1, a2, by omega⟩
def acrossP (d : Dm) : Bool := !d.2.2
def downP (d : Dm) : Bool := d.2.2
theorem filter_both : ∀ m : List Dm, (m.filter acrossP).length + (m.filter downP).length = m.length
  | [] => rfl
  | d :: r => by
    have := filter_both r
    rw [List.filter_cons, List.filter_cons]
    rcases q : d.2.2 with _ | _ <;> simp [acrossP, downP, q] <;> (unfold acrossP at *; unfold downP at *; omega)
theorem filter_cells (s : Nat) (p : Cl → Bool) : ∀ k, ((cellsTo s k).filter p).length = cntF (fun i => s.testBit i && p (ixCell i)) k
  | 0 => rfl
  | k + 1 => by
    rw [cellsTo_succ, List.filter_append, List.length_append, filter_cells s p k, cntF_succ]
    rcases q : s.testBit k with _ | _
    · simp
    · rcases r : p (ixCell k) with _ | _ <;> simp [r]
def uncov (rows : List Int) (l : List Dm) : List Cl := (regCells rows).filter fun c => decide (domAt l c < 0)
theorem domAt_neg (m : List Dm) (c : Cl) : decide (domAt m c < 0) = (covOf m c).isNone := by
  rcases domAt_spec m c with ⟨a, b⟩ | ⟨j, hj, a, b⟩
  · rw [a, b]; rfl
  · rw [a, b]; simp
theorem cntF_past {f : Nat → Bool} {a : Nat} : ∀ {b}, (∀ j, a ≤ j → f j = false) → cntF f (a + b) = cntF f a := by
  intro b h
  rw [cntF_add, cntF_none b (fun j _ => h _ (by omega)), Nat.add_zero]
theorem cnt_63 (h : isPartial rows l = true) : cntAll (floorLines rows l) 63 = (uncov rows l).length := by
  obtain ⟨ho, hp⟩ := isPartial_iff.1 h
  have e : floorLines rows l = fText (setOf rows) l rows.length := by unfold floorLines; rw [if_pos h]
  have h8 := ho.1
  rw [e, cnt_text]
  unfold uncov regCells
  rw [if_pos (regionOk_iff.2 ho), filter_cells, show (64 : Nat) = 8 * rows.length + (64 - 8 * rows.length) by omega, cntF_past (fun j hj => by
    rcases q : (setOf rows).testBit j with _ | _
    · rfl
    · have := bit_row ho q; omega)]
  refine cntF_congr _ fun j hj => ?_
  rw [domAt_neg]
  have hc : ixCell j = (((j % 8 : Nat) : Int), ((j / 8 : Nat) : Int)) := by unfold ixCell; simp
  unfold sgn
  rw [hc, show 8 * (j / 8) + j % 8 = j by omega]
  rcases q : (setOf rows).testBit j with _ | _
  · simp
  · simp only [if_true, Bool.true_and]
    split
    · rename_i r; rw [r]; rfl
    · rename_i d r
      rw [r]
      simp only [Option.isNone_some, beq_eq_false_iff_ne]
      exact (markOf_ne d _).2
theorem cnt_signs (h : isPartial rows l = true) : cntAll (floorLines rows l) 60 = cntAll (floorLines rows l) 62 ∧ cntAll (floorLines rows l) 94 = cntAll (floorLines rows l) 118 ∧ cntAll (floorLines rows l) 60 + cntAll (floorLines rows l) 94 = l.length := by
  obtain ⟨ho, hp⟩ := isPartial_iff.1 h
  have e : floorLines rows l = fText (setOf rows) l rows.length := by unfold floorLines; rw [if_pos h]
  have hI : ∀ d ∈ l, (domSet d).testBit (domI d) = true := fun d hd => by rw [domSet_bit (hp.1 d hd).1]; simp
  have hJ : ∀ d ∈ l, (domSet d).testBit (domJ d) = true := fun d hd => by rw [domSet_bit (hp.1 d hd).1]; simp
  have a := cnt_side ho hp acrossP domI hI 60 (fun x y hx hy => by rw [sgn_60 hp hx hy]; simp [acrossP])
  have b := cnt_side ho hp acrossP domJ hJ 62 (fun x y hx hy => by rw [sgn_62 hp hx hy]; simp [acrossP])
  have c := cnt_side ho hp downP domI hI 94 (fun x y hx hy => by rw [sgn_94 hp hx hy]; simp [downP])
  have d := cnt_side ho hp downP domJ hJ 118 (fun x y hx hy => by rw [sgn_118 hp hx hy]; simp [downP])
  have f := filter_both l
  rw [e]
  omega
end
end Go.Proofs.Ytkbndchgmokabaa
