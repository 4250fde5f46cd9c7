/- The laws' copying, comparing, marking and holding of lists of this kind: Cell. No conditions but sizes. -/
import Derived.Test.YtkbndchgmokabaaWords
namespace Go.Proofs.Ytkbndchgmokabaa
open Go.RowKit
set_option linter.unusedVariables false

theorem lenCell : ∀ x : Int × Int, (ePair x).length = 2 := fun _ => rfl
theorem oneCell : ∀ x : Int × Int, ∀ u ∈ ePair x, u.oneCell' = true := by
  intro x u hu; simp [ePair] at hu; rcases hu with rfl | rfl <;> rfl
theorem rowCell : Row Try.prog 46 70 (.agg #[.int .i64 0, .int .i64 0]) 2 16 := ⟨Try.underlying46, by kernel_rfl, rfl, by decide⟩
theorem toCell_any (x : Int × Int) (w : World) : Calls Try.prog 173 #[.agg #[.int .i64 x.1, .int .i64 x.2]] w (Ret (.agg #[.int .i64 x.1, .int .i64 x.2]) w) := by
  go_enter Try.func173, Try.ntmps173
  go_wp2
  refine bodyPost_ret (v := .agg #[.int .i64 x.1, .int .i64 x.2]) (by simp [results, Try.results173, go_sem]) rfl ⟨rfl, ?_⟩
  exact (((Below.refl _ _).al _).al _).al _

theorem eqCell_any (x y : Int × Int) (w : World) : Calls Try.prog 171 #[.agg #[.int .i64 x.1, .int .i64 x.2], .agg #[.int .i64 y.1, .int .i64 y.2]] w (Ret (.bool (x == y)) w) := by
  obtain ⟨x1, x2⟩ := x
  obtain ⟨y1, y2⟩ := y
  go_enter Try.func171, Try.ntmps171
  go_wp2
  all_goals go_ret
  all_goals exact ⟨by simp_all, ((Below.refl _ _).al _).al _⟩

theorem toCells_any (v : Value) (l : List (Int × Int)) (w : World) (h : Rd 2 (RE ePair) w v l) (hl : Small l.length) : Calls Try.prog 151 #[v] w (RetOwn 70 2 ePair l w) := by
  obtain ⟨A, c, rfl, hc, hm⟩ := h.form
  go_enter Try.func151, Try.ntmps151
  go_wp2_with (at_make; go_must (refine wpList_mk (enc := ePair) (z0 := ((0, 0) : Int × Int)) rowCell rfl (Below.refl _ w) l.length hl.by16 hl.max rfl _ _ rfl rfl rfl ?_); intro w1 hown1 hb1 hg1)
  go_loopw [4] (fun i wr => ∃ (k : Nat) (m : List (Int × Int)), k ≤ l.length ∧ i = .int .i64 k ∧ UpTo k m l ∧ OwnL 70 2 ePair w.heap.size wr (.slice (some ⟨w.heap.size, 0, none⟩) l.length l.length) m ∧ Below w.heap.size w wr) (fun i _ => l.length - (intOf i).toNat)
  case atStart => exact ⟨0, List.replicate l.length ((0, 0) : Int × Int), Nat.zero_le _, rfl, UpTo.start _ _ (by simp), hown1, hb1⟩
  case round =>
    obtain ⟨k, m, hk, rfl, hu, hown, hbel⟩ := hrel
    clear hown1 hb1 hg1
    by_cases hlt : k < l.length
    · obtain ⟨b, off, rfl, hb, h1, h2⟩ := (h.below RE.stays hbel).atPair hlt
      go_wp2_with (go_at_call 173; refine (toCell_any l[k] _).mono ?_; rintro e w2 ⟨rfl, hb2⟩; obtain ⟨u0, u1, s0, s1⟩ := (hown.below hb2).slot2 lenCell (k := k) (by rw [hu.1]; omega); have hsf := (hown.below hb2).free)
      go_roundw
      case rel => exact ⟨k + 1, _, by omega, by go_num, hu.step hlt, (hown.below hb2).store2 lenCell (by rw [hu.1]; omega) rfl, ((hbel.tr hb2).st _ _ (Nat.le_refl _)).st _ _ (Nat.le_refl _)⟩
      case measure => simp [intOf]; omega
    · go_wp2
      go_ret
      obtain rfl := hu.done (by omega)
      exact ⟨_, _, rfl, hown, hbel⟩

set_option maxRecDepth 100000 in
theorem eqCells_any (u v : Value) (l m : List (Int × Int)) (w : World) (h : Rd 2 (RE ePair) w u l) (h' : Rd 2 (RE ePair) w v m) : Calls Try.prog 146 #[u, v] w (Ret (.bool (l == m)) w) := by
  obtain ⟨A, c, rfl, hc, hm⟩ := h.form
  obtain ⟨A', c', rfl, hc', hm'⟩ := h'.form
  by_cases hlen : l.length = m.length
  · have hne : ((l.length : Int) != (m.length : Int)) = false := by simp [hlen]
    have Hlen := Lib.hid hlen; clear hlen
    go_enter Try.func146, Try.ntmps146
    go_wp2
    go_loopw [5] (fun i wr => ∃ k : Nat, k ≤ l.length ∧ i = .int .i64 k ∧ Hid ((l.drop k == m.drop k) = (l == m)) ∧ Below w.heap.size w wr) (fun i _ => l.length - (intOf i).toNat)
    case atStart => exact ⟨0, Nat.zero_le _, rfl, Lib.hid rfl, Below.refl _ _⟩
    case round =>
      obtain ⟨k, hk, rfl, Hg, hbel⟩ := hrel
      by_cases hlt : k < l.length
      · have hlm : k < m.length := by have := Hlen.out; omega
        obtain ⟨b, off, rfl, hb, h1, h2⟩ := (h.below RE.stays hbel).atPair hlt
        obtain ⟨b', off', rfl, hb', q1, q2⟩ := (h'.below RE.stays hbel).atPair hlm
        have hlt' : (k : Int) < (m.length : Int) := by omega
        go_wp2_with fail
        go_still_tail 8, (by kernel_rfl)
        go_wp2_with (go_at_call 171; (with_reducible refine (eqCell_any l[k] m[k] _).mono ?_); rintro e w2 ⟨rfl, hb2⟩; obtain ⟨hc2, hf2, hz2⟩ := bk hb2; try simp at hz2)
        all_goals first
          | (go_roundw
             case rel => exact ⟨k + 1, by omega, by go_num, eq_go Hg hlt hlm (by rename_i hx; simpa using hx), hbel.drew.tr hb2⟩
             case measure => simp [intOf]; omega)
          | (go_ret
             exact ⟨retB (eq_no Hg hlt hlm (by rename_i hx; simpa using hx)).symm, hbel.drew.tr hb2⟩)
      · go_wp2
        go_ret
        exact ⟨retB (eq_end Hg (by omega) (by have := Hlen.out; omega)).symm, hbel⟩
  · have hne : ((l.length : Int) != (m.length : Int)) = true := by simp; omega
    go_enter Try.func146, Try.ntmps146
    go_wp2
    go_ret
    exact ⟨retB (by rw [eq_comm, beq_eq_false_iff_ne]; exact fun e => hlen (by rw [e])), Below.refl _ _⟩

theorem szCells_any (v : Value) (l : List (Int × Int)) (left : Int) (w : World) (h : Rd 2 (RE ePair) w v l) (h0 : 0 ≤ left) (h1 : left ≤ 1048576) : Calls Try.prog 149 #[v, .int .i64 left] w (Pure (.int .i64 (szOf left l.length)) w) := by
  obtain ⟨A, c, rfl, hc, hm⟩ := h.form
  go_enter Try.func149, Try.ntmps149
  go_wp2
  all_goals go_ret
  all_goals exact ⟨by simp_all [szOf]; try omega, rfl⟩

/-- The marks that the law writes into n elements, from k on. -/
def mkCell (k : Int) (j : Nat) : Int × Int := (k + 2 * j, k + 2 * j + 1)
def marksCell (k : Int) (n : Nat) : List (Int × Int) := (List.range n).map (mkCell k)
theorem marksCell_set {m l : List (Int × Int)} {j : Nat} {k : Int} (h : m.length = l.length) (e : m.take j = marksCell k j) (hj : j < l.length) : (m.set j (mkCell k j)).length = l.length ∧ (m.set j (mkCell k j)).take (j + 1) = marksCell k (j + 1) := by
  refine ⟨by simpa using h, ?_⟩
  rw [take_set _ (by omega), e]
  simp [marksCell, List.range_succ]
theorem markCells_any (v : Value) (l : List (Int × Int)) (k : Int) (B : Nat) (w : World) (h : OwnL 70 2 ePair B w v l) (h0 : 0 ≤ k) (h1 : k ≤ 67108864) (hl : l.length ≤ 1048576) :
    Calls Try.prog 147 #[v, .int .i64 k] w (Marked (.int .i64 (k + 2 * l.length)) v (fun w' => OwnL 70 2 ePair B w' v (marksCell k l.length)) w) := by
  obtain ⟨A, c, rfl, hc, hm⟩ := h.form
  go_enter Try.func147, Try.ntmps147
  go_wp2
  go_loopw [1, 5] (fun q i wr => ∃ (j : Nat) (m : List (Int × Int)), j ≤ l.length ∧ i = .int .i64 j ∧ q = .int .i64 (k + 2 * j) ∧ Hid (m.length = l.length ∧ m.take j = marksCell k j) ∧ OwnL 70 2 ePair B wr (.slice A l.length c) m ∧ w.grownBy wr (Value.slice A l.length c).ownBlock) (fun _ i _ => l.length - (intOf i).toNat)
  case atStart => exact ⟨0, l, Nat.zero_le _, rfl, by simp, Lib.hid ⟨rfl, rfl⟩, h, World.grownBy.refl _ _⟩
  case round =>
    obtain ⟨j, m, hj, rfl, rfl, Hg, hown, hgr⟩ := hrel
    by_cases hlt : j < l.length
    · obtain ⟨g, rfl, hB, hgl⟩ := hown.split (k := j) (by rw [Hg.out.1]; omega)
      obtain ⟨u0, u1, s0, s1⟩ := hown.slot2 lenCell (k := j) (by rw [Hg.out.1]; omega)
      have hsf := hown.free
      go_wp2
      go_roundw
      case rel => exact ⟨j + 1, m.set j (mkCell k j), by omega, by go_num, by go_num, Lib.hid (marksCell_set Hg.out.1 Hg.out.2 hlt), hown.store2 lenCell (by rw [Hg.out.1]; omega) rfl, gr_set (gr_set hgr _ _) _ _⟩
      case measure => simp [intOf]; omega
    · go_wp2
      go_ret
      obtain rfl : j = l.length := by omega
      exact ⟨rfl, by have e := Hg.out.2; rw [List.take_of_length_le (by rw [Hg.out.1]; omega)] at e; rw [← e]; exact hown, hgr⟩

theorem heldCells_any (v : Value) (k : Int) (n : Nat) (w : World) (h : Rd 2 (RE ePair) w v (marksCell k n)) (h0 : 0 ≤ k) (h1 : k ≤ 67108864) (hl : n ≤ 1048576) :
    Calls Try.prog 148 #[v, .int .i64 k] w (Pure (.int .i64 (k + 2 * n)) w) := by
  have hlen : (marksCell k n).length = n := by simp [marksCell]
  obtain ⟨A, c, rfl, hc, hm⟩ := h.form
  rw [hlen] at h hc hm ⊢
  go_enter Try.func148, Try.ntmps148
  go_wp2
  go_loop [1, 5] (fun q i => ∃ j : Nat, j ≤ n ∧ i = .int .i64 j ∧ q = .int .i64 (k + 2 * j)) (fun _ i => n - (intOf i).toNat)
  case atStart => exact ⟨0, Nat.zero_le _, rfl, by simp⟩
  case round =>
    obtain ⟨j, hj, rfl, rfl⟩ := hrel
    by_cases hlt : j < n
    · obtain ⟨b, off, rfl, hb, k1, k2⟩ := h.atPair (k := j) (by omega)
      simp only [marksCell, mkCell, List.getElem_map, List.getElem_range] at k1 k2
      clear hlen
      go_wp2
      go_round
      case rel => exact ⟨j + 1, by omega, by go_num, by go_num⟩
      case measure => simp [intOf]; omega
    · go_wp2
      go_ret
      obtain rfl : j = n := by omega
      exact ⟨rfl, rfl⟩

end Go.Proofs.Ytkbndchgmokabaa
