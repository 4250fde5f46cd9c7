/- The laws' copying, comparing, marking and holding of lists of this kind: Dom. No conditions but sizes. -/
import Derived.Test.YtkbndchgmokabaaWords
namespace Go.Proofs.Ytkbndchgmokabaa
open Go.RowKit
set_option linter.unusedVariables false

theorem lenDom : ∀ x : Int × Int × Bool, (eDom x).length = 3 := fun _ => rfl
theorem oneDom : ∀ x : Int × Int × Bool, ∀ u ∈ eDom x, u.oneCell' = true := by
  intro x u hu; simp [eDom] at hu; rcases hu with rfl | rfl | rfl <;> rfl
theorem rowDom : Row Try.prog 37 73 (.agg #[.int .i64 0, .int .i64 0, .bool false]) 3 24 := ⟨Try.underlying37, by kernel_rfl, rfl, by decide⟩
theorem toDom_any (x : Int × Int × Bool) (w : World) : Calls Try.prog 108 #[.agg #[.int .i64 x.1, .int .i64 x.2.1, .bool x.2.2]] w (Ret (.agg #[.int .i64 x.1, .int .i64 x.2.1, .bool x.2.2]) w) := by
  go_enter Try.func108, Try.ntmps108
  go_wp2
  refine bodyPost_ret (v := .agg #[.int .i64 x.1, .int .i64 x.2.1, .bool x.2.2]) (by simp [results, Try.results108, go_sem]) rfl ⟨rfl, ?_⟩
  exact (((Below.refl _ _).al _).al _).al _

theorem eqDom_any (x y : Int × Int × Bool) (w : World) : Calls Try.prog 109 #[.agg #[.int .i64 x.1, .int .i64 x.2.1, .bool x.2.2], .agg #[.int .i64 y.1, .int .i64 y.2.1, .bool y.2.2]] w (Ret (.bool (x == y)) w) := by
  obtain ⟨x1, x2, x3⟩ := x
  obtain ⟨y1, y2, y3⟩ := y
  go_enter Try.func109, Try.ntmps109
  go_wp2
  all_goals go_ret
  all_goals exact ⟨by simp_all, ((Below.refl _ _).al _).al _⟩

theorem toDoms_any (v : Value) (l : List (Int × Int × Bool)) (w : World) (h : Rd 3 (RE eDom) w v l) (hl : Small l.length) : Calls Try.prog 32 #[v] w (RetOwn 73 3 eDom l w) := by
  obtain ⟨A, c, rfl, hc, hm⟩ := h.form
  go_enter Try.func32, Try.ntmps32
  go_wp2_with (at_make; go_must (refine wpList_mk (enc := eDom) (z0 := ((0, 0, false) : Int × Int × Bool)) rowDom rfl (Below.refl _ w) l.length hl.by24 hl.max rfl _ _ rfl rfl rfl ?_); intro w1 hown1 hb1 hg1)
  go_loopw [4] (fun i wr => ∃ (k : Nat) (m : List (Int × Int × Bool)), k ≤ l.length ∧ i = .int .i64 k ∧ UpTo k m l ∧ OwnL 73 3 eDom w.heap.size wr (.slice (some ⟨w.heap.size, 0, none⟩) l.length l.length) m ∧ Below w.heap.size w wr) (fun i _ => l.length - (intOf i).toNat)
  case atStart => exact ⟨0, List.replicate l.length ((0, 0, false) : Int × Int × Bool), Nat.zero_le _, rfl, UpTo.start _ _ (by simp), hown1, hb1⟩
  case round =>
    obtain ⟨k, m, hk, rfl, hu, hown, hbel⟩ := hrel
    clear hown1 hb1 hg1
    by_cases hlt : k < l.length
    · obtain ⟨b, off, rfl, hb, h1, h2, h3⟩ := (h.below RE.stays hbel).atDom hlt
      go_wp2_with (go_at_call 108; refine (toDom_any l[k] _).mono ?_; rintro e w2 ⟨rfl, hb2⟩; obtain ⟨u0, u1, u2, s0, s1, s2⟩ := (hown.below hb2).slot3 lenDom (k := k) (by rw [hu.1]; omega); have hsf := (hown.below hb2).free)
      go_roundw
      case rel => exact ⟨k + 1, _, by omega, by go_num, hu.step hlt, (hown.below hb2).store3 lenDom (by rw [hu.1]; omega) rfl, (((hbel.tr hb2).st _ _ (Nat.le_refl _)).st _ _ (Nat.le_refl _)).st _ _ (Nat.le_refl _)⟩
      case measure => simp [intOf]; omega
    · go_wp2
      go_ret
      obtain rfl := hu.done (by omega)
      exact ⟨_, _, rfl, hown, hbel⟩

set_option maxRecDepth 100000 in
theorem eqDoms_any (u v : Value) (l m : List (Int × Int × Bool)) (w : World) (h : Rd 3 (RE eDom) w u l) (h' : Rd 3 (RE eDom) w v m) : Calls Try.prog 34 #[u, v] w (Ret (.bool (l == m)) w) := by
  obtain ⟨A, c, rfl, hc, hm⟩ := h.form
  obtain ⟨A', c', rfl, hc', hm'⟩ := h'.form
  by_cases hlen : l.length = m.length
  · have hne : ((l.length : Int) != (m.length : Int)) = false := by simp [hlen]
    have Hlen := Lib.hid hlen; clear hlen
    go_enter Try.func34, Try.ntmps34
    go_wp2
    go_loopw [5] (fun i wr => ∃ k : Nat, k ≤ l.length ∧ i = .int .i64 k ∧ Hid ((l.drop k == m.drop k) = (l == m)) ∧ Below w.heap.size w wr) (fun i _ => l.length - (intOf i).toNat)
    case atStart => exact ⟨0, Nat.zero_le _, rfl, Lib.hid rfl, Below.refl _ _⟩
    case round =>
      obtain ⟨k, hk, rfl, Hg, hbel⟩ := hrel
      by_cases hlt : k < l.length
      · have hlm : k < m.length := by have := Hlen.out; omega
        obtain ⟨b, off, rfl, hb, h1, h2, h3⟩ := (h.below RE.stays hbel).atDom hlt
        obtain ⟨b', off', rfl, hb', q1, q2, q3⟩ := (h'.below RE.stays hbel).atDom hlm
        have hlt' : (k : Int) < (m.length : Int) := by omega
        go_wp2_with fail
        go_still_tail 8, (by kernel_rfl)
        go_wp2_with (go_at_call 109; (with_reducible refine (eqDom_any l[k] m[k] _).mono ?_); rintro e w2 ⟨rfl, hb2⟩; obtain ⟨hc2, hf2, hz2⟩ := bk hb2; try simp at hz2)
        all_goals first
          | (go_roundw
             case rel => exact ⟨k + 1, by omega, by go_num, eq_go Hg hlt hlm (by rename_i hx; simpa using hx), hbel.drew.tr hb2⟩
             case measure => simp [intOf]; omega)
          | (go_ret
             exact ⟨retB (eq_no Hg hlt hlm (by rename_i hx; simpa using hx)).symm, hbel.drew.tr hb2⟩)
      · go_wp2
        go_ret
        exact ⟨retB (eq_end Hg (by omega) (by have := Hlen.out; omega)).symm, hbel⟩
  · have hne : ((l.length : Int) != (m.length : Int)) = true := by simp; omega
    go_enter Try.func34, Try.ntmps34
    go_wp2
    go_ret
    exact ⟨retB (by rw [eq_comm, beq_eq_false_iff_ne]; exact fun e => hlen (by rw [e])), Below.refl _ _⟩

theorem szDoms_any (v : Value) (l : List (Int × Int × Bool)) (left : Int) (w : World) (h : Rd 3 (RE eDom) w v l) (h0 : 0 ≤ left) (h1 : left ≤ 1048576) : Calls Try.prog 30 #[v, .int .i64 left] w (Pure (.int .i64 (szOf left l.length)) w) := by
  obtain ⟨A, c, rfl, hc, hm⟩ := h.form
  go_enter Try.func30, Try.ntmps30
  go_wp2
  all_goals go_ret
  all_goals exact ⟨by simp_all [szOf]; try omega, rfl⟩

/-- The marks that the law writes into n elements, from k on. -/
def mkDom (k : Int) (j : Nat) : Int × Int × Bool := (k + 3 * j, k + 3 * j + 1, ((k + 3 * j + 1 + 1) % 3 == 0))
def marksDom (k : Int) (n : Nat) : List (Int × Int × Bool) := (List.range n).map (mkDom k)
theorem marksDom_set {m l : List (Int × Int × Bool)} {j : Nat} {k : Int} (h : m.length = l.length) (e : m.take j = marksDom k j) (hj : j < l.length) : (m.set j (mkDom k j)).length = l.length ∧ (m.set j (mkDom k j)).take (j + 1) = marksDom k (j + 1) := by
  refine ⟨by simpa using h, ?_⟩
  rw [take_set _ (by omega), e]
  simp [marksDom, List.range_succ]
theorem markDoms_any (v : Value) (l : List (Int × Int × Bool)) (k : Int) (B : Nat) (w : World) (h : OwnL 73 3 eDom B w v l) (h0 : 0 ≤ k) (h1 : k ≤ 67108864) (hl : l.length ≤ 1048576) :
    Calls Try.prog 36 #[v, .int .i64 k] w (Marked (.int .i64 (k + 3 * l.length)) v (fun w' => OwnL 73 3 eDom B w' v (marksDom k l.length)) w) := by
  obtain ⟨A, c, rfl, hc, hm⟩ := h.form
  go_enter Try.func36, Try.ntmps36
  go_wp2
  go_loopw [1, 5] (fun q i wr => ∃ (j : Nat) (m : List (Int × Int × Bool)), j ≤ l.length ∧ i = .int .i64 j ∧ q = .int .i64 (k + 3 * j) ∧ Hid (m.length = l.length ∧ m.take j = marksDom k j) ∧ OwnL 73 3 eDom B wr (.slice A l.length c) m ∧ w.grownBy wr (Value.slice A l.length c).ownBlock) (fun _ i _ => l.length - (intOf i).toNat)
  case atStart => exact ⟨0, l, Nat.zero_le _, rfl, by simp, Lib.hid ⟨rfl, rfl⟩, h, World.grownBy.refl _ _⟩
  case round =>
    obtain ⟨j, m, hj, rfl, rfl, Hg, hown, hgr⟩ := hrel
    by_cases hlt : j < l.length
    · obtain ⟨g, rfl, hB, hgl⟩ := hown.split (k := j) (by rw [Hg.out.1]; omega)
      obtain ⟨u0, u1, u2, s0, s1, s2⟩ := hown.slot3 lenDom (k := j) (by rw [Hg.out.1]; omega)
      have hsf := hown.free
      have hmod : (k + 3 * (j : Int) + 1 + 1).tmod 3 = (k + 3 * (j : Int) + 1 + 1) % 3 := Int.tmod_eq_emod_of_nonneg (by omega)
      go_wp2
      go_roundw
      case rel => exact ⟨j + 1, m.set j (mkDom k j), by omega, by go_num, by go_num, Lib.hid (marksDom_set Hg.out.1 Hg.out.2 hlt), hown.store3 lenDom (by rw [Hg.out.1]; omega) rfl, gr_set (gr_set (gr_set hgr _ _) _ _) _ _⟩
      case measure => simp [intOf]; omega
    · go_wp2
      go_ret
      obtain rfl : j = l.length := by omega
      exact ⟨rfl, by have e := Hg.out.2; rw [List.take_of_length_le (by rw [Hg.out.1]; omega)] at e; rw [← e]; exact hown, hgr⟩

theorem heldDoms_any (v : Value) (k : Int) (n : Nat) (w : World) (h : Rd 3 (RE eDom) w v (marksDom k n)) (h0 : 0 ≤ k) (h1 : k ≤ 67108864) (hl : n ≤ 1048576) :
    Calls Try.prog 47 #[v, .int .i64 k] w (Pure (.int .i64 (k + 3 * n)) w) := by
  have hlen : (marksDom k n).length = n := by simp [marksDom]
  obtain ⟨A, c, rfl, hc, hm⟩ := h.form
  rw [hlen] at h hc hm ⊢
  go_enter Try.func47, Try.ntmps47
  go_wp2
  go_loop [1, 5] (fun q i => ∃ j : Nat, j ≤ n ∧ i = .int .i64 j ∧ q = .int .i64 (k + 3 * j)) (fun _ i => n - (intOf i).toNat)
  case atStart => exact ⟨0, Nat.zero_le _, rfl, by simp⟩
  case round =>
    obtain ⟨j, hj, rfl, rfl⟩ := hrel
    by_cases hlt : j < n
    · obtain ⟨b, off, rfl, hb, k1, k2, k3⟩ := h.atDom (k := j) (by omega)
      simp only [marksDom, mkDom, List.getElem_map, List.getElem_range] at k1 k2 k3
      clear hlen
      have hmod : (k + 3 * (j : Int) + 1 + 1).tmod 3 = (k + 3 * (j : Int) + 1 + 1) % 3 := Int.tmod_eq_emod_of_nonneg (by omega)
      go_wp2
      go_round
      case rel => exact ⟨j + 1, by omega, by go_num, by go_num⟩
      case measure => simp [intOf]; omega
    · go_wp2
      go_ret
      obtain rfl : j = n := by omega
      exact ⟨rfl, rfl⟩

end Go.Proofs.Ytkbndchgmokabaa
