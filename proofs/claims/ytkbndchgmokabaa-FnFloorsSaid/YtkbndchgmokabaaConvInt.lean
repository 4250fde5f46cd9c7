/- The laws' copying, comparing, marking and holding of lists of this kind: Int. No conditions but sizes. -/
import Derived.Test.YtkbndchgmokabaaWords
namespace Go.Proofs.Ytkbndchgmokabaa
open Go.RowKit
set_option linter.unusedVariables false

theorem lenInt : ∀ x : Int, (eInt x).length = 1 := fun _ => rfl
theorem oneInt : ∀ x : Int, ∀ u ∈ eInt x, u.oneCell' = true := by
  intro x u hu; simp [eInt] at hu; rcases hu with rfl <;> rfl
theorem rowInt : Row Try.prog 24 3 (.int .i64 0) 1 8 := ⟨Try.underlying24, by kernel_rfl, rfl, by decide⟩
theorem toInts_any (v : Value) (l : List (Int)) (w : World) (h : Rd 1 (RE eInt) w v l) (hl : Small l.length) : Calls Try.prog 91 #[v] w (RetOwn 3 1 eInt l w) := by
  obtain ⟨A, c, rfl, hc, hm⟩ := h.form
  go_enter Try.func91, Try.ntmps91
  go_wp2_with (at_make; go_must (refine wpList_mk (enc := eInt) (z0 := (0 : Int)) rowInt rfl (Below.refl _ w) l.length hl.by8 hl.max rfl _ _ rfl rfl rfl ?_); intro w1 hown1 hb1 hg1)
  go_loopw [4] (fun i wr => ∃ (k : Nat) (m : List (Int)), k ≤ l.length ∧ i = .int .i64 k ∧ UpTo k m l ∧ OwnL 3 1 eInt w.heap.size wr (.slice (some ⟨w.heap.size, 0, none⟩) l.length l.length) m ∧ Below w.heap.size w wr) (fun i _ => l.length - (intOf i).toNat)
  case atStart => exact ⟨0, List.replicate l.length (0 : Int), Nat.zero_le _, rfl, UpTo.start _ _ (by simp), hown1, hb1⟩
  case round =>
    obtain ⟨k, m, hk, rfl, hu, hown, hbel⟩ := hrel
    clear hown1 hb1 hg1
    by_cases hlt : k < l.length
    · obtain ⟨b, off, rfl, hb, h1⟩ := (h.below RE.stays hbel).atInt hlt
      obtain ⟨u0, s0⟩ := hown.slot1 lenInt (k := k) (by rw [hu.1]; omega)
      have hsf := hown.free
      go_wp2
      go_roundw
      case rel => exact ⟨k + 1, _, by omega, by go_num, hu.step hlt, hown.store1 lenInt (by rw [hu.1]; omega) rfl, (hbel).st _ _ (Nat.le_refl _)⟩
      case measure => simp [intOf]; omega
    · go_wp2
      go_ret
      obtain rfl := hu.done (by omega)
      exact ⟨_, _, rfl, hown, hbel⟩

set_option maxRecDepth 100000 in
theorem eqInts_any (u v : Value) (l m : List (Int)) (w : World) (h : Rd 1 (RE eInt) w u l) (h' : Rd 1 (RE eInt) w v m) : Calls Try.prog 97 #[u, v] w (Ret (.bool (l == m)) w) := by
  obtain ⟨A, c, rfl, hc, hm⟩ := h.form
  obtain ⟨A', c', rfl, hc', hm'⟩ := h'.form
  by_cases hlen : l.length = m.length
  · have hne : ((l.length : Int) != (m.length : Int)) = false := by simp [hlen]
    have Hlen := Lib.hid hlen; clear hlen
    go_enter Try.func97, Try.ntmps97
    go_wp2
    go_loopw [5] (fun i wr => ∃ k : Nat, k ≤ l.length ∧ i = .int .i64 k ∧ Hid ((l.drop k == m.drop k) = (l == m)) ∧ Below w.heap.size w wr) (fun i _ => l.length - (intOf i).toNat)
    case atStart => exact ⟨0, Nat.zero_le _, rfl, Lib.hid rfl, Below.refl _ _⟩
    case round =>
      obtain ⟨k, hk, rfl, Hg, hbel⟩ := hrel
      by_cases hlt : k < l.length
      · have hlm : k < m.length := by have := Hlen.out; omega
        obtain ⟨b, off, rfl, hb, h1⟩ := (h.below RE.stays hbel).atInt hlt
        obtain ⟨b', off', rfl, hb', q1⟩ := (h'.below RE.stays hbel).atInt hlm
        have hlt' : (k : Int) < (m.length : Int) := by omega
        go_wp2_with fail
        go_quiet (fail)
        go_wp2
        all_goals first
          | (go_roundw
             case rel => exact ⟨k + 1, by omega, by go_num, eq_go Hg hlt hlm (by rename_i hx; simpa using hx), below_drewN hbel _⟩
             case measure => simp [intOf]; omega)
          | (go_ret
             exact ⟨retB (eq_no Hg hlt hlm (by rename_i hx; simpa using hx)).symm, below_drewN hbel _⟩)
      · go_wp2
        go_ret
        exact ⟨retB (eq_end Hg (by omega) (by have := Hlen.out; omega)).symm, hbel⟩
  · have hne : ((l.length : Int) != (m.length : Int)) = true := by simp; omega
    go_enter Try.func97, Try.ntmps97
    go_wp2
    go_ret
    exact ⟨retB (by rw [eq_comm, beq_eq_false_iff_ne]; exact fun e => hlen (by rw [e])), Below.refl _ _⟩

theorem szInts_any (v : Value) (l : List (Int)) (left : Int) (w : World) (h : Rd 1 (RE eInt) w v l) (h0 : 0 ≤ left) (h1 : left ≤ 1048576) : Calls Try.prog 82 #[v, .int .i64 left] w (Pure (.int .i64 (szOf left l.length)) w) := by
  obtain ⟨A, c, rfl, hc, hm⟩ := h.form
  go_enter Try.func82, Try.ntmps82
  go_wp2
  all_goals go_ret
  all_goals exact ⟨by simp_all [szOf]; try omega, rfl⟩

/-- The marks that the law writes into n elements, from k on. -/
def mkInt (k : Int) (j : Nat) : Int := (k + j)
def marksInt (k : Int) (n : Nat) : List (Int) := (List.range n).map (mkInt k)
theorem marksInt_set {m l : List (Int)} {j : Nat} {k : Int} (h : m.length = l.length) (e : m.take j = marksInt k j) (hj : j < l.length) : (m.set j (mkInt k j)).length = l.length ∧ (m.set j (mkInt k j)).take (j + 1) = marksInt k (j + 1) := by
  refine ⟨by simpa using h, ?_⟩
  rw [take_set _ (by omega), e]
  simp [marksInt, List.range_succ]
theorem markInts_any (v : Value) (l : List (Int)) (k : Int) (B : Nat) (w : World) (h : OwnL 3 1 eInt B w v l) (h0 : 0 ≤ k) (h1 : k ≤ 67108864) (hl : l.length ≤ 1048576) :
    Calls Try.prog 110 #[v, .int .i64 k] w (Marked (.int .i64 (k + l.length)) v (fun w' => OwnL 3 1 eInt B w' v (marksInt k l.length)) w) := by
  obtain ⟨A, c, rfl, hc, hm⟩ := h.form
  go_enter Try.func110, Try.ntmps110
  go_wp2
  go_loopw [1, 5] (fun q i wr => ∃ (j : Nat) (m : List (Int)), j ≤ l.length ∧ i = .int .i64 j ∧ q = .int .i64 (k + j) ∧ Hid (m.length = l.length ∧ m.take j = marksInt k j) ∧ OwnL 3 1 eInt B wr (.slice A l.length c) m ∧ w.grownBy wr (Value.slice A l.length c).ownBlock) (fun _ i _ => l.length - (intOf i).toNat)
  case atStart => exact ⟨0, l, Nat.zero_le _, rfl, by simp, Lib.hid ⟨rfl, rfl⟩, h, World.grownBy.refl _ _⟩
  case round =>
    obtain ⟨j, m, hj, rfl, rfl, Hg, hown, hgr⟩ := hrel
    by_cases hlt : j < l.length
    · obtain ⟨g, rfl, hB, hgl⟩ := hown.split (k := j) (by rw [Hg.out.1]; omega)
      obtain ⟨u0, s0⟩ := hown.slot1 lenInt (k := j) (by rw [Hg.out.1]; omega)
      have hsf := hown.free
      go_wp2
      go_roundw
      case rel => exact ⟨j + 1, m.set j (mkInt k j), by omega, by go_num, by go_num, Lib.hid (marksInt_set Hg.out.1 Hg.out.2 hlt), hown.store1 lenInt (by rw [Hg.out.1]; omega) rfl, gr_set hgr _ _⟩
      case measure => simp [intOf]; omega
    · go_wp2
      go_ret
      obtain rfl : j = l.length := by omega
      exact ⟨rfl, by have e := Hg.out.2; rw [List.take_of_length_le (by rw [Hg.out.1]; omega)] at e; rw [← e]; exact hown, hgr⟩

theorem heldInts_any (v : Value) (k : Int) (n : Nat) (w : World) (h : Rd 1 (RE eInt) w v (marksInt k n)) (h0 : 0 ≤ k) (h1 : k ≤ 67108864) (hl : n ≤ 1048576) :
    Calls Try.prog 119 #[v, .int .i64 k] w (Pure (.int .i64 (k + n)) w) := by
  have hlen : (marksInt k n).length = n := by simp [marksInt]
  obtain ⟨A, c, rfl, hc, hm⟩ := h.form
  rw [hlen] at h hc hm ⊢
  go_enter Try.func119, Try.ntmps119
  go_wp2
  go_loop [1, 5] (fun q i => ∃ j : Nat, j ≤ n ∧ i = .int .i64 j ∧ q = .int .i64 (k + j)) (fun _ i => n - (intOf i).toNat)
  case atStart => exact ⟨0, Nat.zero_le _, rfl, by simp⟩
  case round =>
    obtain ⟨j, hj, rfl, rfl⟩ := hrel
    by_cases hlt : j < n
    · obtain ⟨b, off, rfl, hb, k1⟩ := h.atInt (k := j) (by omega)
      simp only [marksInt, mkInt, List.getElem_map, List.getElem_range] at k1
      clear hlen
      go_wp2
      go_round
      case rel => exact ⟨j + 1, by omega, by go_num, by go_num⟩
      case measure => simp [intOf]; omega
    · go_wp2
      go_ret
      obtain rfl : j = n := by omega
      exact ⟨rfl, rfl⟩

end Go.Proofs.Ytkbndchgmokabaa
