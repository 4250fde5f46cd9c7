/- The laws' copying, comparing, marking and holding of lists of this kind: Str. No conditions but sizes. -/
import Derived.Test.YtkbndchgmokabaaWords
namespace Go.Proofs.Ytkbndchgmokabaa
open Go.RowKit
set_option linter.unusedVariables false

theorem lenStr : ∀ x : ByteArray, (eStr x).length = 1 := fun _ => rfl
theorem oneStr : ∀ x : ByteArray, ∀ u ∈ eStr x, u.oneCell' = true := by
  intro x u hu; simp [eStr] at hu; rcases hu with rfl <;> rfl
theorem rowStr : Row Try.prog 40 9 (.string ByteArray.empty) 1 16 := ⟨Try.underlying40, by kernel_rfl, rfl, by decide⟩
theorem toStrs_any (v : Value) (l : List (ByteArray)) (w : World) (h : Rd 1 (RE eStr) w v l) (hl : Small l.length) : Calls Try.prog 46 #[v] w (RetOwn 9 1 eStr l w) := by
  obtain ⟨A, c, rfl, hc, hm⟩ := h.form
  go_enter Try.func46, Try.ntmps46
  go_wp2_with (at_make; go_must (refine wpList_mk (enc := eStr) (z0 := ByteArray.empty) rowStr rfl (Below.refl _ w) l.length hl.by16 hl.max rfl _ _ rfl rfl rfl ?_); intro w1 hown1 hb1 hg1)
  go_loopw [4] (fun i wr => ∃ (k : Nat) (m : List (ByteArray)), k ≤ l.length ∧ i = .int .i64 k ∧ UpTo k m l ∧ OwnL 9 1 eStr w.heap.size wr (.slice (some ⟨w.heap.size, 0, none⟩) l.length l.length) m ∧ Below w.heap.size w wr) (fun i _ => l.length - (intOf i).toNat)
  case atStart => exact ⟨0, List.replicate l.length ByteArray.empty, Nat.zero_le _, rfl, UpTo.start _ _ (by simp), hown1, hb1⟩
  case round =>
    obtain ⟨k, m, hk, rfl, hu, hown, hbel⟩ := hrel
    clear hown1 hb1 hg1
    by_cases hlt : k < l.length
    · obtain ⟨b, off, rfl, hb, h1⟩ := (h.below RE.stays hbel).atStr hlt
      obtain ⟨u0, s0⟩ := hown.slot1 lenStr (k := k) (by rw [hu.1]; omega)
      have hsf := hown.free
      go_wp2
      go_roundw
      case rel => exact ⟨k + 1, _, by omega, by go_num, hu.step hlt, hown.store1 lenStr (by rw [hu.1]; omega) rfl, (hbel).st _ _ (Nat.le_refl _)⟩
      case measure => simp [intOf]; omega
    · go_wp2
      go_ret
      obtain rfl := hu.done (by omega)
      exact ⟨_, _, rfl, hown, hbel⟩

set_option maxRecDepth 100000 in
theorem eqStrs_any (u v : Value) (l m : List (ByteArray)) (w : World) (h : Rd 1 (RE eStr) w u l) (h' : Rd 1 (RE eStr) w v m) : Calls Try.prog 33 #[u, v] w (Ret (.bool (decide (l = m))) w) := by
  obtain ⟨A, c, rfl, hc, hm⟩ := h.form
  obtain ⟨A', c', rfl, hc', hm'⟩ := h'.form
  by_cases hlen : l.length = m.length
  · have hne : ((l.length : Int) != (m.length : Int)) = false := by simp [hlen]
    have Hlen := Lib.hid hlen; clear hlen
    go_enter Try.func33, Try.ntmps33
    go_wp2
    go_loopw [5] (fun i wr => ∃ k : Nat, k ≤ l.length ∧ i = .int .i64 k ∧ Hid (decide (l.drop k = m.drop k) = decide (l = m)) ∧ Below w.heap.size w wr) (fun i _ => l.length - (intOf i).toNat)
    case atStart => exact ⟨0, Nat.zero_le _, rfl, Lib.hid rfl, Below.refl _ _⟩
    case round =>
      obtain ⟨k, hk, rfl, Hg, hbel⟩ := hrel
      by_cases hlt : k < l.length
      · have hlm : k < m.length := by have := Hlen.out; omega
        obtain ⟨b, off, rfl, hb, h1⟩ := (h.below RE.stays hbel).atStr hlt
        obtain ⟨b', off', rfl, hb', q1⟩ := (h'.below RE.stays hbel).atStr hlm
        have hlt' : (k : Int) < (m.length : Int) := by omega
        go_wp2_with fail
        go_quiet (fail)
        go_wp2
        all_goals first
          | (go_roundw
             case rel => exact ⟨k + 1, by omega, by go_num, eqd_go Hg hlt hlm (by rename_i hx; simpa [str_inj] using hx), below_drewN hbel _⟩
             case measure => simp [intOf]; omega)
          | (go_ret
             exact ⟨retB (eqd_no Hg hlt hlm (by rename_i hx; simpa [str_inj] using hx)).symm, below_drewN hbel _⟩)
      · go_wp2
        go_ret
        exact ⟨retB (eqd_end Hg (by omega) (by have := Hlen.out; omega)).symm, hbel⟩
  · have hne : ((l.length : Int) != (m.length : Int)) = true := by simp; omega
    go_enter Try.func33, Try.ntmps33
    go_wp2
    go_ret
    exact ⟨retB (by rw [eq_comm, decide_eq_false_iff_not]; exact fun e => hlen (by rw [e])), Below.refl _ _⟩

end Go.Proofs.Ytkbndchgmokabaa
