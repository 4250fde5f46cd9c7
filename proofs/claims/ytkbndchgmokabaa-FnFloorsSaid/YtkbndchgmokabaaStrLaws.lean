/- FnExactSameFloor and FnExactCountSigns: the walks. For all lists of strings the laws return true. No conditions. -/
import Derived.Test.YtkbndchgmokabaaConvStr
namespace Go.Proofs.Ytkbndchgmokabaa
open Go.ChangeShapes Go.WideShapes Go.ChangeAt Go.RowKit
set_option linter.unusedVariables false

set_option maxRecDepth 100000 in
theorem sameFloorI_any (u v : Value) (l m : List ByteArray) (w : World) (h : Rd 1 (RE eStr) w u l) (h' : Rd 1 (RE eStr) w v m) : Calls Try.prog 29 #[u, v] w (Ret (.bool (decide (l = m))) w) := by
  obtain ⟨A, c, rfl, hc, hm⟩ := h.form
  obtain ⟨A', c', rfl, hc', hm'⟩ := h'.form
  by_cases hlen : l.length = m.length
  · have hne : ((l.length : Int) != (m.length : Int)) = false := by simp [hlen]
    have Hlen := Lib.hid hlen; clear hlen
    go_enter Try.func29, Try.ntmps29
    go_wp2
    go_loopw [13] (fun i wr => ∃ k : Nat, k ≤ l.length ∧ i = .int .i64 k ∧ Hid (decide (l.drop k = m.drop k) = decide (l = m)) ∧ Below w.heap.size w wr) (fun i _ => l.length - (intOf i).toNat)
    case atStart => exact ⟨0, Nat.zero_le _, rfl, Lib.hid rfl, Below.refl _ _⟩
    case round =>
      obtain ⟨k, hk, rfl, Hg, hbel⟩ := hrel
      by_cases hlt : k < l.length
      · have hlm : k < m.length := by have := Hlen.out; omega
        obtain ⟨b, off, rfl, hb, h1⟩ := (h.below RE.stays hbel).atStr hlt
        obtain ⟨b', off', rfl, hb', q1⟩ := (h'.below RE.stays hbel).atStr hlm
        have hlt' : (k : Int) < (m.length : Int) := by omega
        go_wp2_with fail
        go_quiet (fail)
        go_wp2
        all_goals first
          | (go_roundw
             case rel => exact ⟨k + 1, by omega, by go_num, eqd_go Hg hlt hlm (by rename_i hx; simpa [str_inj] using hx), below_drewN hbel _⟩
             case measure => simp [intOf]; omega)
          | (go_ret
             exact ⟨retB (eqd_no Hg hlt hlm (by rename_i hx; simpa [str_inj] using hx)).symm, below_drewN hbel _⟩)
      · go_wp2
        go_ret
        exact ⟨retB (eqd_end Hg (by omega) (by have := Hlen.out; omega)).symm, hbel⟩
  · have hne : ((l.length : Int) != (m.length : Int)) = true := by simp; omega
    go_enter Try.func29, Try.ntmps29
    go_wp2
    go_ret
    exact ⟨retB (by rw [eq_comm, decide_eq_false_iff_not]; exact fun e => hlen (by rw [e])), Below.refl _ _⟩

set_option maxRecDepth 100000 in
theorem sameFloorS_any (u v : Value) (l m : List ByteArray) (w : World) (h : Rd 1 (RE eStr) w u l) (h' : Rd 1 (RE eStr) w v m) : Calls Try.prog 122 #[u, v] w (Ret (.bool (decide (l = m))) w) := by
  obtain ⟨A, c, rfl, hc, hm⟩ := h.form
  obtain ⟨A', c', rfl, hc', hm'⟩ := h'.form
  by_cases hlen : l.length = m.length
  · have hne : ((l.length : Int) != (m.length : Int)) = false := by simp [hlen]
    have Hlen := Lib.hid hlen; clear hlen
    go_enter Try.func122, Try.ntmps122
    go_wp2
    go_loopw [5] (fun i wr => ∃ k : Nat, k ≤ l.length ∧ i = .int .i64 k ∧ Hid (decide (l.drop k = m.drop k) = decide (l = m)) ∧ Below w.heap.size w wr) (fun i _ => l.length - (intOf i).toNat)
    case atStart => exact ⟨0, Nat.zero_le _, rfl, Lib.hid rfl, Below.refl _ _⟩
    case round =>
      obtain ⟨k, hk, rfl, Hg, hbel⟩ := hrel
      by_cases hlt : k < l.length
      · have hlm : k < m.length := by have := Hlen.out; omega
        obtain ⟨b, off, rfl, hb, h1⟩ := (h.below RE.stays hbel).atStr hlt
        obtain ⟨b', off', rfl, hb', q1⟩ := (h'.below RE.stays hbel).atStr hlm
        have hlt' : (k : Int) < (m.length : Int) := by omega
        go_wp2_with fail
        go_quiet (fail)
        go_wp2
        all_goals first
          | (go_roundw
             case rel => exact ⟨k + 1, by omega, by go_num, eqd_go Hg hlt hlm (by rename_i hx; simpa [str_inj] using hx), below_drewN hbel _⟩
             case measure => simp [intOf]; omega)
          | (go_ret
             exact ⟨retB (eqd_no Hg hlt hlm (by rename_i hx; simpa [str_inj] using hx)).symm, below_drewN hbel _⟩)
      · go_wp2
        go_ret
        exact ⟨retB (eqd_end Hg (by omega) (by have := Hlen.out; omega)).symm, hbel⟩
  · have hne : ((l.length : Int) != (m.length : Int)) = true := by simp; omega
    go_enter Try.func122, Try.ntmps122
    go_wp2
    go_ret
    exact ⟨retB (by rw [eq_comm, decide_eq_false_iff_not]; exact fun e => hlen (by rw [e])), Below.refl _ _⟩

/-- What is left of a number behind the lengths of strings; -1 where they are longer. -/
def szRest : Int → List ByteArray → Int
  | left, [] => left
  | left, s :: r => if left - s.size < 0 then -1 else szRest (left - s.size) r
def szStrs (left : Int) (l : List ByteArray) : Int := if left - l.length < 0 then -1 else szRest (left - l.length) l
def Fits (n : Nat) (l : List ByteArray) : Prop := l.length ≤ n ∧ ((l.map (·.size)).sum : Nat) ≤ n
theorem szRest_cases : ∀ (l : List ByteArray) (left : Int), 0 ≤ left → (szRest left l = -1 ∨ (szRest left l = left - ((l.map (·.size)).sum : Nat) ∧ ((l.map (·.size)).sum : Nat) ≤ left)) := by
  intro l
  induction l with
  | nil => intro left h; right; simp [szRest]; exact h
  | cons s r ih =>
    intro left h
    unfold szRest
    by_cases hs : left - s.size < 0
    · left; rw [if_pos hs]
    · rw [if_neg hs]
      rcases ih (left - s.size) (by omega) with h1 | ⟨h1, h2⟩
      · left; exact h1
      · right; rw [h1]; simp only [List.map_cons, List.sum_cons]; omega
theorem szStrs_cases (l : List ByteArray) (left : Int) (h : 0 ≤ left) : szStrs left l = -1 ∨ (szStrs left l = left - l.length - ((l.map (·.size)).sum : Nat) ∧ ((l.map (·.size)).sum : Nat) + l.length ≤ left) := by
  unfold szStrs
  by_cases hs : left - l.length < 0
  · left; rw [if_pos hs]
  · rw [if_neg hs]
    rcases szRest_cases l (left - l.length) (by omega) with h1 | ⟨h1, h2⟩
    · left; exact h1
    · right; rw [h1]; omega

theorem szRest_go {l : List ByteArray} {k : Nat} {q r : Int} (H : Hid (szRest q (l.drop k) = r)) (h : k < l.length) (e : ¬ q - l[k].size < 0) : Hid (szRest (q - l[k].size) (l.drop (k + 1)) = r) := by
  have := H.out
  rw [List.drop_eq_getElem_cons h, szRest, if_neg e] at this; exact this
theorem szRest_no {l : List ByteArray} {k : Nat} {q r : Int} (H : Hid (szRest q (l.drop k) = r)) (h : k < l.length) (e : q - l[k].size < 0) : r = -1 := by
  have := H.out
  rw [List.drop_eq_getElem_cons h, szRest, if_pos e] at this; exact this.symm
theorem szRest_end {l : List ByteArray} {k : Nat} {q r : Int} (H : Hid (szRest q (l.drop k) = r)) (h : l.length ≤ k) : r = q := by
  have := H.out
  rw [List.drop_of_length_le h, szRest] at this; exact this.symm

theorem szStrs_any (v : Value) (l : List ByteArray) (left : Int) (w : World) (h : Rd 1 (RE eStr) w v l) (ok : AllOk (fun s => s.size ≤ maxLen) l) (h0 : 0 ≤ left) (h1 : left ≤ 1048576) : Calls Try.prog 44 #[v, .int .i64 left] w (Pure (.int .i64 (szStrs left l)) w) := by
  obtain ⟨A, c, rfl, hc, hm⟩ := h.form
  by_cases hs : left - l.length < 0
  · go_enter Try.func44, Try.ntmps44
    go_wp2
    go_ret
    exact ⟨by simp only [szStrs, if_pos hs]; rfl, rfl⟩
  · have H0 : Hid (szRest (left - l.length) (l.drop 0) = szStrs left l) := Lib.hid (by simp only [szStrs, if_neg hs]; rfl)
    go_enter Try.func44, Try.ntmps44
    go_wp2
    go_loop [1, 5] (fun q i => ∃ (k : Nat) (n : Int), k ≤ l.length ∧ i = .int .i64 k ∧ q = .int .i64 n ∧ 0 ≤ n ∧ n ≤ 1048576 ∧ Hid (szRest n (l.drop k) = szStrs left l)) (fun _ i => l.length - (intOf i).toNat)
    case atStart => exact ⟨0, _, Nat.zero_le _, rfl, rfl, by omega, by omega, H0⟩
    case round =>
      obtain ⟨k, n, hk, rfl, rfl, hn0, hn1, Hg⟩ := hrel
      by_cases hlt : k < l.length
      · obtain ⟨b, off, rfl, hb, q1⟩ := h.atStr hlt
        have hsz : l[k].size ≤ 9223372036854775807 := by have := ok l[k] (List.getElem_mem hlt); unfold maxLen at this; exact this
        go_wp2
        all_goals first
          | (go_round
             case rel => exact ⟨k + 1, _, by omega, by go_num, rfl, by omega, by omega, szRest_go Hg hlt (by omega)⟩
             case measure => simp [intOf]; omega)
          | (go_ret
             exact ⟨retI (szRest_no Hg hlt (by omega)).symm, rfl⟩)
      · go_wp2
        go_ret
        exact ⟨retI (szRest_end Hg (by omega)).symm, rfl⟩

end Go.Proofs.Ytkbndchgmokabaa
