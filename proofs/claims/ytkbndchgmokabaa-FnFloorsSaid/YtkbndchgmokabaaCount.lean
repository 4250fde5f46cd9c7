/- FnExactCountSigns: the walk. For all lists of strings and all signs the law returns true. No conditions. -/
import Derived.Test.YtkbndchgmokabaaStrLaws
namespace Go.Proofs.Ytkbndchgmokabaa
open Go.ChangeShapes Go.WideShapes Go.ChangeAt Go.RowKit
set_option linter.unusedVariables false

/-- How often a byte stands in the first i bytes of a string. -/
def cntTo (s : ByteArray) (c : UInt8) (i : Nat) : Nat := (s.data.toList.take i).countP (· == c)
def cnt (s : ByteArray) (c : UInt8) : Nat := cntTo s c s.size
def cntAll (l : List ByteArray) (c : UInt8) : Nat := (l.map (cnt · c)).sum
theorem cntTo_step (s : ByteArray) (c : UInt8) (i : Nat) (h : i < s.size) : cntTo s c (i + 1) = cntTo s c i + if s[i] = c then 1 else 0 := by
  unfold cntTo
  have hl : i < s.data.toList.length := by rw [Array.length_toList]; exact h
  rw [List.take_succ_eq_append_getElem hl, List.countP_append]
  congr 1
  simp [List.countP_cons]
  rfl
theorem cntTo_le (s : ByteArray) (c : UInt8) (i : Nat) : cntTo s c i ≤ i := by
  unfold cntTo
  exact Nat.le_trans List.countP_le_length (by rw [List.length_take]; omega)
theorem cntAll_step (l : List ByteArray) (c : UInt8) (k : Nat) (h : k < l.length) : cntAll (l.take (k + 1)) c = cntAll (l.take k) c + cnt l[k] c := by
  unfold cntAll
  rw [List.take_succ_eq_append_getElem h, List.map_append, List.sum_append]; rfl
theorem cntAll_le (l : List ByteArray) (c : UInt8) (k : Nat) : cntAll (l.take k) c + ((l.drop k).map (·.size)).sum ≤ (l.map (·.size)).sum := by
  induction l generalizing k with
  | nil => simp [cntAll]
  | cons s r ih =>
    cases k with
    | zero => simp [cntAll]
    | succ k =>
      have := ih k
      have h2 := cntTo_le s c s.size
      simp only [List.take_succ_cons, List.drop_succ_cons, cntAll, List.map_cons, List.sum_cons] at *
      unfold cnt at *
      omega

theorem byte_int {a b : UInt8} : (((a.toNat : Nat) : Int) == ((b.toNat : Nat) : Int)) = decide (a = b) := by
  rw [Bool.eq_iff_iff, beq_iff_eq, decide_eq_true_iff]
  exact ⟨fun h => UInt8.toNat_inj.1 (by omega), fun h => by rw [h]⟩
theorem cnt_yes {s sign : ByteArray} {c0 : UInt8} {j : Nat} {h1 : 0 < sign.size} (hj : j < s.size) (H : Hid (c0 = sign[0])) (hx : (((s[j].toNat : Nat) : Int) == ((sign[0].toNat : Nat) : Int)) = true) : cntTo s c0 (j + 1) = cntTo s c0 j + 1 := by
  rw [cntTo_step s c0 j hj, H.out]
  rw [byte_int, decide_eq_true_iff] at hx
  rw [if_pos hx]
theorem cnt_no {s sign : ByteArray} {c0 : UInt8} {j : Nat} {h1 : 0 < sign.size} (hj : j < s.size) (H : Hid (c0 = sign[0])) (hx : (((s[j].toNat : Nat) : Int) == ((sign[0].toNat : Nat) : Int)) = false) : cntTo s c0 (j + 1) = cntTo s c0 j := by
  rw [cntTo_step s c0 j hj, H.out]
  rw [byte_int, decide_eq_false_iff_not] at hx
  rw [if_neg hx, Nat.add_zero]

theorem countI_any (v : Value) (l : List ByteArray) (sign : ByteArray) (w : World) (h : Rd 1 (RE eStr) w v l) (h1 : 0 < sign.size) (Hs : Hid (sign.size = 1)) (c0 : UInt8) (Hc0 : Hid (c0 = sign[0])) (hsum : (l.map (·.size)).sum ≤ 1048576) :
    Calls Try.prog 27 #[v, .string sign] w (Ret (.int .i64 (cntAll l c0)) w) := by
  obtain ⟨A, c, rfl, hc, hm⟩ := h.form
  have hne : ((sign.size : Int) != 1) = false := by simp [Hs.out]
  go_enter Try.func27, Try.ntmps27
  go_wp2
  go_loopw [5, 14] (fun n i wr => ∃ k : Nat, k ≤ l.length ∧ i = .int .i64 k ∧ n = .int .i64 (cntAll (l.take k) c0) ∧ Below w.heap.size w wr) (fun _ i _ => l.length - (intOf i).toNat)
  case atStart => exact ⟨0, Nat.zero_le _, rfl, rfl, Below.refl _ _⟩
  case round =>
    obtain ⟨k, hk, rfl, rfl, hbel⟩ := hrel
    by_cases hlt : k < l.length
    · obtain ⟨b, off, rfl, hb, q1⟩ := (h.below RE.stays hbel).atStr hlt
      have hle := cntAll_le l c0 k
      have hle2 : cntAll (l.take k) c0 + l[k].size ≤ 1048576 := by
        rw [List.drop_eq_getElem_cons hlt, List.map_cons, List.sum_cons] at hle; omega
      obtain ⟨s, hsk⟩ : ∃ s, s = l[k] := ⟨_, rfl⟩
      rw [← hsk] at q1 hle2
      have Hsk := Lib.hid hsk; clear hsk hle
      obtain ⟨n0, hn0⟩ : ∃ n0, n0 = cntAll (l.take k) c0 := ⟨_, rfl⟩
      rw [← hn0] at hle2 ⊢
      have Hn0 := Lib.hid hn0; clear hn0
      go_wp2
      obtain ⟨wo, rfl⟩ : ∃ wo : World, wo = wr := ⟨_, rfl⟩
      go_loopw [5, 20] (fun n i wi => ∃ j : Nat, j ≤ s.size ∧ i = .int .i64 j ∧ n = .int .i64 (n0 + cntTo s c0 j : Nat) ∧ Below w.heap.size w wi) (fun _ i _ => s.size - (intOf i).toNat)
      case atStart => exact ⟨0, Nat.zero_le _, rfl, by simp [cntTo], hbel⟩
      case round =>
        obtain ⟨j, hj, rfl, rfl, hbel2⟩ := hrel
        have hcl := cntTo_le s c0 j
        by_cases hjt : j < s.size
        · go_wp2_with fail
          go_quiet (fail)
          go_wp2
          all_goals
            go_roundw
            case rel => exact ⟨j + 1, by omega, by go_num, by rename_i hx; first | (rw [cnt_yes hjt Hc0 hx]; go_num) | (rw [cnt_no hjt Hc0 hx]), below_drewN hbel2 _⟩
            case measure => simp [intOf]; omega
        · go_wp2
          go_roundw
          case rel => exact ⟨k + 1, by omega, by go_num, by rw [cntAll_step l c0 k hlt, ← Hn0.out, ← Hsk.out]; unfold cnt; rw [show j = s.size by omega], hbel2⟩
          case measure => simp [intOf]; omega
    · go_wp2
      go_ret
      exact ⟨retI (by rw [List.take_of_length_le (by omega)]), hbel⟩

theorem countI_zero (v : Value) (l : List ByteArray) (sign : ByteArray) (w : World) (h : Rd 1 (RE eStr) w v l) (hs : ¬ sign.size = 1) :
    Calls Try.prog 27 #[v, .string sign] w (Pure (.int .i64 0) w) := by
  obtain ⟨A, c, rfl, hc, hm⟩ := h.form
  have hne : ((sign.size : Int) != 1) = true := by simp; omega
  go_enter Try.func27, Try.ntmps27
  go_wp2
  go_ret
  exact ⟨rfl, rfl⟩
end Go.Proofs.Ytkbndchgmokabaa
