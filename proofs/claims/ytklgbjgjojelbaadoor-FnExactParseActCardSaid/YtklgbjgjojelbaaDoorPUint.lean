/- Numbers read from texts, of both sides: the walks. Conditions: the library's table of powers and its error for a text that is no number, as its text lays them. -/
import Derived.Test.YtklgbjgjojelbaaDoorParsePl
import Derived.Test.YtklgbjgjojelbaaDoorK1
import Derived.Lib.AtoiErrMem
namespace Go.Proofs.YtklgbjgjojelbaaDoor
open Go.ChangeShapes Go.WideShapes Go.ChangeAt Go.RowKit
set_option linter.unusedVariables false
set_option linter.unusedSimpArgs false

def Syn (w : World) : Prop := ∃ ev : Value, w.cell? ⟨0, 0, none⟩ = some ev ∧ (ev = .nilIface ∨ ∃ te pe, ev = .iface te pe)
theorem Syn.below {w w' : World} (h : Syn w) (hb : Below w.heap.size w w') : Syn w' := by
  obtain ⟨ev, h1, h2⟩ := h
  exact ⟨ev, (hb.cell (show (⟨0, 0, none⟩ : Addr).block < w.heap.size from Lib.lt_of_cell h1)).trans h1, h2⟩

theorem pu_long {s : ByteArray} (h : 10 < s.size) : puN s = 0 ∧ puB s = false := pu_no fun n h0 h1 e => by
  have := numB_size10 h0 h1
  rw [e] at this; omega
theorem numB_atoi {n : Int} {s : ByteArray} (h0 : 0 ≤ n) (e : numB n = s) : Lib.atoi s.data.toList = some n := by
  rw [← e]
  have := atoi_dec n.toNat
  rw [Int.toNat_of_nonneg h0] at this
  exact this
theorem pu_syn {s : ByteArray} (h : Lib.atoi s.data.toList = none) : puN s = 0 ∧ puB s = false := pu_no fun n h0 h1 e => by
  rw [numB_atoi h0 e] at h; cases h
theorem pu_out {s : ByteArray} {n : Int} (h : Lib.atoi s.data.toList = some n) (hn : inB n 0 1000000000 = false) : puN s = 0 ∧ puB s = false := pu_no fun m h0 h1 e => by
  rw [numB_atoi h0 e] at h
  cases h
  simp [inB] at hn; omega
theorem pu_ne {s : ByteArray} {n : Int} (h : Lib.atoi s.data.toList = some n) (hn : numB n ≠ s) : puN s = 0 ∧ puB s = false := pu_no fun m h0 h1 e => by
  have h2 := numB_atoi h0 e
  rw [h] at h2
  cases h2
  exact hn e

theorem str_same {a b : ByteArray} (h : a = b) : (a.toList == b.toList) = true := by rw [h]; exact beq_self_eq_true _
theorem str_diff {a b : ByteArray} (h : a ≠ b) : (a.toList == b.toList) = false := by
  rw [beq_eq_false_iff_ne]
  exact fun e => h (str_inj.1 e)

set_option maxHeartbeats 4000000 in
set_option maxRecDepth 100000 in
theorem puI_any (s : ByteArray) (w : World) (ht : Tab w) (hs : Syn w) : Calls Tryd.prog 13 #[.string s] w (Ret (.tuple #[.int .i64 (puN s), .bool (puB s)]) w) := by
  have HT := Lib.hid ht; clear ht
  by_cases h10 : s.size ≤ 10
  · have n10 : ¬ ((10 : Int) < (s.size : Int)) := by omega
    rcases ha : Lib.atoi s.data.toList with _ | n
    · obtain ⟨ev, hv, hev⟩ := hs
      have Hp := Lib.hid (pu_syn ha)
      go_enter Tryd.func13, Tryd.ntmps13
      go_wp2_with fail
      refine (Tryd.strconv_Atoi_err s (by omega) ha ev _ hv hev).mono ?_
      rintro e w1 ⟨N, rfl, _, _, hb1⟩
      go_wp2
      refine bodyPost_ret (v := .tuple #[.int .i64 0, .bool false]) (by simp [results, Tryd.results13, go_sem]) rfl ⟨by rw [Hp.out.1, Hp.out.2], hb1⟩
    · have Ha := Lib.hid ha
      go_enter Tryd.func13, Tryd.ntmps13
      go_wp2_with fail
      refine (Tryd.strconv_Atoi s n (by omega) ha _).mono ?_
      rintro e w1 ⟨rfl, t, hw1⟩
      have hb1 : Below w.heap.size w w1 := by rw [hw1]; exact Lib.bytesWorld_below _ _ _
      clear hw1 ha
      rcases hi : inB n 0 1000000000 with _ | _
      · have Hp := Lib.hid (pu_out Ha.out hi)
        go_wp2_with fail
        refine (within_any n 0 1000000000 _).mono ?_
        rintro e w2 ⟨rfl, rfl⟩
        rw [hi]
        go_wp2
        refine bodyPost_ret (v := .tuple #[.int .i64 0, .bool false]) (by simp [results, Tryd.results13, go_sem]) rfl ⟨by rw [Hp.out.1, Hp.out.2], hb1⟩
      · have hr : 0 ≤ n ∧ n ≤ 1000000000 := by simp [inB] at hi; exact hi
        go_wp2_with fail
        refine (within_any n 0 1000000000 _).mono ?_
        rintro e w2 ⟨rfl, rfl⟩
        rw [hi]
        clear hi
        go_wp2_with fail
        refine (fmtI_any n _ hr.1 (by omega) (HT.out.below hb1)).mono ?_
        rintro e w3 ⟨rfl, hb2⟩
        by_cases he : numB n = s
        · have Hp := Lib.hid (pu_yes hr.1 hr.2 he)
          have neq := str_same he
          clear he
          go_wp2
          refine bodyPost_ret (v := .tuple #[.int .i64 n, .bool true]) (by simp [results, Tryd.results13, go_sem]) rfl ⟨by rw [Hp.out.1, Hp.out.2], hb1.tr hb2⟩
        · have Hp := Lib.hid (pu_ne Ha.out he)
          have neq := str_diff he
          clear he
          go_wp2
          refine bodyPost_ret (v := .tuple #[.int .i64 0, .bool false]) (by simp [results, Tryd.results13, go_sem]) rfl ⟨by rw [Hp.out.1, Hp.out.2], hb1.tr hb2⟩
  · have n10 : (10 : Int) < (s.size : Int) := by omega
    have Hp := Lib.hid (pu_long (s := s) (by omega))
    go_enter Tryd.func13, Tryd.ntmps13
    go_wp2
    refine bodyPost_ret (v := .tuple #[.int .i64 0, .bool false]) (by simp [results, Tryd.results13, go_sem]) rfl ⟨by rw [Hp.out.1, Hp.out.2], Below.refl _ _⟩

def dig (b : UInt8) : Bool := decide (48 ≤ b.toNat) && decide (b.toNat ≤ 57)
theorem pu_bad {s : ByteArray} {k : Nat} (hk : k < s.size) (h : s[k].toNat < 48 ∨ 57 < s[k].toNat) : puN s = 0 ∧ puB s = false := pu_no fun n h0 h1 e => by
  subst e
  have h2 : k < (Lib.decDigits n.toNat).length := by
    have : (numB n).size = (Lib.decDigits n.toNat).length := by simp [numB, ByteArray.size]
    omega
  have h3 := dec_digits n.toNat _ (List.getElem_mem h2)
  have h4 : 48 ≤ (numB n)[k].toNat ∧ (numB n)[k].toNat ≤ 57 := h3
  omega
theorem dv_succ {s : ByteArray} {k : Nat} (hk : k < s.size) : dv 0 (s.data.toList.take (k + 1)) = 10 * dv 0 (s.data.toList.take k) + (s[k].toNat - 48) := by
  have h' : k < s.data.toList.length := by rw [Array.length_toList]; exact hk
  rw [List.take_succ_eq_append_getElem h']
  unfold dv
  rw [List.foldl_append]
  rfl
theorem pu_dv {s : ByteArray} {n : Nat} (h : dv 0 (s.data.toList.take s.size) = n) : (1000000000 < n ∨ numB n ≠ s) → puN s = 0 ∧ puB s = false := fun hn => pu_no fun m h0 h1 e => by
  have h2 : s.data.toList.take s.size = s.data.toList := List.take_of_length_le (by rw [Array.length_toList]; exact Nat.le_refl _)
  rw [h2] at h
  have h3 : s.data.toList = Lib.decDigits m.toNat := by rw [← e]; rfl
  rw [h3, dv_dec] at h
  have h4 : (n : Int) = m := by omega
  rcases hn with hn | hn
  · omega
  · exact hn (by rw [h4]; exact e)
set_option maxHeartbeats 4000000 in
set_option maxRecDepth 100000 in
theorem puS_any (s : ByteArray) (w : World) : Calls Tryd.prog 16 #[.string s] w (Ret (.tuple #[.int .i64 (puN s), .bool (puB s)]) w) := by
  by_cases h10 : s.size ≤ 10
  · have n10 : ¬ ((10 : Int) < (s.size : Int)) := by omega
    go_enter Tryd.func16, Tryd.ntmps16
    go_wp2
    go_loopw [4, 5] (fun s4 s5 wr => ∃ (k n : Nat), k ≤ s.size ∧ s5 = .int .i64 k ∧ s4 = .int .i64 n ∧ n < 10 ^ k ∧ Hid (dv 0 (s.data.toList.take k) = n) ∧ Below w.heap.size w wr) (fun _ i _ => s.size - (intOf i).toNat)
    case atStart => exact ⟨0, 0, Nat.zero_le _, rfl, rfl, by omega, Lib.hid rfl, Below.refl _ _⟩
    case round =>
      obtain ⟨k, n, hk, rfl, rfl, hn, Hd, hbel⟩ := hrel
      have hn10 : n < 10 ^ 10 := Nat.lt_of_lt_of_le hn (Nat.pow_le_pow_right (by omega) (by omega))
      have Hn := Lib.hid hn; clear hn
      have hn10 : n < 10000000000 := hn10
      by_cases hlt : k < s.size
      · have hki : (k : Int) < (s.size : Int) := by omega
        by_cases hlo : s[k].toNat < 48
        · have i1 : ((s[k].toNat : Nat) : Int) < 48 := by omega
          have Hp := Lib.hid (pu_bad hlt (.inl hlo))
          go_wp2
          refine bodyPost_ret (v := .tuple #[.int .i64 0, .bool false]) (by simp [results, Tryd.results16, go_sem]) rfl ⟨by rw [Hp.out.1, Hp.out.2], hbel⟩
        · have i1 : ¬ (((s[k].toNat : Nat) : Int) < 48) := by omega
          by_cases hhi : 57 < s[k].toNat
          · have i2 : (57 : Int) < ((s[k].toNat : Nat) : Int) := by omega
            have Hp := Lib.hid (pu_bad hlt (.inr hhi))
            go_wp2
            refine bodyPost_ret (v := .tuple #[.int .i64 0, .bool false]) (by simp [results, Tryd.results16, go_sem]) rfl ⟨by rw [Hp.out.1, Hp.out.2], hbel⟩
          · have i2 : ¬ ((57 : Int) < ((s[k].toNat : Nat) : Int)) := by omega
            have Hs := Lib.hid (dv_succ hlt)
            go_wp2
            go_roundw
            case rel => exact ⟨k + 1, 10 * n + (s[k].toNat - 48), by omega, by go_num, by go_num, by have := Hn.out; rw [Nat.pow_succ]; omega, Lib.hid (by rw [Hs.out, Hd.out]), hbel⟩
            case measure => simp [intOf]; omega
      · obtain rfl : k = s.size := by omega
        have Hdv := Lib.hid (pu_dv Hd.out)
        by_cases hb : 1000000000 < n
        · have hbi : (1000000000 : Int) < (n : Int) := by omega
          have Hp := Lib.hid (Hdv.out (.inl hb))
          go_wp2
          refine bodyPost_ret (v := .tuple #[.int .i64 0, .bool false]) (by simp [results, Tryd.results16, go_sem]) rfl ⟨by rw [Hp.out.1, Hp.out.2], hbel⟩
        · have hbi : ¬ ((1000000000 : Int) < (n : Int)) := by omega
          go_wp2_with fail
          refine (fmtS_any (n : Int) _ (by omega) (by omega)).mono ?_
          rintro e w1 ⟨rfl, hb2⟩
          by_cases he : numB (n : Int) = s
          · have Hp := Lib.hid (pu_yes (n := (n : Int)) (by omega) (by omega) he)
            have neq := str_same he
            clear he
            go_wp2
            refine bodyPost_ret (v := .tuple #[.int .i64 n, .bool true]) (by simp [results, Tryd.results16, go_sem]) rfl ⟨by rw [Hp.out.1, Hp.out.2], hbel.tr hb2⟩
          · have Hp := Lib.hid (Hdv.out (.inr he))
            have neq := str_diff he
            clear he
            go_wp2
            refine bodyPost_ret (v := .tuple #[.int .i64 0, .bool false]) (by simp [results, Tryd.results16, go_sem]) rfl ⟨by rw [Hp.out.1, Hp.out.2], hbel.tr hb2⟩
  · have n10 : (10 : Int) < (s.size : Int) := by omega
    have Hp := Lib.hid (pu_long (s := s) (by omega))
    go_enter Tryd.func16, Tryd.ntmps16
    go_wp2
    refine bodyPost_ret (v := .tuple #[.int .i64 0, .bool false]) (by simp [results, Tryd.results16, go_sem]) rfl ⟨by rw [Hp.out.1, Hp.out.2], Below.refl _ _⟩
end Go.Proofs.YtklgbjgjojelbaaDoor
