/- SplitFields of the reference: the walk. No conditions. -/
import Derived.Test.YtklgbjgjojelbaaDoorSplit
namespace Go.Proofs.YtklgbjgjojelbaaDoor
open Go.ChangeShapes Go.WideShapes Go.ChangeAt Go.RowKit
set_option linter.unusedVariables false
set_option linter.unusedSimpArgs false

set_option maxHeartbeats 4000000 in
set_option maxRecDepth 100000 in
theorem splitS_any (s : ByteArray) (w : World) : Calls Tryd.prog 7 #[.string s] w (RetFld s w) := by
  have own0 := own_mt w (E := 9) (size := 1) (enc := eStr) w.heap.size rfl w.heap.size (Nat.le_refl _)
  by_cases h6 : s.size ≤ 600
  · have n6 : ¬ ((600 : Int) < (s.size : Int)) := by omega
    go_enter Tryd.func7, Tryd.ntmps7
    go_wp2
    go_loopw [4, 5, 6] (fun s4 s5 s6 wr => ∃ (k b : Nat) (out : List ByteArray) (D : Option Addr) (d : Nat), s6 = .int .i64 k ∧ s5 = .int .i64 b ∧ s4 = .slice D out.length d ∧ OwnL 9 1 eStr w.heap.size wr (.slice D out.length d) out ∧ Hid ((k ≤ s.size ∧ SpS s k b out ∧ (s.data.toList.take k).all okb = true) ∨ (k = s.size + 1 ∧ out = flds s ∧ (s.data.toList.take s.size).all okb = true)) ∧ Below w.heap.size w wr) (fun _ _ i _ => s.size + 1 - (intOf i).toNat)
    case atStart => exact ⟨0, 0, [], _, _, rfl, rfl, rfl, own0, Lib.hid (.inl ⟨Nat.zero_le _, sp_start s, rfl⟩), (Below.refl _ _).al _⟩
    case round =>
      obtain ⟨k, b, out, D, d, rfl, rfl, rfl, hown, Hg, hbel⟩ := hrel
      clear own0
      rcases Hg.out with ⟨hk, hsp, hall⟩ | ⟨rfl, rfl, hall⟩
      · have hol : out.length ≤ 600 := by have := hsp.2.2; omega
        have hbk := hsp.2.1
        have H8 : Hid ((out.length + 1) * 16 ≤ 140737488355328) := Lib.hid (by omega)
        have HM : Hid (out.length + 1 ≤ maxLen) := Lib.hid (by unfold maxLen; omega)
        have HSp := Lib.hid hsp; have HAll := Lib.hid hall; clear hsp hall
        have hki : (k : Int) ≤ (s.size : Int) := by omega
        have hmx : (k : Int) + 1 ≤ 9223372036854775807 := by omega
        by_cases hlt : k < s.size
        · have hki2 : (k : Int) < (s.size : Int) := by omega
          by_cases hlo : s[k].toNat < 32
          · have i1 : ((s[k].toNat : Nat) : Int) < 32 := by omega
            have Hn := Lib.hid (line_bad hlt (.inl hlo))
            go_wp2
            refine bodyPost_ret (v := .tuple #[.slice (some ⟨wr.heap.size, 0, none⟩) 0 0, .bool false]) (by simp [results, Tryd.results7, go_sem]) rfl (fld_no Hn.out (hbel.al _))
          · have i1 : ¬ (((s[k].toNat : Nat) : Int) < 32) := by omega
            by_cases hhi : 126 < s[k].toNat
            · have i2 : (126 : Int) < ((s[k].toNat : Nat) : Int) := by omega
              have Hn := Lib.hid (line_bad hlt (.inr hhi))
              go_wp2
              refine bodyPost_ret (v := .tuple #[.slice (some ⟨wr.heap.size, 0, none⟩) 0 0, .bool false]) (by simp [results, Tryd.results7, go_sem]) rfl (fld_no Hn.out (hbel.al _))
            · have i2 : ¬ ((126 : Int) < ((s[k].toNat : Nat) : Int)) := by omega
              have Ha := Lib.hid (all_ok_succ hlt ⟨by omega, by omega⟩ HAll.out)
              by_cases hsp : s[k].toNat = 32
              · have i3 : ((s[k].toNat : Nat) : Int) = 32 := by omega
                by_cases hb : b < k
                · have hbi2 : (b : Int) < (k : Int) := by omega
                  have hb0 : (0 : Int) ≤ (b : Int) := by omega
                  have hbi : (b : Int) ≤ (k : Int) := by omega
                  have Hs := Lib.hid (sp_cut hlt hsp hb HSp.out)
                  go_wp2_with (at_builtin; go_must (refine wpList_app1 (enc := eStr) rowStr lenStr oneStr hbel hown (s.extract b k) H8.out HM.out rfl _ _ rfl rfl rfl ?_); intro v4 w4 own4 hb4 hg4 hd4; obtain ⟨A4, c4, rfl, hc4, hm4⟩ := own4.form)
                  go_roundw
                  case rel => exact ⟨k + 1, k + 1, out ++ [s.extract b k], A4, c4, by go_num, by go_num, by simp, own4, Lib.hid (.inl ⟨by omega, Hs.out, Ha.out⟩), hb4⟩
                  case measure => simp [intOf]; omega
                · have hbi2 : ¬ ((b : Int) < (k : Int)) := by omega
                  have Hs := Lib.hid (sp_skip hlt hsp (by omega) HSp.out)
                  go_wp2
                  go_roundw
                  case rel => exact ⟨k + 1, k + 1, out, D, d, by go_num, by go_num, rfl, hown, Lib.hid (.inl ⟨by omega, Hs.out, Ha.out⟩), hbel⟩
                  case measure => simp [intOf]; omega
              · have i3 : (((s[k].toNat : Nat) : Int) != 32) = true := by simp; omega
                have Hs := Lib.hid (sp_word hlt hsp HSp.out)
                go_wp2
                go_roundw
                case rel => exact ⟨k + 1, b, out, D, d, by go_num, rfl, rfl, hown, Lib.hid (.inl ⟨by omega, Hs.out, Ha.out⟩), hbel⟩
                case measure => simp [intOf]; omega
        · obtain rfl : k = s.size := by omega
          by_cases hb : b < s.size
          · have hbi2 : (b : Int) < (s.size : Int) := by omega
            have hb0 : (0 : Int) ≤ (b : Int) := by omega
            have hbi : (b : Int) ≤ (s.size : Int) := by omega
            have Hs := Lib.hid (sp_end1 hb HSp.out)
            go_wp2_with (at_builtin; go_must (refine wpList_app1 (enc := eStr) rowStr lenStr oneStr hbel hown (s.extract b s.size) H8.out HM.out rfl _ _ rfl rfl rfl ?_); rw [Hs.out]; intro v4 w4 own4 hb4 hg4 hd4; obtain ⟨A4, c4, rfl, hc4, hm4⟩ := own4.form)
            go_roundw
            case rel => exact ⟨s.size + 1, s.size + 1, flds s, A4, c4, by go_num, by go_num, rfl, own4, Lib.hid (.inr ⟨rfl, rfl, HAll.out⟩), hb4⟩
            case measure => simp [intOf]
          · have hbi2 : ¬ ((b : Int) < (s.size : Int)) := by omega
            have hs := sp_end2 (by omega) HSp.out
            subst hs
            go_wp2
            go_roundw
            case rel => exact ⟨s.size + 1, s.size + 1, flds s, D, d, by go_num, by go_num, rfl, hown, Lib.hid (.inr ⟨rfl, rfl, HAll.out⟩), hbel⟩
            case measure => simp [intOf]
      · have He := Lib.hid (line_end h6 hall)
        clear hall
        have hki : ¬ (((s.size + 1 : Nat) : Int) ≤ (s.size : Int)) := by omega
        by_cases h24 : (flds s).length ≤ 24
        · have j1 : ¬ ((24 : Int) < ((flds s).length : Int)) := by omega
          have Hy : Hid (lineOk s = true) := Lib.hid (by rw [He.out, decide_eq_true h24])
          go_wp2
          refine bodyPost_ret (v := .tuple #[.slice D (flds s).length d, .bool true]) (by simp [results, Tryd.results7, go_sem]) rfl (fld_yes Hy.out hown hbel)
        · have j1 : (24 : Int) < ((flds s).length : Int) := by omega
          have Hn : Hid (lineOk s = false) := Lib.hid (by rw [He.out, decide_eq_false h24])
          go_wp2
          refine bodyPost_ret (v := .tuple #[.slice (some ⟨wr.heap.size, 0, none⟩) 0 0, .bool false]) (by simp [results, Tryd.results7, go_sem]) rfl (fld_no Hn.out (hbel.al _))
  · have n6 : (600 : Int) < (s.size : Int) := by omega
    have Hn := Lib.hid (line_long (s := s) (by omega))
    go_enter Tryd.func7, Tryd.ntmps7
    go_wp2
    refine bodyPost_ret (v := .tuple #[.slice (some ⟨w.heap.size, 0, none⟩) 0 0, .bool false]) (by simp [results, Tryd.results7, go_sem]) rfl (fld_no Hn.out ((Below.refl _ _).al _))
end Go.Proofs.YtklgbjgjojelbaaDoor
