/- SplitFields of both sides: the walks. No conditions. -/
import Derived.Test.YtklgbjgjojelbaaDoorParsePl
import Derived.Test.YtklgbjgjojelbaaDoorK3
namespace Go.Proofs.YtklgbjgjojelbaaDoor
open Go.ChangeShapes Go.WideShapes Go.ChangeAt Go.RowKit
set_option linter.unusedVariables false
set_option linter.unusedSimpArgs false

def okb (b : UInt8) : Bool := decide (32 ≤ b.toNat) && decide (b.toNat ≤ 126)
def lineOk (s : ByteArray) : Bool := decide (s.size ≤ 600) && s.data.toList.all okb && decide ((fg [] s.data.toList).length ≤ 24)
def flds (s : ByteArray) : List ByteArray := (fg [] s.data.toList).map toB
/-- Up to place k, the word that has begun at b; out: the words before it. -/
def SpS (s : ByteArray) (k b : Nat) (out : List ByteArray) : Prop := out.map (fun x => x.data.toList) ++ fg ((s.data.toList.drop b).take (k - b)) (s.data.toList.drop k) = fg [] s.data.toList ∧ b ≤ k ∧ out.length ≤ k
theorem ext_list (s : ByteArray) (b k : Nat) : (s.extract b k).data.toList = (s.data.toList.drop b).take (k - b) := by
  rw [ByteArray.data_extract, Array.toList_extract, List.extract_eq_take_drop]
theorem sp_start (s : ByteArray) : SpS s 0 0 [] := ⟨by simp, Nat.le_refl _, Nat.le_refl _⟩
theorem l_at (s : ByteArray) {k : Nat} (h : k < s.size) : ∃ h' : k < s.data.toList.length, s.data.toList[k] = s[k] := ⟨by rw [Array.length_toList]; exact h, rfl⟩
theorem sp_word {s : ByteArray} {k b : Nat} {out : List ByteArray} (hk : k < s.size) (hc : s[k].toNat ≠ 32) (h : SpS s k b out) : SpS s (k + 1) b out := by
  obtain ⟨h1, h2, h3⟩ := h
  obtain ⟨hk', e⟩ := l_at s hk
  refine ⟨?_, by omega, by omega⟩
  rw [← h1, List.drop_eq_getElem_cons hk', fg, if_neg (by rw [e]; intro q; apply hc; rw [q]; rfl)]
  congr 2
  have : (s.data.toList.drop b).take (k + 1 - b) = (s.data.toList.drop b).take (k - b) ++ [s.data.toList[k]] := by
    rw [show k + 1 - b = k - b + 1 by omega, List.take_add_one, List.getElem?_drop, show b + (k - b) = k by omega, List.getElem?_eq_getElem hk']
    rfl
  exact this
theorem seg_ne {s : ByteArray} {k b : Nat} (hk : k ≤ s.size) (hb : b < k) : (s.data.toList.drop b).take (k - b) ≠ [] := by
  intro h
  have := congrArg List.length h
  rw [List.length_take, List.length_drop, Array.length_toList] at this
  have e : s.data.size = s.size := rfl
  simp at this
  omega
theorem sp_cut {s : ByteArray} {k b : Nat} {out : List ByteArray} (hk : k < s.size) (hc : s[k].toNat = 32) (hb : b < k) (h : SpS s k b out) : SpS s (k + 1) (k + 1) (out ++ [s.extract b k]) := by
  obtain ⟨h1, h2, h3⟩ := h
  obtain ⟨hk', e⟩ := l_at s hk
  refine ⟨?_, Nat.le_refl _, by simp; omega⟩
  rw [← h1, List.drop_eq_getElem_cons hk', fg, if_pos (by rw [e]; exact UInt8.toNat_inj.1 hc), if_neg (seg_ne (by omega) hb), List.map_append, Nat.sub_self, List.take_zero]
  simp [ext_list]
theorem sp_skip {s : ByteArray} {k b : Nat} {out : List ByteArray} (hk : k < s.size) (hc : s[k].toNat = 32) (hb : b = k) (h : SpS s k b out) : SpS s (k + 1) (k + 1) out := by
  obtain ⟨h1, h2, h3⟩ := h
  obtain ⟨hk', e⟩ := l_at s hk
  subst hb
  refine ⟨?_, Nat.le_refl _, by omega⟩
  rw [← h1, Nat.sub_self, Nat.sub_self, List.take_zero, List.take_zero, List.drop_eq_getElem_cons hk', fg, if_pos (by rw [e]; exact UInt8.toNat_inj.1 hc), if_pos rfl]
theorem map_back {out : List ByteArray} {l : List Bs} (h : out.map (fun x => x.data.toList) = l) : out = l.map toB := by
  rw [← h, List.map_map]
  have : (toB ∘ fun x : ByteArray => x.data.toList) = id := by funext x; exact toB_self x
  rw [this, List.map_id]
theorem drop_all (s : ByteArray) : s.data.toList.drop s.size = [] := by
  apply List.drop_of_length_le
  rw [Array.length_toList]; exact Nat.le_refl _
theorem sp_end1 {s : ByteArray} {b : Nat} {out : List ByteArray} (hb : b < s.size) (h : SpS s s.size b out) : out ++ [s.extract b s.size] = flds s := by
  obtain ⟨h1, h2, h3⟩ := h
  apply map_back
  rw [← h1, drop_all, fg, if_neg (seg_ne (Nat.le_refl _) hb), List.map_append]
  simp [ext_list]
theorem sp_end2 {s : ByteArray} {b : Nat} {out : List ByteArray} (hb : b = s.size) (h : SpS s s.size b out) : out = flds s := by
  obtain ⟨h1, h2, h3⟩ := h
  subst hb
  apply map_back
  rw [← h1, drop_all, Nat.sub_self, List.take_zero, fg, if_pos rfl, List.append_nil]
theorem flds_len (s : ByteArray) : (flds s).length = (fg [] s.data.toList).length := by unfold flds; rw [List.length_map]
theorem line_long {s : ByteArray} (h : 600 < s.size) : lineOk s = false := by unfold lineOk; rw [decide_eq_false (by omega)]; rfl
theorem line_bad {s : ByteArray} {k : Nat} (hk : k < s.size) (h : s[k].toNat < 32 ∨ 126 < s[k].toNat) : lineOk s = false := by
  obtain ⟨hk', e⟩ := l_at s hk
  have : s.data.toList.all okb = false := by
    rw [List.all_eq_false]
    refine ⟨s.data.toList[k], List.getElem_mem hk', ?_⟩
    rw [e]
    unfold okb
    simp
    omega
  unfold lineOk
  rw [this]
  simp
theorem all_ok_succ {s : ByteArray} {k : Nat} (hk : k < s.size) (h : 32 ≤ s[k].toNat ∧ s[k].toNat ≤ 126) (e : (s.data.toList.take k).all okb = true) : (s.data.toList.take (k + 1)).all okb = true := by
  obtain ⟨hk', e'⟩ := l_at s hk
  rw [List.take_succ_eq_append_getElem hk', List.all_append, e, e']
  simp [okb, h.1, h.2]
theorem line_end {s : ByteArray} (h6 : s.size ≤ 600) (e : (s.data.toList.take s.size).all okb = true) : lineOk s = decide ((flds s).length ≤ 24) := by
  rw [List.take_of_length_le (by rw [Array.length_toList]; exact Nat.le_refl _)] at e
  unfold lineOk
  rw [decide_eq_true h6, e, flds_len]
  rfl
/-- The call returned a line's words and whether they are right; the words are the call's own. -/
def RetFld (s : ByteArray) (w : World) (e : Ending) (w' : World) : Prop := ∃ v, e = .returned (.tuple #[v, .bool (lineOk s)]) ∧ (lineOk s = true → OwnL 9 1 eStr w.heap.size w' v (flds s)) ∧ Below w.heap.size w w'
theorem fld_no {s : ByteArray} {w w' : World} {v : Value} (h : lineOk s = false) (hb : Below w.heap.size w w') : RetFld s w (.returned (.tuple #[v, .bool false])) w' := ⟨v, by rw [h], fun q => (by rw [h] at q; cases q), hb⟩
theorem fld_yes {s : ByteArray} {w w' : World} {v : Value} (h : lineOk s = true) (ho : OwnL 9 1 eStr w.heap.size w' v (flds s)) (hb : Below w.heap.size w w') : RetFld s w (.returned (.tuple #[v, .bool true])) w' := ⟨v, by rw [h], fun _ => ho, hb⟩

set_option maxHeartbeats 4000000 in
set_option maxRecDepth 100000 in
theorem splitI_any (s : ByteArray) (w : World) : Calls Tryd.prog 11 #[.string s] w (RetFld s w) := by
  by_cases h6 : s.size ≤ 600
  · have own0 := own_mt w (E := 9) (size := 1) (enc := eStr) w.heap.size rfl w.heap.size (Nat.le_refl _)
    have n6 : ¬ ((600 : Int) < (s.size : Int)) := by omega
    go_enter Tryd.func11, Tryd.ntmps11
    go_wp2
    go_loopw [4, 5, 6, 13] (fun s4 s5 s6 s13 wr => ∃ (k b : Nat) (out : List ByteArray) (D : Option Addr) (d : Nat) (f : Int) (z : Value), s6 = z ∧ k ≤ s.size ∧ s13 = .int .i64 k ∧ s5 = .int .i64 f ∧ ((f = -1 ∧ b = k) ∨ (f = b ∧ b < k)) ∧ s4 = .slice D out.length d ∧ OwnL 9 1 eStr w.heap.size wr (.slice D out.length d) out ∧ Hid (SpS s k b out ∧ (s.data.toList.take k).all okb = true) ∧ Below w.heap.size w wr) (fun _ _ _ i _ => s.size - (intOf i).toNat)
    case atStart => exact ⟨0, 0, [], _, _, -1, _, rfl, Nat.zero_le _, rfl, rfl, .inl ⟨rfl, rfl⟩, rfl, own0, Lib.hid ⟨sp_start s, rfl⟩, (Below.refl _ _).al _⟩
    case round =>
      obtain ⟨k, b, out, D, d, f, z, rfl, hk, rfl, rfl, hf, rfl, hown, Hg, hbel⟩ := hrel
      clear own0
      have hol : out.length ≤ 600 := by have := Hg.out.1.2.2; omega
      have H8 : Hid ((out.length + 1) * 16 ≤ 140737488355328) := Lib.hid (by omega)
      have HM : Hid (out.length + 1 ≤ maxLen) := Lib.hid (by unfold maxLen; omega)
      by_cases hlt : k < s.size
      · have hki : (k : Int) < (s.size : Int) := by omega
        by_cases hlo : s[k].toNat < 32
        · have i1 : ((s[k].toNat : Nat) : Int) < 32 := by omega
          have Hn := Lib.hid (line_bad hlt (.inl hlo))
          go_wp2
          refine bodyPost_ret (v := .tuple #[.slice none 0 0, .bool false]) (by simp [results, Tryd.results11, go_sem]) rfl (fld_no Hn.out hbel)
        · have i1 : ¬ (((s[k].toNat : Nat) : Int) < 32) := by omega
          by_cases hhi : 126 < s[k].toNat
          · have i2 : (126 : Int) < ((s[k].toNat : Nat) : Int) := by omega
            have Hn := Lib.hid (line_bad hlt (.inr hhi))
            go_wp2
            refine bodyPost_ret (v := .tuple #[.slice none 0 0, .bool false]) (by simp [results, Tryd.results11, go_sem]) rfl (fld_no Hn.out hbel)
          · have i2 : ¬ ((126 : Int) < ((s[k].toNat : Nat) : Int)) := by omega
            have Ha := Lib.hid (all_ok_succ hlt ⟨by omega, by omega⟩ Hg.out.2)
            by_cases hsp : s[k].toNat = 32
            · have i3 : ((s[k].toNat : Nat) : Int) = 32 := by omega
              rcases hf with ⟨rfl, rfl⟩ | ⟨rfl, hbk⟩
              · have Hs := Lib.hid (sp_skip hlt hsp rfl Hg.out.1)
                go_wp2
                go_roundw
                case rel => exact ⟨b + 1, b + 1, out, D, d, -1, _, rfl, by omega, by go_num, rfl, .inl ⟨rfl, rfl⟩, rfl, hown, Lib.hid ⟨Hs.out, Ha.out⟩, hbel⟩
                case measure => simp [intOf]; omega
              · have Hs := Lib.hid (sp_cut hlt hsp hbk Hg.out.1)
                have hb0 : (0 : Int) ≤ (b : Int) := by omega
                have hbi : (b : Int) ≤ (k : Int) := by omega
                go_wp2_with (at_builtin; go_must (refine wpList_app1 (enc := eStr) rowStr lenStr oneStr hbel hown (s.extract b k) H8.out HM.out rfl _ _ rfl rfl rfl ?_); intro v4 w4 own4 hb4 hg4 hd4; obtain ⟨A4, c4, rfl, hc4, hm4⟩ := own4.form)
                go_roundw
                case rel => exact ⟨k + 1, k + 1, out ++ [s.extract b k], A4, c4, -1, _, rfl, by omega, by go_num, rfl, .inl ⟨rfl, rfl⟩, by simp, own4, Lib.hid ⟨Hs.out, Ha.out⟩, hb4⟩
                case measure => simp [intOf]; omega
            · have i3 : ¬ (((s[k].toNat : Nat) : Int) = 32) := by omega
              have Hs := Lib.hid (sp_word hlt hsp Hg.out.1)
              rcases hf with ⟨rfl, rfl⟩ | ⟨rfl, hbk⟩
              · go_wp2
                go_roundw
                case rel => exact ⟨b + 1, b, out, D, d, _, _, rfl, by omega, by go_num, rfl, .inr ⟨rfl, by omega⟩, rfl, hown, Lib.hid ⟨Hs.out, Ha.out⟩, hbel⟩
                case measure => simp [intOf]; omega
              · have hb0 : ¬ ((b : Int) < 0) := by omega
                go_wp2
                go_roundw
                case rel => exact ⟨k + 1, b, out, D, d, _, _, rfl, by omega, by go_num, rfl, .inr ⟨rfl, by omega⟩, rfl, hown, Lib.hid ⟨Hs.out, Ha.out⟩, hbel⟩
                case measure => simp [intOf]; omega
      · obtain rfl : k = s.size := by omega
        have He := Lib.hid (line_end h6 Hg.out.2)
        rcases hf with ⟨rfl, rfl⟩ | ⟨rfl, hbk⟩
        · have hs := sp_end2 rfl Hg.out.1
          subst hs
          by_cases h24 : (flds s).length ≤ 24
          · have j1 : ¬ ((24 : Int) < ((flds s).length : Int)) := by omega
            have Hy : Hid (lineOk s = true) := Lib.hid (by rw [He.out, decide_eq_true h24])
            go_wp2
            refine bodyPost_ret (v := .tuple #[.slice D (flds s).length d, .bool true]) (by simp [results, Tryd.results11, go_sem]) rfl (fld_yes Hy.out hown hbel)
          · have j1 : (24 : Int) < ((flds s).length : Int) := by omega
            have Hn : Hid (lineOk s = false) := Lib.hid (by rw [He.out, decide_eq_false h24])
            go_wp2
            refine bodyPost_ret (v := .tuple #[.slice none 0 0, .bool false]) (by simp [results, Tryd.results11, go_sem]) rfl (fld_no Hn.out hbel)
        · have hs := sp_end1 hbk Hg.out.1
          have Hs := Lib.hid hs; clear hs
          have hb0 : (0 : Int) ≤ (b : Int) := by omega
          have hbi : (b : Int) ≤ (s.size : Int) := by omega
          by_cases h24 : (flds s).length ≤ 24
          · have j1 : ¬ ((24 : Int) < ((flds s).length : Int)) := by omega
            have Hy : Hid (lineOk s = true) := Lib.hid (by rw [He.out, decide_eq_true h24])
            go_wp2_with (at_builtin; go_must (refine wpList_app1 (enc := eStr) rowStr lenStr oneStr hbel hown (s.extract b s.size) H8.out HM.out rfl _ _ rfl rfl rfl ?_); rw [Hs.out]; intro v4 w4 own4 hb4 hg4 hd4; obtain ⟨A4, c4, rfl, hc4, hm4⟩ := own4.form)
            refine bodyPost_ret (v := .tuple #[.slice A4 (flds s).length c4, .bool true]) (by simp [results, Tryd.results11, go_sem]) rfl (fld_yes Hy.out own4 hb4)
          · have j1 : (24 : Int) < ((flds s).length : Int) := by omega
            have Hn : Hid (lineOk s = false) := Lib.hid (by rw [He.out, decide_eq_false h24])
            go_wp2_with (at_builtin; go_must (refine wpList_app1 (enc := eStr) rowStr lenStr oneStr hbel hown (s.extract b s.size) H8.out HM.out rfl _ _ rfl rfl rfl ?_); rw [Hs.out]; intro v4 w4 own4 hb4 hg4 hd4; obtain ⟨A4, c4, rfl, hc4, hm4⟩ := own4.form)
            refine bodyPost_ret (v := .tuple #[.slice none 0 0, .bool false]) (by simp [results, Tryd.results11, go_sem]) rfl (fld_no Hn.out hb4)
  · have n6 : (600 : Int) < (s.size : Int) := by omega
    have Hn := Lib.hid (line_long (s := s) (by omega))
    go_enter Tryd.func11, Tryd.ntmps11
    go_wp2
    refine bodyPost_ret (v := .tuple #[.slice none 0 0, .bool false]) (by simp [results, Tryd.results11, go_sem]) rfl (fld_no Hn.out (Below.refl _ _))
end Go.Proofs.YtklgbjgjojelbaaDoor
