/- Numbers and lines as texts: FormatInt of both sides, lineOf. Conditions: numbers from 0 on; the library's table of powers, as its text lays it. -/
import Derived.Test.YtklgbjgjojelbaaGreatDoorK1
import Derived.Test.YtklgbjgjojelbaaGreatDoorShelf
import Derived.Laws.BytesArg
import Derived.Lib.ItoaLen
import Derived.Lib.Join
import Derived.Lib.AppendIntMem
namespace Go.Proofs.YtklgbjgjojelbaaGreatDoor
open Go.ChangeShapes Go.WideShapes Go.ChangeAt Go.RowKit
set_option linter.unusedVariables false
set_option linter.unusedSimpArgs false

def Tab (w : World) : Prop := Lib.TabIs Tryz.prog w "internal/strconv.uint64pow10" .u64 Lib.pow10Tab
theorem Tab.below {w w' : World} (h : Tab w) (hb : Below w.heap.size w w') : Tab w' := by
  unfold Tab Lib.TabIs World.var? at h ⊢
  have hg : Tryz.prog.globalNamed "internal/strconv.uint64pow10" = some 1 := by kernel_rfl
  rw [hg] at h ⊢
  simp only [Option.bind_some] at h ⊢
  have hlt : 1 < w.heap.size := by
    rcases Nat.lt_or_ge 1 w.heap.size with h' | h'
    · exact h'
    · rw [Array.getElem?_eq_none h'] at h; cases h
  rw [hb.block 1 hlt]
  exact h

def numB (n : Int) : ByteArray := ⟨(Lib.decDigits n.toNat).toArray⟩
theorem itoa_pos {n : Int} (h : 0 ≤ n) : Lib.itoa n = Lib.decDigits n.toNat := by unfold Lib.itoa; rw [if_neg (by omega)]
theorem numB_size {n : Int} (h0 : 0 ≤ n) (h1 : n ≤ 9223372036854775807) : (numB n).size ≤ 21 := by
  have := Lib.itoa_length_le n (by omega) h1
  rw [itoa_pos h0] at this
  simpa [numB, ByteArray.size] using this
theorem grow_below (w : World) (k : Nat) (os : Array Obj) : Below w.heap.size w (Sort.grow (w.drewN k) os) := Lib.below_grow w.heap.size w (Nat.le_refl _) k os

theorem itoa_any (n : Int) (w : World) (h0 : 0 ≤ n) (h1 : n ≤ 9223372036854775807) (ht : Tab w) : Calls Tryz.prog 74 #[.int .i64 n] w (Ret (.string (numB n)) w) := by
  refine (Tryz.strconv_Itoa n (by omega) h1 w ht).mono ?_
  rintro e w' ⟨rfl, k, os, rfl⟩
  exact ⟨by rw [itoa_pos h0]; rfl, grow_below w k os⟩
theorem fmtI_any (n : Int) (w : World) (h0 : 0 ≤ n) (h1 : n ≤ 9223372036854775807) (ht : Tab w) : Calls Tryz.prog 43 #[.int .i64 n] w (Ret (.string (numB n)) w) := by
  go_enter Tryz.func43, Tryz.ntmps43
  go_wp2_with fail
  refine (itoa_any n _ h0 h1 ht).mono ?_
  rintro e w1 ⟨rfl, hb1⟩
  go_wp2
  go_ret
  exact ⟨rfl, hb1⟩

theorem figS_any (d : Int) (w : World) (h0 : 0 ≤ d) (h1 : d < 10) : Calls Tryz.prog 32 #[.int .i64 d] w (Ret (.int .u8 (48 + d)) w) := by
  have hw : IntKind.u8.wrap (48 + d) = 48 + d := by rw [IntKind.wrap_u8]; omega
  go_enter Tryz.func32, Tryz.ntmps32
  go_wp2
  go_ret
  exact ⟨rfl, Below.refl _ _⟩

def figB (n : Nat) : ByteArray := strOfNums [((48 + n % 10 : Nat) : Int)]
def dz (m : Nat) : ByteArray := if m = 0 then ByteArray.empty else numB m
theorem figB_size (n : Nat) : (figB n).size = 1 := by unfold figB; rw [strOfNums_size]; rfl
theorem dz_step {n : Nat} (h : 0 < n) (o : ByteArray) : dz (n / 10) ++ (figB n ++ o) = dz n ++ o := by
  rw [← ByteArray.append_assoc]
  congr 1
  apply ByteArray.ext
  rw [ByteArray.data_append]
  apply Array.toList_inj.1
  rw [Array.toList_append]
  have e : (figB n).data.toList = [UInt8.ofNat (48 + n % 10)] := by unfold figB; rw [strOfNums_data]; rfl
  rw [e]
  unfold dz
  rw [if_neg (by omega : ¬ n = 0)]
  by_cases h10 : n < 10
  · rw [if_pos (by omega)]
    unfold numB
    rw [Int.toNat_natCast, Lib.decDigits_one h10, Nat.mod_eq_of_lt h10]
    rfl
  · rw [if_neg (by omega)]
    unfold numB
    simp only [Int.toNat_natCast]
    rw [Lib.decDigits.eq_1 n, dif_neg h10]
theorem numB_zero : numB 0 = (⟨#[48]⟩ : ByteArray) := by
  unfold numB
  rw [show Int.toNat 0 = 0 from rfl, Lib.decDigits_one (by decide)]
  rfl
set_option maxHeartbeats 1000000 in
set_option maxRecDepth 100000 in
theorem fmtS_any (x : Int) (w : World) (h0 : 0 ≤ x) (h1 : x ≤ 9223372036854775807) : Calls Tryz.prog 16 #[.int .i64 x] w (Ret (.string (numB x)) w) := by
  obtain ⟨k, rfl⟩ : ∃ k : Nat, x = k := ⟨x.toNat, by omega⟩
  rcases Nat.eq_zero_or_pos k with hz | hpos
  · subst hz
    rw [show ((0 : Nat) : Int) = 0 from rfl, numB_zero]
    go_enter Tryz.func16, Tryz.ntmps16
    go_wp2
    go_ret
    exact ⟨rfl, Below.refl _ _⟩
  · obtain ⟨R, hR⟩ : ∃ R, R = numB k := ⟨_, rfl⟩
    have hd : dz k = R := by rw [hR]; unfold dz; rw [if_neg (by omega)]
    rw [← hR]
    have HR := Lib.hid hd; clear hd hR
    have hk0 : ¬ ((k : Int) = 0) := by omega
    have hk1 : ¬ ((k : Int) < 0) := by omega
    go_enter Tryz.func16, Tryz.ntmps16
    go_wp2
    go_loopw [0, 4, 5] (fun s0 s4 s5 wr => ∃ (f n : Nat) (o : ByteArray) (z : Value), s5 = z ∧ Hid (n < 10 ^ f) ∧ n ≤ k ∧ o.size + f ≤ 19 ∧ s0 = .int .i64 n ∧ s4 = .string o ∧ Hid (dz n ++ o = R) ∧ Below w.heap.size w wr) (fun i _ _ _ => (intOf i).toNat)
    case atStart => exact ⟨19, k, ByteArray.empty, _, rfl, Lib.hid (by omega), Nat.le_refl _, by decide, rfl, rfl, Lib.hid (by rw [HR.out]; exact ByteArray.append_empty), Below.refl _ _⟩
    case round =>
      obtain ⟨f, n, o, z, rfl, Hn, hn, hf, rfl, rfl, Hg, hbel⟩ := hrel
      have hos : o.size ≤ 19 := by omega
      by_cases hlt : 0 < n
      · obtain ⟨f, rfl⟩ : ∃ f', f = f' + 1 := ⟨f - 1, by have := Hn.out; rcases f with _ | f <;> simp at *; omega⟩
        have hg : dz (n / 10) ++ (figB n ++ o) = R := by rw [← Hg.out]; exact dz_step hlt o
        have HG := Lib.hid hg; clear hg
        have hd1 := figB_size n
        have hm0 : ¬ ((n : Int) % 10 < 0) := by omega
        have hn0 : ¬ ((n : Int) = 0) := by omega
        have hsz : (figB n ++ o).size = 1 + o.size := by rw [ByteArray.size_append, hd1]
        have Hn2 : Hid (n / 10 < 10 ^ f) := Lib.hid (by have := Hn.out; rw [Nat.pow_succ] at this; omega)
        have Hsz := Lib.hid hsz; clear hsz
        go_wp2_with fail
        refine (figS_any ((n : Int) % 10) _ (by omega) (by omega)).mono ?_
        rintro e w1 ⟨rfl, hb1⟩
        have hconv := run_convert_bytes_arg (P := Tryz.prog) (w1.alloc (.cells #[.int .u8 (48 + (n : Int) % 10)] 5)) 68 5 Tryz.underlying68 Tryz.underlying5 w1.heap.size 0 1 1 [48 + (n : Int) % 10] rfl (fun i hi => by
          obtain rfl : i = 0 := by omega
          exact (cell_of_row _ _ 0 #[.int .u8 (48 + (n : Int) % 10)] 5 (0, 0) (heap_alloc_new w1 _))) 9 Tryz.underlying9
        have hd : strOfNums [48 + (n : Int) % 10] = figB n := by unfold figB; congr 2
        rw [hd] at hconv
        clear hd
        go_wp2
        go_roundw
        case rel => exact ⟨f, n / 10, figB n ++ o, _, rfl, Hn2, by omega, by rw [Hsz.out]; omega, by go_num, rfl, HG, (hbel.tr hb1).al _⟩
        case measure => simp [intOf]; omega
      · obtain rfl : n = 0 := by omega
        have HG : Hid (o = R) := Lib.hid (by rw [← Hg.out]; unfold dz; rw [if_pos rfl]; exact ByteArray.empty_append.symm)
        go_wp2
        go_ret
        exact ⟨by rw [HG.out]; rfl, hbel⟩

/-- A word, and numbers behind it, each behind a blank. -/
def lineB (word : ByteArray) (l : List Int) : ByteArray := l.foldl (fun s x => s ++ (⟨#[32]⟩ : ByteArray) ++ numB x) word
theorem lineB_data : ∀ (l : List Int) (word : ByteArray), (lineB word l).data.toList = word.data.toList ++ (l.map fun x => (32 : UInt8) :: Lib.decDigits x.toNat).flatten
  | [], word => by simp [lineB]
  | x :: l, word => by
    have e : lineB word (x :: l) = lineB (word ++ (⟨#[32]⟩ : ByteArray) ++ numB x) l := rfl
    rw [e, lineB_data l]
    simp [ByteArray.data_append, numB]
theorem join_lineB (word : ByteArray) (l : List Int) : (⟨(Lib.join ((word :: l.map numB).map (·.data.toList)) [32]).toArray⟩ : ByteArray) = lineB word l := by
  apply ByteArray.ext
  apply Array.toList_inj.1
  rw [lineB_data, List.map_cons, Lib.join_cons]
  simp [Lib.joinTail, numB, Function.comp_def]
theorem lineB_size : ∀ (l : List Int) (word : ByteArray), (∀ x ∈ l, 0 ≤ x ∧ x ≤ 9223372036854775807) → (lineB word l).size ≤ word.size + 22 * l.length
  | [], word, _ => by simp [lineB]
  | x :: l, word, h => by
    have e : lineB word (x :: l) = lineB (word ++ (⟨#[32]⟩ : ByteArray) ++ numB x) l := rfl
    have h1 := lineB_size l (word ++ (⟨#[32]⟩ : ByteArray) ++ numB x) (fun y hy => h y (List.mem_cons_of_mem _ hy))
    have h2 := numB_size (h x List.mem_cons_self).1 (h x List.mem_cons_self).2
    rw [e]
    rw [ByteArray.size_append, ByteArray.size_append] at h1
    have h3 : (⟨#[32]⟩ : ByteArray).size = 1 := rfl
    rw [List.length_cons]
    omega

theorem own_one {α : Type} {E : TypeId} {enc : α → List Value} (w : World) (x : α) {u : Value} (h : enc x = [u]) : OwnL E 1 enc w.heap.size (w.alloc (.cells #[u] E)) (.slice (some ⟨w.heap.size, 0, none⟩) 1 1) [x] := by
  have e : [x].flatMap enc = [u] := by simp [h]
  unfold OwnL
  rw [e]
  exact ⟨by simp, .inr ⟨w.heap.size, 1, #[u], rfl, Nat.le_refl _, heap_alloc_new w _, by simp, by simp [maxLen], by simp, by simp⟩⟩
def lineL (word : ByteArray) (l : List Int) (k : Nat) : List ByteArray := word :: (l.take k).map numB
theorem lineL_len {word : ByteArray} {l : List Int} {k : Nat} (h : k ≤ l.length) : (lineL word l k).length = k + 1 := by simp [lineL]; omega
theorem lineL_succ {word : ByteArray} {l : List Int} {k : Nat} (h : k < l.length) : lineL word l k ++ [numB l[k]] = lineL word l (k + 1) := by
  unfold lineL
  rw [List.take_succ_eq_append_getElem h, List.map_append]
  rfl
set_option maxHeartbeats 1000000 in
set_option maxRecDepth 100000 in
theorem lineOfI_any (word : ByteArray) (v : Value) (l : List Int) (w : World) (h : Rd 1 RInt w v l) (hw : word.size ≤ 100) (hl : l.length ≤ 100) (Hp : Hid (∀ x ∈ l, 0 ≤ x ∧ x ≤ 9223372036854775807)) (ht : Tab w) : Calls Tryz.prog 20 #[.string word, v] w (Ret (.string (lineB word l)) w) := by
  obtain ⟨A, c, rfl, hc, hm⟩ := h.form
  have own0 := own_one (E := 9) (enc := eStr) w word rfl
  have HT := Lib.hid ht; clear ht
  go_enter Tryz.func20, Tryz.ntmps20
  go_wp2
  go_loopw [5, 7, 12] (fun s5 s7 s12 wr => ∃ (k : Nat) (D : Option Addr) (d : Nat) (z : Value), s7 = z ∧ k ≤ l.length ∧ s12 = .int .i64 k ∧ s5 = .slice D (k + 1) d ∧ OwnL 9 1 eStr w.heap.size wr (.slice D (k + 1) d) (lineL word l k) ∧ Below w.heap.size w wr) (fun _ _ i _ => l.length - (intOf i).toNat)
  case atStart => exact ⟨0, _, _, _, rfl, Nat.zero_le _, rfl, rfl, own0, (Below.refl _ _).al _⟩
  case round =>
    obtain ⟨k, D, d, z, rfl, hk, rfl, rfl, hown, hbel⟩ := hrel
    clear own0
    by_cases hlt : k < l.length
    · obtain ⟨b, off, rfl, hb, k1⟩ := (h.below RE.stays hbel).atInt hlt
      have hp := Hp.out l[k] (List.getElem_mem hlt)
      obtain ⟨x, hx⟩ : ∃ x, x = l[k] := ⟨_, rfl⟩
      rw [← hx] at k1 hp
      have HX := Lib.hid hx; clear hx
      have HH := Lib.hid hp; clear hp
      go_wp2_with fail
      refine (fmtI_any x _ HH.out.1 HH.out.2 (HT.out.below hbel)).mono ?_
      rintro e w1 ⟨rfl, hb1⟩
      have own1 := hown.below hb1
      have B1 := hbel.tr hb1
      have hll := lineL_len (word := word) hk
      have H8 : Hid (((lineL word l k).length + 1) * 16 ≤ 140737488355328) := Lib.hid (by rw [hll]; omega)
      have HM : Hid ((lineL word l k).length + 1 ≤ maxLen) := Lib.hid (by rw [hll]; unfold maxLen; omega)
      have hts := lineL_succ (word := word) hlt
      have Hts := Lib.hid hts; have Htl := Lib.hid hll; clear hts hll
      go_wp2_with (at_builtin; go_must (refine wpList_app1 (enc := eStr) rowStr lenStr oneStr B1 own1 (numB x) H8.out HM.out rfl _ _ rfl rfl rfl ?_); intro v4 w4 own4 hb4 hg4 hd4; obtain ⟨A4, c4, rfl, hc4, hm4⟩ := own4.form)
      have own5 : OwnL 9 1 eStr w.heap.size w4 (.slice A4 (k + 1 + 1) c4) (lineL word l (k + 1)) := by
        have e : (lineL word l k ++ [numB x]).length = k + 1 + 1 := by rw [List.length_append, Htl.out]; rfl
        rw [← Hts.out, ← HX.out, ← e]; exact own4
      go_roundw
      case rel => exact ⟨k + 1, A4, c4, _, rfl, by omega, by go_num, by simp [Htl.out], own5, hb4⟩
      case measure => simp [intOf]; omega
    · obtain rfl : k = l.length := by omega
      have hll := lineL_len (word := word) hk
      obtain ⟨g, rfl, hB, hgl⟩ := hown.split (k := 0) (by rw [hll]; omega)
      have e1 : lineL word l l.length = word :: l.map numB := by unfold lineL; rw [List.take_length]
      have hsz := lineB_size l word Hp.out
      have hjn := join_lineB word l
      have hcl := Tryz.strings_Join g 0 d (lineL word l l.length) (⟨#[32]⟩ : ByteArray) wr (fun j x hj => by
        have hjl : j < (lineL word l l.length).length := (List.getElem?_eq_some_iff.1 hj).1
        have := hown.slot lenStr (by decide) hjl 0 (.string (lineL word l l.length)[j]) rfl
        rw [(List.getElem?_eq_some_iff.1 hj).2] at this
        simpa using this) hgl (by rw [hll]; omega) (by have := hown.form; obtain ⟨A', c', e, h1, h2⟩ := this; injection e with e1 e2 e3; omega) (by
          rw [e1]
          have e3 : (Lib.join ((word :: l.map numB).map (·.data.toList)) [32]).length = (lineB word l).size := by rw [← hjn]; simp [ByteArray.size]
          show (Lib.join ((word :: l.map numB).map (·.data.toList)) [32]).length ≤ _
          rw [e3]; omega)
      rw [hll, e1] at hcl
      have hcl2 : Calls Tryz.prog 44 #[.slice (some ⟨g, 0, none⟩) (l.length + 1) d, .string ⟨#[32]⟩] wr (Ret (.string (lineB word l)) wr) := by
        refine hcl.mono ?_
        rintro e w' ⟨rfl, hb⟩
        exact ⟨by rw [← hjn], hb⟩
      clear hcl hll e1 hjn
      go_wp2_with fail
      refine hcl2.mono ?_
      rintro e w5 ⟨rfl, hb5⟩
      go_wp2
      go_ret
      exact ⟨rfl, hbel.tr hb5⟩
end Go.Proofs.YtklgbjgjojelbaaGreatDoor
