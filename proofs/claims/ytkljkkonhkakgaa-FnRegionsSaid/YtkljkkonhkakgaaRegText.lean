/- SameCells, RegionText, Rectangle of the program: the walks. Conditions: valid regions. -/
import Derived.Test.YtkljkkonhkakgaaRegCells
import Derived.Test.YtkljkkonhkakgaaConvStr
namespace Go.Proofs.Ytkljkkonhkakgaa
open Go.ChangeShapes Go.WideShapes Go.ChangeAt Go.RowKit
set_option linter.unusedVariables false

theorem regionOkI_of (v : Value) (rows : List Int) (w : World) (h : Rd 1 RInt w v rows) (Hok : Hid (RowsOk rows)) : Calls Try.prog 33 #[.agg #[v]] w (Ret (.bool true) w) := by
  have := regionOkI_any v rows w h; rw [regionOk_iff.2 Hok.out] at this; exact this
set_option maxHeartbeats 1000000 in
set_option maxRecDepth 100000 in
theorem sameCellsI_yes (u v : Value) (a b : List Int) (w : World) (h : Rd 1 RInt w u a) (h' : Rd 1 RInt w v b) (Ha : Hid (RowsOk a)) (Hb : Hid (RowsOk b)) : Calls Try.prog 30 #[.agg #[u], .agg #[v]] w (Ret (.bool (decide (setOf a = setOf b))) w) := by
  obtain ⟨A, c, rfl, hc, hm⟩ := h.form
  obtain ⟨A', c', rfl, hc', hm'⟩ := h'.form
  have hA := ((Below.refl w.heap.size w).al (.cells #[.slice A a.length c] 37)).al (.cells #[.slice A' b.length c'] 37)
  have hz0 : w.heap.size + 1 + 1 ≤ ((w.alloc (.cells #[.slice A a.length c] 37)).alloc (.cells #[.slice A' b.length c'] 37)).drew.heap.size := by simp
  have Bacc : Below w.heap.size w ((w.alloc (.cells #[.slice A a.length c] 37)).alloc (.cells #[.slice A' b.length c'] 37)).drew := hA.drew
  have HR : Hid (Rd 1 RInt w (.slice A a.length c) a) := Lib.hid h
  have HR' : Hid (Rd 1 RInt w (.slice A' b.length c') b) := Lib.hid h'
  have ra : regionOk a = true := regionOk_iff.2 Ha.out
  have rb : regionOk b = true := regionOk_iff.2 Hb.out
  have Hra := Lib.hid ra; have Hrb := Lib.hid rb; clear ra rb
  have hp0 : w.heap.size < w.heap.size + 1 + 1 := by omega
  have hp1 : w.heap.size + 1 < w.heap.size + 1 + 1 := by omega
  go_enter Try.func30, Try.ntmps30
  go_wp2_with fail
  go_region_held3 (fun w' => w'.cell? ⟨w.heap.size, 0, none⟩ = some (.slice A a.length c) ∧ w'.cell? ⟨w.heap.size + 1, 0, none⟩ = some (.slice A' b.length c')) (go_keep) (first | (go_at_call 33; go_must (refine (regionOkI_of _ _ _ (by first | exact HR.out.below RE.stays Bacc | exact HR'.out.below RE.stays Bacc) (by first | exact Ha | exact Hb)).mono ?_; rintro e w1 ⟨rfl, hb1⟩; obtain ⟨hc1, hf1, hz1⟩ := bkn hb1 (w.heap.size + 1 + 1) hz0; have hz0 := hz1; have Bacc := Bacc.tr hb1)) | (go_at_call 102; go_must (refine (setI_any _ _ _ (by first | exact HR.out.below RE.stays Bacc | exact HR'.out.below RE.stays Bacc) (by first | exact Ha | exact Hb)).mono ?_; rintro e w1 ⟨rfl, hb1⟩; obtain ⟨hc1, hf1, hz1⟩ := bkn hb1 (w.heap.size + 1 + 1) hz0; have hz0 := hz1; have Bacc := Bacc.tr hb1)))
  go_wp2
  go_ret
  exact ⟨retB (by rw [Bool.eq_iff_iff]; simp; exact Int.natCast_inj), Bacc⟩

def sign (b : Bool) : UInt8 := if b then 35 else 46
def lineTo (s y k : Nat) : ByteArray := ⟨((List.range k).map fun x => sign (s.testBit (8 * y + x))).toArray⟩
theorem push_eq (a : ByteArray) (x : UInt8) : a ++ (⟨#[x]⟩ : ByteArray) = a.push x := by
  apply ByteArray.ext
  rw [ByteArray.data_append]
  simp [ByteArray.push]
theorem lineTo_succ (s y k : Nat) : lineTo s y k ++ (⟨#[sign (s.testBit (8 * y + k))]⟩ : ByteArray) = lineTo s y (k + 1) := by
  rw [push_eq]
  unfold lineTo ByteArray.push
  congr 1
  simp [List.range_succ]
theorem lineTo_size (s y k : Nat) : (lineTo s y k).size = k := by simp [lineTo, ByteArray.size]
def textTo (s n : Nat) : List ByteArray := (List.range n).map fun y => lineTo s y 8

set_option maxHeartbeats 1000000 in
set_option maxRecDepth 100000 in
theorem regTextI_yes (v : Value) (rows : List Int) (w : World) (h : Rd 1 RInt w v rows) (Hok : Hid (RowsOk rows)) : Calls Try.prog 27 #[.agg #[v]] w (RetOwn 9 1 eStr (textTo (setOf rows) rows.length) w) := by
  obtain ⟨A, c, rfl, hc, hm⟩ := h.form
  have hA := ((Below.refl w.heap.size w).al (.cells #[.slice A rows.length c] 37))
  have hx := Blk.new_ w 37 #[.slice A rows.length c]
  have h' := h.below RE.stays hA
  have hr := regionOk_iff.2 Hok.out
  have hs := setOf_lt Hok.out
  have h8 := Hok.out.1
  have Hr := Lib.hid hr; clear hr
  go_enter Try.func27, Try.ntmps27
  go_wp2_with fail
  refine (regionOkI_any _ rows _ h').mono ?_
  rintro e w1 ⟨rfl, hb1⟩
  obtain ⟨hc1, hf1, hz1⟩ := bk hb1
  (try simp at hz1)
  have hy1_0 : w.heap.size < w1.heap.size := by omega
  rw [Hr.out]
  go_wp2
  have own0 := own_mt w1 (E := 9) (size := 1) (enc := eStr) w1.heap.size rfl w.heap.size (hA.tr hb1).size
  have hx0 := (hx.below hb1 hx.lt).alloc (.cells #[] 9)
  have B0 := ((hA.tr hb1).al (.cells #[] 9))
  obtain ⟨s, hse⟩ : ∃ s, s = setOf rows := ⟨_, rfl⟩
  rw [← hse] at hs ⊢
  have Hse := Lib.hid hse; clear hse hx hb1 hc1 hf1 hz1 hy1_0
  go_loopw [3, 14] (fun s3 s14 wr => ∃ (y : Nat) (D : Option Addr) (d : Nat), y ≤ rows.length ∧ s14 = .int .i64 y ∧ s3 = .slice D y d ∧ OwnL 9 1 eStr w.heap.size wr (.slice D y d) (textTo s y) ∧ Blk wr w.heap.size 37 #[.slice A rows.length c] ∧ Below w.heap.size w wr) (fun _ i _ => rows.length - (intOf i).toNat)
  case atStart => exact ⟨0, _, _, by omega, rfl, rfl, own0, hx0, B0⟩
  case round =>
    obtain ⟨y, D, d, hy, rfl, rfl, hown, hbx, hbel⟩ := hrel
    clear own0 hx0 B0
    by_cases hlt : y < rows.length
    · go_wp2
      obtain ⟨wo, rfl⟩ : ∃ wo : World, wo = wr := ⟨_, rfl⟩
      go_loopw [5, 17] (fun s5 s17 wr => ∃ k : Nat, k ≤ 8 ∧ s17 = .int .i64 k ∧ s5 = .string (lineTo s y k) ∧ Below wo.heap.size wo wr) (fun _ i _ => 8 - (intOf i).toNat)
      case atStart => exact ⟨0, by omega, rfl, rfl, Below.refl _ _⟩
      case round =>
        obtain ⟨k, hk, rfl, rfl, hb⟩ := hrel
        have hbx2 := hbx.below hb hbx.lt
        have q1 := hbx2.c1
        have hz := hbx2.lt
        by_cases hk8 : k < 8
        · go_wp2_with fail
          refine (setI_any _ rows _ ((h.below RE.stays hbel).below RE.stays hb) Hok).mono ?_
          rintro e w2 ⟨rfl, hb2⟩
          rw [← Hse.out]
          go_wp2_with fail
          refine (hasI_any s k y _ hs).mono ?_
          rintro e w3 ⟨rfl, hb3⟩
          have hck : cellOk ((k : Int), (y : Int)) = true := cellOk_iff.2 ⟨⟨by omega, by omega⟩, by omega, by omega⟩
          have hix : (cellIx ((k : Int), (y : Int))).toNat = 8 * y + k := by rw [(cellIx_in hck).1]; simp only; omega
          rw [hck, Bool.true_and, hix]
          have hsz := lineTo_size s y k
          have hsc := lineTo_succ s y k
          have B3 := (hb.tr hb2).tr hb3
          have hszl : (lineTo s y k).size ≤ 8 := by omega
          rcases hbit : s.testBit (8 * y + k) with _ | _
          all_goals
            rw [hbit] at hsc
            have Hsc := Lib.hid hsc; clear hsc hsz hck hix hbit
            go_wp2
            go_roundw
            case rel => exact ⟨k + 1, by omega, by go_num, by rw [← Hsc.out]; rfl, B3⟩
            case measure => simp [intOf]; omega
        · obtain rfl : k = 8 := by omega
          have own2 := hown.below hb
          have B2 := hbel.tr hb
          have htl : (textTo s y).length = y := by simp [textTo]
          have H8 : Hid (((textTo s y).length + 1) * 16 ≤ 140737488355328) := Lib.hid (by rw [htl]; have := Hok.out.1; omega)
          have HM : Hid ((textTo s y).length + 1 ≤ maxLen) := Lib.hid (by rw [htl]; unfold maxLen; have := Hok.out.1; omega)
          have hts : textTo s y ++ [lineTo s y 8] = textTo s (y + 1) := by simp [textTo, List.range_succ]
          have Hts := Lib.hid hts; have Htl := Lib.hid htl; clear hts htl
          have hne := own2.apart hbx2 (by decide)
          go_wp2_with (at_builtin; go_must (refine wpList_app1 (enc := eStr) rowStr lenStr oneStr B2 own2 (lineTo s y 8) H8.out HM.out rfl _ _ rfl rfl rfl ?_); intro v4 w4 own4 hb4 hg4 hd4; obtain ⟨A4, c4, rfl, hc4, hm4⟩ := own4.form)
          have own5 : OwnL 9 1 eStr w.heap.size w4 (.slice A4 (y + 1) c4) (textTo s (y + 1)) := by
            have e : (textTo s y ++ [lineTo s y 8]).length = y + 1 := by rw [Hts.out]; simp [textTo]
            rw [← Hts.out, ← e]; exact own4
          have hbx5 := (hbx2.alloc _).grown hg4 (fun e => hne e.symm)
          go_roundw
          case rel => exact ⟨y + 1, A4, c4, by omega, by go_num, by simp [Htl.out], own5, hbx5, hb4⟩
          case measure => simp [intOf]; omega
    · obtain rfl : y = rows.length := by omega
      go_wp2
      go_ret
      have htl : (textTo (setOf rows) rows.length).length = rows.length := by simp [textTo]
      rw [Hse.out] at hown
      refine ⟨D, d, by rw [htl]; rfl, ?_, hbel⟩
      rw [htl]; exact hown
end Go.Proofs.Ytkljkkonhkakgaa
