/- Rectangle of the program and of the reference, CellAt of the reference: the walks. Conditions: valid sizes. -/
import Derived.Test.YtkbndchgmokabaaReg2
import Derived.Test.YtkbndchgmokabaaDraw
namespace Go.Proofs.Ytkbndchgmokabaa
open Go.ChangeShapes Go.WideShapes Go.ChangeAt Go.RowKit
set_option linter.unusedVariables false

def rectRows (w h : Nat) : List Int := List.replicate h ((2 : Int) ^ w - 1)
theorem rectRows_succ (w k : Nat) : rectRows w (k + 1) = rectRows w k ++ [(2 : Int) ^ w - 1] := by unfold rectRows; rw [List.replicate_succ']
theorem pow_in {w : Nat} (hw : w ≤ 8) : 1 ≤ (2 : Int) ^ w ∧ (2 : Int) ^ w ≤ 256 := by
  have h1 : 2 ^ w ≤ 2 ^ 8 := Nat.pow_le_pow_right (by decide) hw
  have h2 := Nat.pow_pos (n := w) (show 0 < 2 by decide)
  have e : (2 : Int) ^ w = ((2 ^ w : Nat) : Int) := by simp
  rw [e]; omega

set_option maxRecDepth 100000 in
theorem rectS_yes (a b : Nat) (w : World) (ha : 1 ≤ a ∧ a ≤ 8) (hb : 1 ≤ b ∧ b ≤ 8) : Calls Try.prog 158 #[.int .i64 a, .int .i64 b] w (RetReg (rectRows a b) w) := by
  have h1 : inB (a : Int) 1 8 = true := by simp [inB]; omega
  have h2 : inB (b : Int) 1 8 = true := by simp [inB]; omega
  have hp := pow_in ha.2
  obtain ⟨P, hP⟩ : ∃ P, P = (2 : Int) ^ a := ⟨_, rfl⟩
  rw [← hP] at hp
  have e1 : IntKind.i64.wrap ((2 : Int) ^ a) = P := by rw [← hP]; exact IntWalk.i64_in _ (by omega)
  have e2 : IntKind.i64.wrap (P - 1) = P - 1 := IntWalk.i64_in _ (by omega)
  have H1 := Lib.hid h1; have H2 := Lib.hid h2; have HP := Lib.hid hP; have E1 := Lib.hid e1; have E2 := Lib.hid e2; clear h1 h2 hP e1 e2
  go_enter Try.func158, Try.ntmps158
  go_wp2
  go_loopw [6] (fun i wr => ∃ (k : Nat) (A : Option Addr) (c : Nat), k ≤ b ∧ i = .int .i64 k ∧ Blk wr (w.heap.size + 1) 31 #[.slice A k c] ∧ Blk wr w.heap.size 31 #[.slice none 0 0] ∧ OwnL 3 1 eInt (w.heap.size + 1 + 1) wr (.slice A k c) (rectRows a k) ∧ Below w.heap.size w wr) (fun i _ => b - (intOf i).toNat)
  case atStart =>
    refine ⟨0, none, 0, Nat.zero_le _, rfl, ?_, ?_, ?_, ?_⟩
    · have := Blk.new_ (w.alloc (.cells #[.slice none 0 0] 31)) 31 #[.slice none 0 0]
      simpa using this
    · exact (Blk.new_ w 31 #[.slice none 0 0]).alloc _
    · exact own_nil _
    · exact ((Below.refl _ _).al _).al _
  case round =>
    obtain ⟨k, A, c, hk, rfl, hbx, hbr, hown, hbel⟩ := hrel
    have q1 := hbx.c1
    have q2 := hbx.frozen 0
    have hz := hbx.lt
    by_cases hlt : k < b
    · have hne := hown.apart hbx (by decide)
      have hlen : (rectRows a k).length = k := by simp [rectRows]
      have HB : Hid (w.heap.size + 1 + 1 ≤ wr.drew.heap.size) := Lib.hid (show w.heap.size + 1 + 1 ≤ wr.heap.size by omega)
      have H8 : Hid (((rectRows a k).length + 1) * 8 ≤ 140737488355328) := Lib.hid (by rw [hlen]; omega)
      have HM : Hid ((rectRows a k).length + 1 ≤ maxLen) := Lib.hid (by rw [hlen]; unfold maxLen; omega)
      have Hlen := Lib.hid hlen; clear hlen
      go_wp2_with fail
      refine (in_any _ _ _ _).mono ?_
      rintro e w5 ⟨rfl, rfl⟩
      rw [H1.out]
      go_wp2_with fail
      refine (in_any _ _ _ _).mono ?_
      rintro e w5 ⟨rfl, rfl⟩
      rw [H2.out]
      have e1 := E1.out
      have e2 := E2.out
      go_wp2_with fail
      go_region_law (go_must (refine step_appB (enc := eInt) rowInt lenInt oneInt (B := w.heap.size + 1 + 1) wr.drew HB.out hown (P - 1) rfl H8.out HM.out rfl _ _ rfl rfl rfl ?_); intro v1 w1 own1 hg1 hv1; rw [Hlen.out] at hv1; obtain ⟨A1, c1, rfl⟩ := hv1; have hbx1 := Blk.grown (w := wr.drew) hbx hg1 (fun e => hne e.symm); have q3 := hbx1.c1; have q4 := hbx1.frozen 0; have hz1 := hbx1.lt)
      all_goals
        have hbr1 := Blk.grown (w := wr.drew) hbr hg1 (fun e => (hown.apart hbr (by decide)) e.symm)
        have B1 := Below.app hbel.drew (w := wr.drew) hown (by omega) hg1
        have own2 : OwnL 3 1 eInt (w.heap.size + 1 + 1) w1 (.slice A1 (k + 1) c1) (rectRows a (k + 1)) := by rw [rectRows_succ, ← HP.out]; exact own1
        have own3 := own2.far (a := ⟨w.heap.size + 1, 0, none⟩) (own2.apart hbx1 (by decide)) (.slice A1 (k + 1) c1)
        have hbx2 := hbx1.set_ 0 (.slice A1 (k + 1) c1)
        have hbr2 := hbr1.far (p := ⟨w.heap.size + 1, 0, none⟩) (by simp) (.slice A1 (k + 1) c1)
        have B2 := B1.st ⟨w.heap.size + 1, 0, none⟩ (.slice A1 (k + 1) c1) (by simp)
        clear own1 own2 hbx hbx1 hbr hbr1 q1 q2 q3 q4 B1 hg1 hown e1 e2
        go_wp2
        go_roundw
        case rel => exact ⟨k + 1, A1, c1, by omega, by go_num, hbx2, hbr2, own3, B2⟩
        case measure => simp [intOf]; omega
    · have q3 := hbr.c1
      have q4 := hbr.frozen 0
      have hz2 := hbr.lt
      obtain rfl : k = b := by omega
      have hbr5 : Blk (wr.setCell ⟨w.heap.size, 0, none⟩ (.slice A k c)) w.heap.size 31 #[.slice A k c] := hbr.set_ 0 _
      have q5 := hbr5.c1
      have hlen : (rectRows a k).length = k := by simp [rectRows]
      go_wp2
      refine bodyPost_ret (v := .agg #[.slice A k c]) (by simp [results, Try.results158, go_sem, q5]) rfl ⟨A, c, by rw [hlen], ?_, ?_⟩
      · rw [hlen]
        exact (hown.low (p := ⟨w.heap.size, 0, none⟩) (by simp; omega) _).mono (by omega)
      · exact hbel.st _ _ (Nat.le_refl _)
theorem cellAtS_yes (i : Nat) (w : World) (hi : i < 64) : Calls Try.prog 85 #[.int .i64 i] w (Ret (.tuple #[.agg #[.int .i64 ((i : Int) % 8), .int .i64 ((i : Int) / 8)], .bool true]) w) := by
  have h1 : inB (i : Int) 0 63 = true := by simp [inB]; omega
  go_enter Try.func85, Try.ntmps85
  go_wp2_with fail
  refine (in_any _ _ _ _).mono ?_
  rintro e w5 ⟨rfl, rfl⟩
  rw [h1]
  go_wp2
  refine bodyPost_ret (v := .tuple #[.agg #[.int .i64 ((i : Int) % 8), .int .i64 ((i : Int) / 8)], .bool true]) (by simp [results, Try.results85, go_sem]) rfl ⟨rfl, ?_⟩
  exact ((Below.refl _ _).al _)
end Go.Proofs.Ytkbndchgmokabaa
