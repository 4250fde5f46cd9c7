/- WithCell of the reference where the region and the cell are valid: the walk. -/
import Derived.Test.YtkbndchgmokabaaWithS2
namespace Go.Proofs.Ytkbndchgmokabaa
open Go.ChangeShapes Go.WideShapes Go.ChangeAt Go.RowKit
set_option linter.unusedVariables false

/-- The length of the slice in a box. -/
def cellLen (w : World) (b : Nat) : Nat := match w.cell? ⟨b, 0, none⟩ with | some (.slice _ n _) => n | _ => 0
theorem Blk.len_ {w : World} {g : Nat} {t : TypeId} {A : Option Addr} {n c : Nat} (h : Blk w g t #[.slice A n c]) : cellLen w g = n := by unfold cellLen; rw [h.c1]

set_option maxHeartbeats 1000000 in
set_option maxRecDepth 100000 in
theorem withCellS_yes (v : Value) (rows : List Int) (x y : Nat) (on : Bool) (w : World) (h : Rd 1 RInt w v rows) (hl : Small rows.length) (hr : regionOk rows = true) (hx8 : x < 8) (hy8 : y < 8) :
    Calls Try.prog 115 #[.agg #[v], .agg #[.int .i64 x, .int .i64 y], .bool on] w (RetRegB ((pad8 rows).set y (specRow (rows.getD y 0).toNat x on : Nat)) true w) := by
  obtain ⟨A, c, rfl, hc, hm⟩ := h.form
  have hA := (((Below.refl w.heap.size w).al (.cells #[.slice A rows.length c] 31)).al (.cells #[.int .i64 x, .int .i64 y] 70)).al (.cells #[.slice none 0 0] 31)
  have h' := h.below RE.stays hA
  have hx := Blk.new2 ((w.alloc (.cells #[.slice A rows.length c] 31)).alloc (.cells #[.int .i64 x, .int .i64 y] 70)) 31 #[.slice none 0 0] (w.heap.size + 1 + 1) (by simp)
  have hcb := (Blk.new2 (w.alloc (.cells #[.slice A rows.length c] 31)) 70 #[.int .i64 x, .int .i64 y] (w.heap.size + 1) (by simp)).alloc (.cells #[.slice none 0 0] 31)
  have hcell : cellOk ((x : Int), (y : Int)) = true := cellOk_iff.2 ⟨⟨by omega, by omega⟩, by omega, by omega⟩
  have Hrows := Lib.hid (regionOk_iff.1 hr)
  have h8 := Hrows.out.1
  go_enter Try.func115, Try.ntmps115
  go_wp2_with fail
  refine (copyS_any _ rows _ h' hl).mono ?_
  rintro e w1 ⟨A1, c1, rfl, own1, hb1⟩
  obtain ⟨hc1, hf1, hz1⟩ := bk hb1
  (try simp at hz1)
  have hy1_0 : w.heap.size < w1.heap.size := by omega
  have hy1_1 : w.heap.size + 1 < w1.heap.size := by omega
  have hy1_2 : w.heap.size + 1 + 1 < w1.heap.size := by omega
  have hx1 := (hx.bl hb1).alloc (.cells #[.slice A1 rows.length c1] 31)
  have hcb1 := (hcb.bl hb1).alloc (.cells #[.slice A1 rows.length c1] 31)
  have ho1 := Blk.new_ w1 31 #[.slice A1 rows.length c1]
  go_wp2_with fail
  refine (regionOkS_any _ rows _ ((h'.below RE.stays hb1).below RE.stays ((Below.refl _ _).al _))).mono ?_
  rintro e w2 ⟨rfl, hb2⟩
  obtain ⟨hc2, hf2, hz2⟩ := bk hb2
  (try simp at hz2)
  have hy2_0 : w.heap.size < w2.heap.size := by omega
  have hy2_1 : w.heap.size + 1 < w2.heap.size := by omega
  have hy2_2 : w.heap.size + 1 + 1 < w2.heap.size := by omega
  have hy2_3 : w1.heap.size < w2.heap.size := by omega
  rw [hr]
  go_wp2_with fail
  refine (cellOkS_cl x y _).mono ?_
  rintro e w3 ⟨rfl, hb3⟩
  obtain ⟨hc3, hf3, hz3⟩ := bk hb3
  (try simp at hz3)
  have hy3_0 : w.heap.size < w3.heap.size := by omega
  have hy3_1 : w.heap.size + 1 < w3.heap.size := by omega
  have hy3_2 : w.heap.size + 1 + 1 < w3.heap.size := by omega
  have hy3_3 : w1.heap.size < w3.heap.size := by omega
  rw [hcell]
  have hx3 := (hx1.bl hb2).bl hb3
  have hcb3 := (hcb1.bl hb2).bl hb3
  have ho3 := (ho1.bl hb2).bl hb3
  have B3 := (((hA.tr hb1).al (.cells #[.slice A1 rows.length c1] 31)).tr hb2).tr hb3
  have own3 := (((own1.alloc (.cells #[.slice A1 rows.length c1] 31)).below hb2).below hb3).mono (B' := w.heap.size + 3) (by simp)
  obtain ⟨bo, hbo⟩ : ∃ bo, bo = w1.heap.size := ⟨_, rfl⟩
  rw [← hbo] at ho3 hy2_3 hy3_3
  have hbo2 : w.heap.size + 3 ≤ bo := by omega
  have q1 := ho3.c1
  rw [← hbo]
  clear hc1 hf1 hz1 hc2 hf2 hz2 hc3 hf3 hz3 hx hcb hx1 hcb1 ho1 hb1 hb2 hb3 own1 hA hbo hy1_0 hy1_1 hy1_2 hy2_0 hy2_1 hy2_2 hy2_3 hy3_0 hy3_1 hy3_2
  go_wp2
  go_loopw [20] (fun _ wr => ∃ (j : Nat) (A' : Option Addr) (c' : Nat), rows.length + j ≤ 8 ∧ Blk wr bo 31 #[.slice A' (rows.length + j) c'] ∧ OwnL 3 1 eInt (w.heap.size + 3) wr (.slice A' (rows.length + j) c') (rows ++ List.replicate j 0) ∧ Blk wr (w.heap.size + 1 + 1) 31 #[.slice none 0 0] ∧ Blk wr (w.heap.size + 1) 70 #[.int .i64 x, .int .i64 y] ∧ Below w.heap.size w wr) (fun _ wr => 8 - cellLen wr bo)
  case atStart => exact ⟨0, A1, c1, by omega, ho3, by simpa using own3, hx3, hcb3, B3⟩
  case round =>
    obtain ⟨j, A', c', hj, hbx, hown, hbr, hbc, hbel⟩ := hrel
    clear ho3 own3 hx3 hcb3 B3 q1
    have q1 := hbx.c1
    have q2 := hbx.frozen 0
    have hz := hbx.lt
    by_cases hlt : rows.length + j < 8
    · have hltI : ((rows.length : Int) + j) < 8 := by omega
      have hlen : (rows ++ List.replicate j (0 : Int)).length = rows.length + j := by simp
      have HB : Hid (w.heap.size + 3 ≤ wr.heap.size) := Lib.hid (by omega)
      have H8 : Hid (((rows ++ List.replicate j (0 : Int)).length + 1) * 8 ≤ 140737488355328) := Lib.hid (by rw [hlen]; omega)
      have HM : Hid ((rows ++ List.replicate j (0 : Int)).length + 1 ≤ maxLen) := Lib.hid (by rw [hlen]; unfold maxLen; omega)
      have Hlen := Lib.hid hlen; clear hlen
      go_wp2_with (at_builtin; go_must (refine wpList_appB (enc := eInt) rowInt lenInt oneInt (B := w.heap.size + 3) wr HB.out hown 0 rfl H8.out HM.out rfl _ _ rfl rfl rfl ?_); intro v1 w1 own1 hg1 hv1; rw [Hlen.out] at hv1; obtain ⟨A1, c1, rfl⟩ := hv1; have hbx1 := hbx.grown hg1 (fun e => (hown.apart hbx (by decide)) e.symm); have q3 := hbx1.c1; have q4 := hbx1.frozen 0)
      have hbx2 := hbx1.set1 (.slice A1 (rows.length + j + 1) c1)
      have hbr2 := (hbr.grown hg1 (fun e => (hown.apart hbr (by decide)) e.symm)).far (p := ⟨bo, 0, none⟩) (by simp; omega) (.slice A1 (rows.length + j + 1) c1)
      have hbc2 := (hbc.grown hg1 (fun e => (hown.apart hbc (by decide)) e.symm)).far (p := ⟨bo, 0, none⟩) (by simp; omega) (.slice A1 (rows.length + j + 1) c1)
      have own2 := own1.far (a := ⟨bo, 0, none⟩) (own1.apart hbx1 (by decide)) (.slice A1 (rows.length + j + 1) c1)
      rw [List.append_assoc, show List.replicate j (0 : Int) ++ [0] = List.replicate (j + 1) 0 by rw [List.replicate_succ']] at own2
      have B2 := (Below.app hbel hown (by omega) hg1).st ⟨bo, 0, none⟩ (.slice A1 (rows.length + j + 1) c1) (by simp; omega)
      have e1 := hbx.len_
      have e2 := hbx2.len_
      go_roundw
      case rel => exact ⟨j + 1, A1, c1, by omega, hbx2, own2, hbr2, hbc2, B2⟩
      case measure => rw [e1, e2]; omega
    · obtain rfl : j = 8 - rows.length := by omega
      have hl8 : rows.length + (8 - rows.length) = 8 := by omega
      rw [hl8] at hown hbx q1
      change OwnL _ _ _ _ _ _ (pad8 rows) at hown
      have hpl : (pad8 rows).length = 8 := pad8_len h8
      obtain ⟨r, hre⟩ : ∃ r : Nat, r = (rows.getD y 0).toNat := ⟨_, rfl⟩
      have hgr := getD_in Hrows.out y
      have hr256 : r < 256 := by omega
      have hpy : (pad8 rows)[y]'(by omega) = (r : Int) := by
        have := pad8_getD rows y
        rw [List.getD_eq_getElem?_getD, List.getElem?_eq_getElem (by omega), Option.getD_some] at this
        rw [this]; omega
      obtain ⟨g, rfl, hBg, hgl⟩ := hown.split (k := y) (by omega)
      have s1 := hown.slot lenInt Nat.one_pos (k := y) (by omega) 0 (.int .i64 r) (by rw [hpy]; rfl)
      have s2 := hown.free y
      rw [Nat.mul_one, Nat.add_zero] at s1
      have z0 := hbc.cell 0
      have z1 := hbc.cell 1
      have hgo : g ≠ bo := fun e => (hown.apart hbx (by decide)) (by rw [e]; rfl)
      have c1 := hbr.c1
      have c2 := hbr.frozen 0
      have hzr := hbr.lt
      have hyI : (y : Int) < 8 := by omega
      rw [← hre]
      have hx2 : (2 : Int) ^ x = ((2 ^ x : Nat) : Int) := by simp
      have hp2 : 2 ^ x < 256 := Nat.lt_of_lt_of_le (Nat.pow_lt_pow_right (by decide) hx8) (by decide)
      have e1 : bits .or .i64 (r : Int) (IntKind.i64.wrap (2 ^ x)) = ((r ||| 2 ^ x : Nat) : Int) := by
        rw [hx2]; generalize 2 ^ x = q at hp2 ⊢
        rw [IntWalk.i64_in _ (by omega)]; exact i64_or_nat r q (by omega) (by omega)
      have hle : 2 ^ x ≤ r ||| 2 ^ x := Nat.right_le_or
      have hor : r ||| 2 ^ x < 256 := (specRow_lt r hr256 x hx8).1
      have e2 : IntKind.i64.wrap (((r ||| 2 ^ x : Nat) : Int) - IntKind.i64.wrap (2 ^ x)) = (((r ||| 2 ^ x) - 2 ^ x : Nat) : Int) := by
        rw [hx2]; generalize r ||| 2 ^ x = m at hle hor ⊢; generalize 2 ^ x = q at hp2 hle ⊢
        rw [IntWalk.i64_in (q : Int) (by omega), IntWalk.i64_in _ (by omega)]; omega
      have E2 := Lib.hid e2; clear e2
      have Hre := Lib.hid hre; have Hpl := Lib.hid hpl; clear hre hpy hpl hx2 hl8 hgr
      simp only [List.getElem?_toArray, List.getElem?_cons_zero, List.getElem?_cons_succ] at z0 z1
      have hyg : y < (pad8 rows).length := by rw [Hpl.out]; exact hy8
      have hbx4 := hbx.far (p := ⟨g, y, none⟩) (fun e => hgo e.symm) (.int .i64 ((r ||| 2 ^ x : Nat) : Int))
      have hbr4 := hbr.far (p := ⟨g, y, none⟩) (by simp; omega) (.int .i64 ((r ||| 2 ^ x : Nat) : Int))
      have hbc4 := hbc.far (p := ⟨g, y, none⟩) (by simp; omega) (.int .i64 ((r ||| 2 ^ x : Nat) : Int))
      have own4 := hown.store1 lenInt (y := ((r ||| 2 ^ x : Nat) : Int)) hyg rfl
      have B4 := hbel.st ⟨g, y, none⟩ (.int .i64 ((r ||| 2 ^ x : Nat) : Int)) (by simp; omega)
      have HT : Hid (specRow (rows.getD y 0).toNat x true = r ||| 2 ^ x) := Lib.hid (by rw [← Hre.out]; rfl)
      have HF : Hid (specRow (rows.getD y 0).toNat x false = (r ||| 2 ^ x) - 2 ^ x) := Lib.hid (by rw [← Hre.out]; rfl)
      cases on
      · go_wp2_with fail
        go_still_tail 15, (by kernel_rfl)
        change wpList _ _ _ _ _ wr.drew
        clear e1
        go_wp2_with fail
        obtain ⟨W4, hW4⟩ : ∃ W4 : World, W4 = (wr.setCell ⟨g, y, none⟩ (.int .i64 ((r ||| 2 ^ x : Nat) : Int))).drew := ⟨_, rfl⟩
        rw [← hW4]
        have hbx5 : Blk W4 bo 31 #[.slice (some ⟨g, 0, none⟩) 8 c'] := by rw [hW4]; exact hbx4
        have hbr5 : Blk W4 (w.heap.size + 1 + 1) 31 #[.slice none 0 0] := by rw [hW4]; exact hbr4
        have hbc5 : Blk W4 (w.heap.size + 1) 70 #[.int .i64 x, .int .i64 y] := by rw [hW4]; exact hbc4
        have own5 : OwnL 3 1 eInt (w.heap.size + 3) W4 (.slice (some ⟨g, 0, none⟩) 8 c') ((pad8 rows).set y ((r ||| 2 ^ x : Nat) : Int)) := by
          rw [hW4]; exact own4.drewN 1
        have B5 : Below w.heap.size w W4 := by rw [hW4]; exact B4.drew
        clear hbx hbr hbc hown hbel hbx4 hbr4 hbc4 own4 B4 s1 s2 q1 q2 hz z0 z1 c1 c2 hzr hW4
        have q1 := hbx5.c1
        have q2 := hbx5.frozen 0
        have hz := hbx5.lt
        have c1 := hbr5.c1
        have c2 := hbr5.frozen 0
        have hzr := hbr5.lt
        have z0 := hbc5.cell 0
        have z1 := hbc5.cell 1
        simp only [List.getElem?_toArray, List.getElem?_cons_zero, List.getElem?_cons_succ] at z0 z1
        have hyg2 : y < ((pad8 rows).set y ((r ||| 2 ^ x : Nat) : Int)).length := by rw [List.length_set]; exact hyg
        have s1 := own5.slot lenInt Nat.one_pos (k := y) hyg2 0 (.int .i64 ((r ||| 2 ^ x : Nat) : Int)) (by rw [List.getElem_set_self]; rfl)
        have s2 := own5.free y
        rw [Nat.mul_one, Nat.add_zero] at s1
        have own6 := own5.store1 lenInt (y := (((r ||| 2 ^ x) - 2 ^ x : Nat) : Int)) hyg2 rfl
        rw [List.set_set] at own6
        have hbr6 := hbr5.far (p := ⟨g, y, none⟩) (by simp; omega) (.int .i64 (((r ||| 2 ^ x) - 2 ^ x : Nat) : Int))
        have hbx6 := hbx5.far (p := ⟨g, y, none⟩) (fun e => hgo e.symm) (.int .i64 (((r ||| 2 ^ x) - 2 ^ x : Nat) : Int))
        have B6 := B5.st ⟨g, y, none⟩ (.int .i64 (((r ||| 2 ^ x) - 2 ^ x : Nat) : Int)) (by simp; omega)
        have q5 := (hbr6.set1 (.slice (some ⟨g, 0, none⟩) 8 c')).c1
        have q6 := hbx6.c1
        have e2 := E2.out
        have hps : ((pad8 rows).set y (specRow (rows.getD y 0).toNat x false : Nat)).length = 8 := by rw [List.length_set]; exact Hpl.out
        have Hps := Lib.hid hps; clear hps hyg2
        go_still_tail 15, (by kernel_rfl)
        change wpList _ _ _ _ _ W4.drew
        go_wp2
        refine bodyPost_ret (v := .tuple #[.agg #[.slice (some ⟨g, 0, none⟩) 8 c'], .bool true]) (by simp [results, Try.results115, go_sem, q5]) rfl ⟨some ⟨g, 0, none⟩, c', by rw [Hps.out], ?_, (B6.drew.st ⟨w.heap.size + 1 + 1, 0, none⟩ _ (by simp; omega))⟩
        rw [Hps.out, HF.out]
        exact ((own6.low (p := ⟨w.heap.size + 1 + 1, 0, none⟩) (by simp) _).mono (by omega)).drewN 1
      · have q5 := (hbr4.set1 (.slice (some ⟨g, 0, none⟩) 8 c')).c1
        have q6 := hbx4.c1
        have hps : ((pad8 rows).set y (specRow (rows.getD y 0).toNat x true : Nat)).length = 8 := by rw [List.length_set]; exact Hpl.out
        have Hps := Lib.hid hps; clear hps
        go_wp2_with fail
        go_still_tail 15, (by kernel_rfl)
        change wpList _ _ _ _ _ wr.drew
        go_wp2
        refine bodyPost_ret (v := .tuple #[.agg #[.slice (some ⟨g, 0, none⟩) 8 c'], .bool true]) (by simp [results, Try.results115, go_sem, q5]) rfl ⟨some ⟨g, 0, none⟩, c', by rw [Hps.out], ?_, (B4.drew.st ⟨w.heap.size + 1 + 1, 0, none⟩ _ (by simp; omega))⟩
        rw [Hps.out, HT.out]
        exact ((own4.low (p := ⟨w.heap.size + 1 + 1, 0, none⟩) (by simp) _).mono (by omega)).drewN 1
end Go.Proofs.Ytkbndchgmokabaa
