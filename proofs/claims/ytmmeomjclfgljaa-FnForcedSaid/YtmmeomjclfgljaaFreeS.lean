/- The reference's counts with a domino, its forced dominoes: the walks. Conditions: sizes. -/
import Derived.Test.YtmmeomjclfgljaaK11
import Derived.Test.YtmmeomjclfgljaaK9
import Derived.Test.YtmmeomjclfgljaaK5
import Derived.Test.YtmmeomjclfgljaaK3
import Derived.Test.YtmmeomjclfgljaaSteps
namespace Go.Proofs.Ytmmeomjclfgljaa
open Go.ChangeShapes Go.WideShapes Go.ChangeAt Go.RowKit
set_option linter.unusedVariables false
set_option linter.unusedSimpArgs false

theorem cntTilS_any (v : Value) (rows : List Int) (w : World) (h : Rd 1 RInt w v rows) : Calls Try.prog 38 #[.agg #[v]] w (Ret (.int .i64 (cntRows rows)) w) := by
  obtain ⟨A, c, rfl, hc, hm⟩ := h.form
  have hA := (Below.refl w.heap.size w).al (.cells #[.slice A rows.length c] 26)
  have bX := Blk.new_ w 26 #[.slice A rows.length c]
  rcases hk : regionOk rows with _ | _
  · have e : cntRows rows = 0 := by unfold cntRows; rw [hk]; rfl
    rw [e]
    have Hk := Lib.hid hk; clear hk e
    go_enter Try.func38, Try.ntmps38
    go_wp2_with fail
    refine (regionOkS_any _ rows _ (h.below RE.stays hA)).mono ?_
    rintro e w1 ⟨rfl, hb1⟩
    rw [Hk.out]
    go_wp2
    go_ret
    exact ⟨rfl, hA.tr hb1⟩
  · have e : cntRows rows = cntSet (setOf rows) := by unfold cntRows; rw [if_pos hk]
    rw [e]
    have Hok : Hid (RowsOk rows) := Lib.hid (regionOk_iff.1 hk)
    have Hk := Lib.hid hk; clear hk e
    obtain ⟨R, hR⟩ : ∃ R, R = cntSet (setOf rows) := ⟨_, rfl⟩
    have C : ∀ (u : Value) (w : World), Rd 1 RInt w u rows → Calls Try.prog 91 #[.agg #[u]] w (Ret (.int .i64 R) w) := fun u w k1 => by rw [hR]; exact countS_yes u rows w k1 Hok
    rw [← hR]
    clear hR
    go_enter Try.func38, Try.ntmps38
    go_wp2_with fail
    refine (regionOkS_any _ rows _ (h.below RE.stays hA)).mono ?_
    rintro e w1 ⟨rfl, hb1⟩
    rw [Hk.out]
    have z1 := (bX.bl hb1).c1
    go_wp2_with fail
    refine (C _ _ ((h.below RE.stays hA).below RE.stays hb1)).mono ?_
    rintro e w2 ⟨rfl, hb2⟩
    go_wp2
    go_ret
    exact ⟨rfl, (hA.tr hb1).tr hb2⟩
theorem rowsEq_lt {s : Nat} {rows : List Int} (h : s = setOf rows) (hs : setOf rows < U64) : s < U64 := h ▸ hs
theorem withOut {rows : List Int} {c : Cl} (Hok : RowsOk rows) (hc : cellOk c = true) : withCell rows c false = (rowsOf (sWithout (setOf rows) (cellIx c).toNat) 8, true) := by
  unfold withCell
  rw [regionOk_iff.2 Hok, hc]; rfl
set_option maxHeartbeats 4000000 in
set_option maxRecDepth 100000 in
theorem cntWithS_any (v : Value) (rows : List Int) (x y : Int) (d : Bool) (w : World) (h : Rd 1 RInt w v rows) : Calls Try.prog 37 #[.agg #[v], .agg #[.int .i64 x, .int .i64 y, .bool d]] w (Ret (.int .i64 (cntWith rows (x, y, d))) w) := by
  obtain ⟨A, c, rfl, hc, hm⟩ := h.form
  have B0 := ((Below.refl w.heap.size w).al (.cells #[.slice A rows.length c] 26)).al (.cells #[.int .i64 x, .int .i64 y, .bool d] 66)
  have bX := (Blk.new_ w 26 #[.slice A rows.length c]).alloc (.cells #[.int .i64 x, .int .i64 y, .bool d] 66)
  have bD := Blk.new2 (w.alloc (.cells #[.slice A rows.length c] 26)) 66 #[.int .i64 x, .int .i64 y, .bool d] (w.heap.size + 1) (by simp)
  rcases hd : domOk (x, y, d) with _ | _
  · have e : cntWith rows (x, y, d) = 0 := by unfold cntWith fitsD; rw [hd]; simp
    rw [e]
    have Hd := Lib.hid hd; clear hd e
    go_enter Try.func37, Try.ntmps37
    go_wp2_with fail
    refine (domOkS_any x y d _).mono ?_
    rintro e w1 ⟨rfl, hb1⟩
    rw [Hd.out]
    go_wp2
    go_ret
    exact ⟨rfl, B0.tr hb1⟩
  · obtain ⟨hcI, hcJ⟩ := domOk_cells hd
    obtain ⟨sx, sy, hsec⟩ : ∃ sx sy, sec (x, y, d) = (sx, sy) := ⟨_, _, rfl⟩
    rw [hsec] at hcJ
    simp only at hcI
    have HcI := Lib.hid hcI; have HcJ := Lib.hid hcJ; have Hsec := Lib.hid hsec
    have Hd := Lib.hid hd
    clear hcI hcJ hsec hd
    rcases hk : regionOk rows with _ | _
    · have e : cntWith rows (x, y, d) = 0 := by unfold cntWith; rw [hk]; rfl
      rw [e]
      have Hk := Lib.hid hk; clear hk e
      go_enter Try.func37, Try.ntmps37
      go_wp2_with fail
      refine (domOkS_any x y d _).mono ?_
      rintro e w1 ⟨rfl, hb1⟩
      rw [Hd.out]
      have B1 := B0.tr hb1
      have bX1 := bX.bl hb1
      have bD1 := bD.bl hb1
      obtain ⟨gX, hgX⟩ : ∃ g, g = w.heap.size := ⟨_, rfl⟩
      obtain ⟨gD, hgD⟩ : ∃ g, g = w.heap.size + 1 := ⟨_, rfl⟩
      rw [← hgD] at bD1 ⊢
      rw [← hgX] at bX1 ⊢
      clear hgX hgD
      have d_0 := bD1.cell 0
      have d_1 := bD1.cell 1
      have d_2 := bD1.cell 2
      simp only [List.getElem?_toArray, List.getElem?_cons_zero, List.getElem?_cons_succ] at d_0 d_1 d_2
      go_wp2_with fail
      refine (underS_any x y d _ Hd.out).mono ?_
      rintro e w2 ⟨rfl, hb2⟩
      rw [Hsec.out]
      go_upto_region 4 with (fail)
      have B3 := ((B1.tr hb2).al (.cells #[.int .i64 x, .int .i64 y] 63)).al (.cells #[.int .i64 sx, .int .i64 sy] 63)
      have bX3 := ((bX1.bl hb2).alloc (.cells #[.int .i64 x, .int .i64 y] 63)).alloc (.cells #[.int .i64 sx, .int .i64 sy] 63)
      have bA3 := (Blk.new_ w2 63 #[.int .i64 x, .int .i64 y]).alloc (.cells #[.int .i64 sx, .int .i64 sy] 63)
      have bB3 := Blk.new2 (w2.alloc (.cells #[.int .i64 x, .int .i64 y] 63)) 63 #[.int .i64 sx, .int .i64 sy] (w2.heap.size + 1) (by simp)
      obtain ⟨W3, hW3⟩ : ∃ W3, W3 = (w2.alloc (.cells #[.int .i64 x, .int .i64 y] 63)).alloc (.cells #[.int .i64 sx, .int .i64 sy] 63) := ⟨_, rfl⟩
      obtain ⟨gB, hgB⟩ : ∃ g, g = w2.heap.size + 1 := ⟨_, rfl⟩
      obtain ⟨gA, hgA⟩ : ∃ g, g = w2.heap.size := ⟨_, rfl⟩
      rw [← hW3] at B3 bX3 bA3 bB3 ⊢
      rw [← hgB] at bB3 ⊢
      rw [← hgA] at bA3 ⊢
      clear hW3 hgB hgA d_0 d_1 d_2
      have z_0 := bX3.c1
      have a_0 := bA3.cell 0
      have a_1 := bA3.cell 1
      simp only [List.getElem?_toArray, List.getElem?_cons_zero, List.getElem?_cons_succ] at a_0 a_1
      have b_0 := bB3.cell 0
      have b_1 := bB3.cell 1
      simp only [List.getElem?_toArray, List.getElem?_cons_zero, List.getElem?_cons_succ] at b_0 b_1
      go_wp2_with fail
      refine (hasCellS_no _ rows x y _ (h.below RE.stays B3) HcI.out Hk.out).mono ?_
      rintro e w4 ⟨rfl, hb4⟩
      go_wp2
      go_ret
      exact ⟨rfl, B3.tr hb4⟩
    · have Hok : Hid (RowsOk rows) := Lib.hid (regionOk_iff.1 hk)
      have hs := setOf_lt Hok.out
      obtain ⟨s, hse⟩ : ∃ s, s = setOf rows := ⟨_, rfl⟩
      have Hse : Hid (s = setOf rows) := Lib.hid hse
      obtain ⟨hI64, hJ64⟩ := domIJ_lt Hd.out
      have hIe : domI (x, y, d) = (cellIx (x, y)).toNat := rfl
      have hJe : domJ (x, y, d) = (cellIx (sx, sy)).toNat := by unfold domJ; rw [Hsec.out]
      have hw2 := without_two (d := (x, y, d)) (rowsEq_lt hse hs) Hd.out
      have hfit : fitsD s (x, y, d) = (s.testBit (domI (x, y, d)) && s.testBit (domJ (x, y, d))) := by
        unfold fitsD; rw [Hd.out, sub_iff (rowsEq_lt hse hs) Hd.out, Bool.true_and]
      obtain ⟨I, hI⟩ : ∃ I, I = domI (x, y, d) := ⟨_, rfl⟩
      obtain ⟨J, hJ⟩ : ∃ J, J = domJ (x, y, d) := ⟨_, rfl⟩
      rw [← hI] at hIe hfit hw2 hI64
      rw [← hJ] at hJe hfit hw2 hJ64
      have HIe := Lib.hid hIe; have HJe := Lib.hid hJe
      have hcw : cntWith rows (x, y, d) = if (s.testBit I && s.testBit J) = true then cntSet (sDiff s (domSet (x, y, d))) else 0 := by
        unfold cntWith; rw [hk, ← hse, hfit, Bool.true_and]
      rw [hcw]
      have Hw2 := Lib.hid hw2
      clear hw2 hfit hcw hk hIe hJe hI hJ
      rcases e1 : s.testBit I with _ | _
      · rw [Bool.false_and, if_neg (by simp)]
        have He1 := Lib.hid e1; clear e1
        go_enter Try.func37, Try.ntmps37
        go_wp2_with fail
        refine (domOkS_any x y d _).mono ?_
        rintro e w1 ⟨rfl, hb1⟩
        rw [Hd.out]
        have B1 := B0.tr hb1
        have bX1 := bX.bl hb1
        have bD1 := bD.bl hb1
        obtain ⟨gX, hgX⟩ : ∃ g, g = w.heap.size := ⟨_, rfl⟩
        obtain ⟨gD, hgD⟩ : ∃ g, g = w.heap.size + 1 := ⟨_, rfl⟩
        rw [← hgD] at bD1 ⊢
        rw [← hgX] at bX1 ⊢
        clear hgX hgD
        have d_0 := bD1.cell 0
        have d_1 := bD1.cell 1
        have d_2 := bD1.cell 2
        simp only [List.getElem?_toArray, List.getElem?_cons_zero, List.getElem?_cons_succ] at d_0 d_1 d_2
        go_wp2_with fail
        refine (underS_any x y d _ Hd.out).mono ?_
        rintro e w2 ⟨rfl, hb2⟩
        rw [Hsec.out]
        go_upto_region 4 with (fail)
        have B3 := ((B1.tr hb2).al (.cells #[.int .i64 x, .int .i64 y] 63)).al (.cells #[.int .i64 sx, .int .i64 sy] 63)
        have bX3 := ((bX1.bl hb2).alloc (.cells #[.int .i64 x, .int .i64 y] 63)).alloc (.cells #[.int .i64 sx, .int .i64 sy] 63)
        have bA3 := (Blk.new_ w2 63 #[.int .i64 x, .int .i64 y]).alloc (.cells #[.int .i64 sx, .int .i64 sy] 63)
        have bB3 := Blk.new2 (w2.alloc (.cells #[.int .i64 x, .int .i64 y] 63)) 63 #[.int .i64 sx, .int .i64 sy] (w2.heap.size + 1) (by simp)
        obtain ⟨W3, hW3⟩ : ∃ W3, W3 = (w2.alloc (.cells #[.int .i64 x, .int .i64 y] 63)).alloc (.cells #[.int .i64 sx, .int .i64 sy] 63) := ⟨_, rfl⟩
        obtain ⟨gB, hgB⟩ : ∃ g, g = w2.heap.size + 1 := ⟨_, rfl⟩
        obtain ⟨gA, hgA⟩ : ∃ g, g = w2.heap.size := ⟨_, rfl⟩
        rw [← hW3] at B3 bX3 bA3 bB3 ⊢
        rw [← hgB] at bB3 ⊢
        rw [← hgA] at bA3 ⊢
        clear hW3 hgB hgA d_0 d_1 d_2
        have z_0 := bX3.c1
        have a_0 := bA3.cell 0
        have a_1 := bA3.cell 1
        simp only [List.getElem?_toArray, List.getElem?_cons_zero, List.getElem?_cons_succ] at a_0 a_1
        have b_0 := bB3.cell 0
        have b_1 := bB3.cell 1
        simp only [List.getElem?_toArray, List.getElem?_cons_zero, List.getElem?_cons_succ] at b_0 b_1
        go_wp2_with fail
        refine (hasCellS_yes _ rows x y s I _ (h.below RE.stays B3) HcI.out Hok Hse HIe.out).mono ?_
        rintro e w4 ⟨rfl, hb4⟩
        rw [He1.out]
        go_wp2
        go_ret
        exact ⟨rfl, B3.tr hb4⟩
      · rcases e2 : s.testBit J with _ | _
        · rw [Bool.and_false, if_neg (by simp)]
          have He1 := Lib.hid e1; have He2 := Lib.hid e2; clear e1 e2
          go_enter Try.func37, Try.ntmps37
          go_wp2_with fail
          refine (domOkS_any x y d _).mono ?_
          rintro e w1 ⟨rfl, hb1⟩
          rw [Hd.out]
          have B1 := B0.tr hb1
          have bX1 := bX.bl hb1
          have bD1 := bD.bl hb1
          obtain ⟨gX, hgX⟩ : ∃ g, g = w.heap.size := ⟨_, rfl⟩
          obtain ⟨gD, hgD⟩ : ∃ g, g = w.heap.size + 1 := ⟨_, rfl⟩
          rw [← hgD] at bD1 ⊢
          rw [← hgX] at bX1 ⊢
          clear hgX hgD
          have d_0 := bD1.cell 0
          have d_1 := bD1.cell 1
          have d_2 := bD1.cell 2
          simp only [List.getElem?_toArray, List.getElem?_cons_zero, List.getElem?_cons_succ] at d_0 d_1 d_2
          go_wp2_with fail
          refine (underS_any x y d _ Hd.out).mono ?_
          rintro e w2 ⟨rfl, hb2⟩
          rw [Hsec.out]
          go_upto_region 4 with (fail)
          have B3 := ((B1.tr hb2).al (.cells #[.int .i64 x, .int .i64 y] 63)).al (.cells #[.int .i64 sx, .int .i64 sy] 63)
          have bX3 := ((bX1.bl hb2).alloc (.cells #[.int .i64 x, .int .i64 y] 63)).alloc (.cells #[.int .i64 sx, .int .i64 sy] 63)
          have bA3 := (Blk.new_ w2 63 #[.int .i64 x, .int .i64 y]).alloc (.cells #[.int .i64 sx, .int .i64 sy] 63)
          have bB3 := Blk.new2 (w2.alloc (.cells #[.int .i64 x, .int .i64 y] 63)) 63 #[.int .i64 sx, .int .i64 sy] (w2.heap.size + 1) (by simp)
          obtain ⟨W3, hW3⟩ : ∃ W3, W3 = (w2.alloc (.cells #[.int .i64 x, .int .i64 y] 63)).alloc (.cells #[.int .i64 sx, .int .i64 sy] 63) := ⟨_, rfl⟩
          obtain ⟨gB, hgB⟩ : ∃ g, g = w2.heap.size + 1 := ⟨_, rfl⟩
          obtain ⟨gA, hgA⟩ : ∃ g, g = w2.heap.size := ⟨_, rfl⟩
          rw [← hW3] at B3 bX3 bA3 bB3 ⊢
          rw [← hgB] at bB3 ⊢
          rw [← hgA] at bA3 ⊢
          clear hW3 hgB hgA d_0 d_1 d_2
          have z_0 := bX3.c1
          have a_0 := bA3.cell 0
          have a_1 := bA3.cell 1
          simp only [List.getElem?_toArray, List.getElem?_cons_zero, List.getElem?_cons_succ] at a_0 a_1
          have b_0 := bB3.cell 0
          have b_1 := bB3.cell 1
          simp only [List.getElem?_toArray, List.getElem?_cons_zero, List.getElem?_cons_succ] at b_0 b_1
          go_wp2_with fail
          refine (hasCellS_yes _ rows x y s I _ (h.below RE.stays B3) HcI.out Hok Hse HIe.out).mono ?_
          rintro e w4 ⟨rfl, hb4⟩
          rw [He1.out]
          have B4 := B3.tr hb4
          have bX4 := bX3.bl hb4
          have bA4 := bA3.bl hb4
          have bB4 := bB3.bl hb4
          clear z_0 a_0 a_1 b_0 b_1
          have z_0 := bX4.c1
          have a_0 := bA4.cell 0
          have a_1 := bA4.cell 1
          simp only [List.getElem?_toArray, List.getElem?_cons_zero, List.getElem?_cons_succ] at a_0 a_1
          have b_0 := bB4.cell 0
          have b_1 := bB4.cell 1
          simp only [List.getElem?_toArray, List.getElem?_cons_zero, List.getElem?_cons_succ] at b_0 b_1
          go_wp2_with fail
          refine (hasCellS_yes _ rows sx sy s J _ (h.below RE.stays B4) HcJ.out Hok Hse HJe.out).mono ?_
          rintro e w5 ⟨rfl, hb5⟩
          rw [He2.out]
          go_wp2
          go_ret
          exact ⟨rfl, B4.tr hb5⟩
        · rw [Bool.true_and, if_pos rfl]
          have He1 := Lib.hid e1; have He2 := Lib.hid e2; clear e1 e2
          obtain ⟨R, hR⟩ : ∃ R, R = cntSet (sDiff s (domSet (x, y, d))) := ⟨_, rfl⟩
          obtain ⟨N1, hN1⟩ : ∃ N, N = rowsOf (sWithout s I) 8 := ⟨_, rfl⟩
          obtain ⟨N2, hN2⟩ : ∃ N, N = rowsOf (sWithout (sWithout s I) J) 8 := ⟨_, rfl⟩
          have hs' : s < U64 := rowsEq_lt hse hs
          have hw1 : withCell rows (x, y) false = (N1, true) := by rw [withOut Hok.out HcI.out, hN1, ← hse, ← HIe.out]
          have hN1ok : RowsOk N1 := by rw [hN1]; exact rowsOf_ok _ 8 (Nat.le_refl _)
          have hsN1 : setOf N1 = sWithout s I := by rw [hN1]; exact setOf_rowsOf (sDiff_lt hs')
          have hw2 : withCell N1 (sx, sy) false = (N2, true) := by rw [withOut hN1ok HcJ.out, hN2, hsN1, ← HJe.out]
          have hN2ok : RowsOk N2 := by rw [hN2]; exact rowsOf_ok _ 8 (Nat.le_refl _)
          have hsN2 : setOf N2 = sDiff s (domSet (x, y, d)) := by rw [hN2]; exact (setOf_rowsOf (show sWithout (sWithout s I) J < U64 from sDiff_lt (sDiff_lt hs'))).trans Hw2.out
          have C1 : ∀ (u : Value) (w : World), Rd 1 RInt w u rows → Calls Try.prog 90 #[.agg #[u], .agg #[.int .i64 x, .int .i64 y], .bool false] w (RetRegB N1 true w) := fun u w k1 => by
            have := withCellS_any u rows x y false w k1 (by have := Hok.out.1; unfold Small; omega)
            rw [hw1] at this; exact this
          have C2 : ∀ (u : Value) (w : World), Rd 1 RInt w u N1 → Calls Try.prog 90 #[.agg #[u], .agg #[.int .i64 sx, .int .i64 sy], .bool false] w (RetRegB N2 true w) := fun u w k1 => by
            have := withCellS_any u N1 sx sy false w k1 (by have := hN1ok.1; unfold Small; omega)
            rw [hw2] at this; exact this
          have C3 : ∀ (u : Value) (w : World), Rd 1 RInt w u N2 → Calls Try.prog 91 #[.agg #[u]] w (Ret (.int .i64 R) w) := fun u w k1 => by
            have := countS_yes u N2 w k1 (Lib.hid hN2ok)
            rw [hsN2, ← hR] at this; exact this
          rw [← hR]
          clear hR hN1 hN2 hw1 hw2 hsN1 hsN2 hN1ok hN2ok hse
          go_enter Try.func37, Try.ntmps37
          go_wp2_with fail
          refine (domOkS_any x y d _).mono ?_
          rintro e w1 ⟨rfl, hb1⟩
          rw [Hd.out]
          have B1 := B0.tr hb1
          have bX1 := bX.bl hb1
          have bD1 := bD.bl hb1
          obtain ⟨gX, hgX⟩ : ∃ g, g = w.heap.size := ⟨_, rfl⟩
          obtain ⟨gD, hgD⟩ : ∃ g, g = w.heap.size + 1 := ⟨_, rfl⟩
          rw [← hgD] at bD1 ⊢
          rw [← hgX] at bX1 ⊢
          clear hgX hgD
          have d_0 := bD1.cell 0
          have d_1 := bD1.cell 1
          have d_2 := bD1.cell 2
          simp only [List.getElem?_toArray, List.getElem?_cons_zero, List.getElem?_cons_succ] at d_0 d_1 d_2
          go_wp2_with fail
          refine (underS_any x y d _ Hd.out).mono ?_
          rintro e w2 ⟨rfl, hb2⟩
          rw [Hsec.out]
          go_upto_region 4 with (fail)
          have B3 := ((B1.tr hb2).al (.cells #[.int .i64 x, .int .i64 y] 63)).al (.cells #[.int .i64 sx, .int .i64 sy] 63)
          have bX3 := ((bX1.bl hb2).alloc (.cells #[.int .i64 x, .int .i64 y] 63)).alloc (.cells #[.int .i64 sx, .int .i64 sy] 63)
          have bA3 := (Blk.new_ w2 63 #[.int .i64 x, .int .i64 y]).alloc (.cells #[.int .i64 sx, .int .i64 sy] 63)
          have bB3 := Blk.new2 (w2.alloc (.cells #[.int .i64 x, .int .i64 y] 63)) 63 #[.int .i64 sx, .int .i64 sy] (w2.heap.size + 1) (by simp)
          obtain ⟨W3, hW3⟩ : ∃ W3, W3 = (w2.alloc (.cells #[.int .i64 x, .int .i64 y] 63)).alloc (.cells #[.int .i64 sx, .int .i64 sy] 63) := ⟨_, rfl⟩
          obtain ⟨gB, hgB⟩ : ∃ g, g = w2.heap.size + 1 := ⟨_, rfl⟩
          obtain ⟨gA, hgA⟩ : ∃ g, g = w2.heap.size := ⟨_, rfl⟩
          rw [← hW3] at B3 bX3 bA3 bB3 ⊢
          rw [← hgB] at bB3 ⊢
          rw [← hgA] at bA3 ⊢
          clear hW3 hgB hgA d_0 d_1 d_2
          have z_0 := bX3.c1
          have a_0 := bA3.cell 0
          have a_1 := bA3.cell 1
          simp only [List.getElem?_toArray, List.getElem?_cons_zero, List.getElem?_cons_succ] at a_0 a_1
          have b_0 := bB3.cell 0
          have b_1 := bB3.cell 1
          simp only [List.getElem?_toArray, List.getElem?_cons_zero, List.getElem?_cons_succ] at b_0 b_1
          go_wp2_with fail
          refine (hasCellS_yes _ rows x y s I _ (h.below RE.stays B3) HcI.out Hok Hse HIe.out).mono ?_
          rintro e w4 ⟨rfl, hb4⟩
          rw [He1.out]
          have B4 := B3.tr hb4
          have bX4 := bX3.bl hb4
          have bA4 := bA3.bl hb4
          have bB4 := bB3.bl hb4
          clear z_0 a_0 a_1 b_0 b_1
          have z_0 := bX4.c1
          have a_0 := bA4.cell 0
          have a_1 := bA4.cell 1
          simp only [List.getElem?_toArray, List.getElem?_cons_zero, List.getElem?_cons_succ] at a_0 a_1
          have b_0 := bB4.cell 0
          have b_1 := bB4.cell 1
          simp only [List.getElem?_toArray, List.getElem?_cons_zero, List.getElem?_cons_succ] at b_0 b_1
          go_wp2_with fail
          refine (hasCellS_yes _ rows sx sy s J _ (h.below RE.stays B4) HcJ.out Hok Hse HJe.out).mono ?_
          rintro e w5 ⟨rfl, hb5⟩
          rw [He2.out]
          have B5 := B4.tr hb5
          have bX5 := bX4.bl hb5
          have bA5 := bA4.bl hb5
          have bB5 := bB4.bl hb5
          clear z_0 a_0 a_1 b_0 b_1
          have z_0 := bX5.c1
          have a_0 := bA5.cell 0
          have a_1 := bA5.cell 1
          simp only [List.getElem?_toArray, List.getElem?_cons_zero, List.getElem?_cons_succ] at a_0 a_1
          go_wp2_with fail
          refine (C1 _ _ (h.below RE.stays B5)).mono ?_
          rintro e w6 ⟨D, d1, rfl, own6, hb6⟩
          have B6 := (B5.tr hb6).al (.cells #[.slice D N1.length d1] 26)
          have bB6 := (bB5.bl hb6).alloc (.cells #[.slice D N1.length d1] 26)
          have bY6 := Blk.new_ w6 26 #[.slice D N1.length d1]
          have own7 := (own6.alloc (.cells #[.slice D N1.length d1] 26)).rd lenInt (by decide)
          have hBl := (bB5.bl hb6).lt
          have hBn : gB ≠ w6.heap.size := by omega
          clear z_0 a_0 a_1
          have y_0 := bY6.c1
          have b_0 := bB6.cell 0
          have b_1 := bB6.cell 1
          simp only [List.getElem?_toArray, List.getElem?_cons_zero, List.getElem?_cons_succ] at b_0 b_1
          go_wp2_with fail
          refine (C2 _ _ own7).mono ?_
          rintro e w8 ⟨E, e1, rfl, own8, hb8⟩
          go_wp2_with fail
          refine (C3 _ _ ((own8.alloc (.cells #[.slice E N2.length e1] 26)).rd lenInt (by decide))).mono ?_
          rintro e w9 ⟨rfl, hb9⟩
          go_wp2
          go_ret
          exact ⟨rfl, ((B6.tr hb8).al _).tr hb9⟩
theorem cells_at {s k : Nat} (hk : k < (cellsTo s 64).length) : ∃ i, i < 64 ∧ s.testBit i = true ∧ (cellsTo s 64)[k] = (((i % 8 : Nat) : Int), ((i / 8 : Nat) : Int)) := by
  have this : (cellsTo s 64)[k] ∈ cellsTo s 64 := List.getElem_mem hk
  generalize (cellsTo s 64)[k] = c at this ⊢
  unfold cellsTo at this
  obtain ⟨i, hi, rfl⟩ := List.mem_map.1 this
  obtain ⟨h1, h2⟩ := List.mem_filter.1 hi
  exact ⟨i, List.mem_range.1 h1, h2, by unfold ixCell; rw [show ((i : Int) % 8) = ((i % 8 : Nat) : Int) by omega, show ((i : Int) / 8) = ((i / 8 : Nat) : Int) by omega]⟩
theorem allD_len (s : Nat) (hs : s < U64) : (allD s).length ≤ 128 := by
  rw [allD_is hs]
  refine Nat.le_trans (List.length_filter_le _ _) ?_
  decide +kernel
end Go.Proofs.Ytmmeomjclfgljaa
