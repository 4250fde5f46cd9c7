/- The reference's counts with a domino, its forced dominoes: the walks. Conditions: sizes. -/
import Derived.Test.YtnlljkdfapllpaaK11
import Derived.Test.YtnlljkdfapllpaaK9
import Derived.Test.YtnlljkdfapllpaaK5
import Derived.Test.YtnlljkdfapllpaaK3
import Derived.Test.YtnlljkdfapllpaaSteps
namespace Go.Proofs.Ytnlljkdfapllpaa
open Go.ChangeShapes Go.WideShapes Go.ChangeAt Go.RowKit
set_option linter.unusedVariables false
set_option linter.unusedSimpArgs false

theorem cntTilS_any (v : Value) (rows : List Int) (w : World) (h : Rd 1 RInt w v rows) : Calls Try.prog 63 #[.agg #[v]] w (Ret (.int .i64 (cntRows rows)) w) := by
  obtain ⟨A, c, rfl, hc, hm⟩ := h.form
  have hA := (Below.refl w.heap.size w).al (.cells #[.slice A rows.length c] 30)
  have bX := Blk.new_ w 30 #[.slice A rows.length c]
  rcases hk : regionOk rows with _ | _
  · have e : cntRows rows = 0 := by unfold cntRows; rw [hk]; rfl
    rw [e]
    have Hk := Lib.hid hk; clear hk e
    go_enter Try.func63, Try.ntmps63
    go_wp2_with fail
    refine (regionOkS_any _ rows _ (h.below RE.stays hA)).mono ?_
    rintro e w1 ⟨rfl, hb1⟩
    rw [Hk.out]
    go_wp2
    go_ret
    exact ⟨rfl, hA.tr hb1⟩
  · have e : cntRows rows = cntSet (setOf rows) := by unfold cntRows; rw [if_pos hk]
    rw [e]
    have Hok : Hid (RowsOk rows) := Lib.hid (regionOk_iff.1 hk)
    have Hk := Lib.hid hk; clear hk e
    obtain ⟨R, hR⟩ : ∃ R, R = cntSet (setOf rows) := ⟨_, rfl⟩
    have C : ∀ (u : Value) (w : World), Rd 1 RInt w u rows → Calls Try.prog 136 #[.agg #[u]] w (Ret (.int .i64 R) w) := fun u w k1 => by rw [hR]; exact countS_yes u rows w k1 Hok
    rw [← hR]
    clear hR
    go_enter Try.func63, Try.ntmps63
    go_wp2_with fail
    refine (regionOkS_any _ rows _ (h.below RE.stays hA)).mono ?_
    rintro e w1 ⟨rfl, hb1⟩
    rw [Hk.out]
    have z1 := (bX.bl hb1).c1
    go_wp2_with fail
    refine (C _ _ ((h.below RE.stays hA).below RE.stays hb1)).mono ?_
    rintro e w2 ⟨rfl, hb2⟩
    go_wp2
    go_ret
    exact ⟨rfl, (hA.tr hb1).tr hb2⟩
theorem rowsEq_lt {s : Nat} {rows : List Int} (h : s = setOf rows) (hs : setOf rows < U64) : s < U64 := h ▸ hs
theorem withOut {rows : List Int} {c : Cl} (Hok : RowsOk rows) (hc : cellOk c = true) : withCell rows c false = (rowsOf (sWithout (setOf rows) (cellIx c).toNat) 8, true) := by
  unfold withCell
  rw [regionOk_iff.2 Hok, hc]; rfl
set_option maxHeartbeats 4000000 in
set_option maxRecDepth 100000 in
theorem cntWithS_any (v : Value) (rows : List Int) (x y : Int) (d : Bool) (w : World) (h : Rd 1 RInt w v rows) : Calls Try.prog 62 #[.agg #[v], .agg #[.int .i64 x, .int .i64 y, .bool d]] w (Ret (.int .i64 (cntWith rows (x, y, d))) w) := by
  obtain ⟨A, c, rfl, hc, hm⟩ := h.form
  have B0 := ((Below.refl w.heap.size w).al (.cells #[.slice A rows.length c] 30)).al (.cells #[.int .i64 x, .int .i64 y, .bool d] 88)
  have bX := (Blk.new_ w 30 #[.slice A rows.length c]).alloc (.cells #[.int .i64 x, .int .i64 y, .bool d] 88)
  have bD := Blk.new2 (w.alloc (.cells #[.slice A rows.length c] 30)) 88 #[.int .i64 x, .int .i64 y, .bool d] (w.heap.size + 1) (by simp)
  rcases hd : domOk (x, y, d) with _ | _
  · have e : cntWith rows (x, y, d) = 0 := by unfold cntWith fitsD; rw [hd]; simp
    rw [e]
    have Hd := Lib.hid hd; clear hd e
    go_enter Try.func62, Try.ntmps62
    go_wp2_with fail
    refine (domOkS_any x y d _).mono ?_
    rintro e w1 ⟨rfl, hb1⟩
    rw [Hd.out]
    go_wp2
    go_ret
    exact ⟨rfl, B0.tr hb1⟩
  · obtain ⟨hcI, hcJ⟩ := domOk_cells hd
    obtain ⟨sx, sy, hsec⟩ : ∃ sx sy, sec (x, y, d) = (sx, sy) := ⟨_, _, rfl⟩
    rw [hsec] at hcJ
    simp only at hcI
    have HcI := Lib.hid hcI; have HcJ := Lib.hid hcJ; have Hsec := Lib.hid hsec
    have Hd := Lib.hid hd
    clear hcI hcJ hsec hd
    rcases hk : regionOk rows with _ | _
    · have e : cntWith rows (x, y, d) = 0 := by unfold cntWith; rw [hk]; rfl
      rw [e]
      have Hk := Lib.hid hk; clear hk e
      go_enter Try.func62, Try.ntmps62
      go_wp2_with fail
      refine (domOkS_any x y d _).mono ?_
      rintro e w1 ⟨rfl, hb1⟩
      rw [Hd.out]
      have B1 := B0.tr hb1
      have bX1 := bX.bl hb1
      have bD1 := bD.bl hb1
      obtain ⟨gX, hgX⟩ : ∃ g, g = w.heap.size := ⟨_, rfl⟩
      obtain ⟨gD, hgD⟩ : ∃ g, g = w.heap.size + 1 := ⟨_, rfl⟩
      rw [← hgD] at bD1 ⊢
      rw [← hgX] at bX1 ⊢
      clear hgX hgD
      have d_0 := bD1.cell 0
      have d_1 := bD1.cell 1
      have d_2 := bD1.cell 2
      simp only [List.getElem?_toArray, List.getElem?_cons_zero, List.getElem?_cons_succ] at d_0 d_1 d_2
      go_wp2_with fail
      refine (underS_any x y d _ Hd.out).mono ?_
      rintro e w2 ⟨rfl, hb2⟩
      rw [Hsec.out]
      go_upto_region 4 with (fail)
      have B3 := ((B1.tr hb2).al (.cells #[.int .i64 x, .int .i64 y] 44)).al (.cells #[.int .i64 sx, .int .i64 sy] 44)
      have bX3 := ((bX1.bl hb2).alloc (.cells #[.int .i64 x, .int .i64 y] 44)).alloc (.cells #[.int .i64 sx, .int .i64 sy] 44)
      have bA3 := (Blk.new_ w2 44 #[.int .i64 x, .int .i64 y]).alloc (.cells #[.int .i64 sx, .int .i64 sy] 44)
      have bB3 := Blk.new2 (w2.alloc (.cells #[.int .i64 x, .int .i64 y] 44)) 44 #[.int .i64 sx, .int .i64 sy] (w2.heap.size + 1) (by simp)
      obtain ⟨W3, hW3⟩ : ∃ W3, W3 = (w2.alloc (.cells #[.int .i64 x, .int .i64 y] 44)).alloc (.cells #[.int .i64 sx, .int .i64 sy] 44) := ⟨_, rfl⟩
      obtain ⟨gB, hgB⟩ : ∃ g, g = w2.heap.size + 1 := ⟨_, rfl⟩
      obtain ⟨gA, hgA⟩ : ∃ g, g = w2.heap.size := ⟨_, rfl⟩
      rw [← hW3] at B3 bX3 bA3 bB3 ⊢
      rw [← hgB] at bB3 ⊢
      rw [← hgA] at bA3 ⊢
      clear hW3 hgB hgA d_0 d_1 d_2
      have z_0 := bX3.c1
      have a_0 := bA3.cell 0
      have a_1 := bA3.cell 1
      simp only [List.getElem?_toArray, List.getElem?_cons_zero, List.getElem?_cons_succ] at a_0 a_1
      have b_0 := bB3.cell 0
      have b_1 := bB3.cell 1
      simp only [List.getElem?_toArray, List.getElem?_cons_zero, List.getElem?_cons_succ] at b_0 b_1
      go_wp2_with fail
      refine (hasCellS_no _ rows x y _ (h.below RE.stays B3) HcI.out Hk.out).mono ?_
      rintro e w4 ⟨rfl, hb4⟩
      go_wp2
      go_ret
      exact ⟨rfl, B3.tr hb4⟩
    · have Hok : Hid (RowsOk rows) := Lib.hid (regionOk_iff.1 hk)
      have hs := setOf_lt Hok.out
      obtain ⟨s, hse⟩ : ∃ s, s = setOf rows := ⟨_, rfl⟩
      have Hse : Hid (s = setOf rows) := Lib.hid hse
      obtain ⟨hI64, hJ64⟩ := domIJ_lt Hd.out
      have hIe : domI (x, y, d) = (cellIx (x, y)).toNat := rfl
      have hJe : domJ (x, y, d) = (cellIx (sx, sy)).toNat := by unfold domJ; rw [Hsec.out]
      have hw2 := without_two (d := (x, y, d)) (rowsEq_lt hse hs) Hd.out
      have hfit : fitsD s (x, y, d) = (s.testBit (domI (x, y, d)) && s.testBit (domJ (x, y, d))) := by
        unfold fitsD; rw [Hd.out, sub_iff (rowsEq_lt hse hs) Hd.out, Bool.true_and]
      obtain ⟨I, hI⟩ : ∃ I, I = domI (x, y, d) := ⟨_, rfl⟩
      obtain ⟨J, hJ⟩ : ∃ J, J = domJ (x, y, d) := ⟨_, rfl⟩
      rw [← hI] at hIe hfit hw2 hI64
      rw [← hJ] at hJe hfit hw2 hJ64
      have HIe := Lib.hid hIe; have HJe := Lib.hid hJe
      have hcw : cntWith rows (x, y, d) = if (s.testBit I && s.testBit J) = true then cntSet (sDiff s (domSet (x, y, d))) else 0 := by
        unfold cntWith; rw [hk, ← hse, hfit, Bool.true_and]
      rw [hcw]
      have Hw2 := Lib.hid hw2
      clear hw2 hfit hcw hk hIe hJe hI hJ
      rcases e1 : s.testBit I with _ | _
      · rw [Bool.false_and, if_neg (by simp)]
        have He1 := Lib.hid e1; clear e1
        go_enter Try.func62, Try.ntmps62
        go_wp2_with fail
        refine (domOkS_any x y d _).mono ?_
        rintro e w1 ⟨rfl, hb1⟩
        rw [Hd.out]
        have B1 := B0.tr hb1
        have bX1 := bX.bl hb1
        have bD1 := bD.bl hb1
        obtain ⟨gX, hgX⟩ : ∃ g, g = w.heap.size := ⟨_, rfl⟩
        obtain ⟨gD, hgD⟩ : ∃ g, g = w.heap.size + 1 := ⟨_, rfl⟩
        rw [← hgD] at bD1 ⊢
        rw [← hgX] at bX1 ⊢
        clear hgX hgD
        have d_0 := bD1.cell 0
        have d_1 := bD1.cell 1
        have d_2 := bD1.cell 2
        simp only [List.getElem?_toArray, List.getElem?_cons_zero, List.getElem?_cons_succ] at d_0 d_1 d_2
        go_wp2_with fail
        refine (underS_any x y d _ Hd.out).mono ?_
        rintro e w2 ⟨rfl, hb2⟩
        rw [Hsec.out]
        go_upto_region 4 with (fail)
        have B3 := ((B1.tr hb2).al (.cells #[.int .i64 x, .int .i64 y] 44)).al (.cells #[.int .i64 sx, .int .i64 sy] 44)
        have bX3 := ((bX1.bl hb2).alloc (.cells #[.int .i64 x, .int .i64 y] 44)).alloc (.cells #[.int .i64 sx, .int .i64 sy] 44)
        have bA3 := (Blk.new_ w2 44 #[.int .i64 x, .int .i64 y]).alloc (.cells #[.int .i64 sx, .int .i64 sy] 44)
        have bB3 := Blk.new2 (w2.alloc (.cells #[.int .i64 x, .int .i64 y] 44)) 44 #[.int .i64 sx, .int .i64 sy] (w2.heap.size + 1) (by simp)
        obtain ⟨W3, hW3⟩ : ∃ W3, W3 = (w2.alloc (.cells #[.int .i64 x, .int .i64 y] 44)).alloc (.cells #[.int .i64 sx, .int .i64 sy] 44) := ⟨_, rfl⟩
        obtain ⟨gB, hgB⟩ : ∃ g, g = w2.heap.size + 1 := ⟨_, rfl⟩
        obtain ⟨gA, hgA⟩ : ∃ g, g = w2.heap.size := ⟨_, rfl⟩
        rw [← hW3] at B3 bX3 bA3 bB3 ⊢
        rw [← hgB] at bB3 ⊢
        rw [← hgA] at bA3 ⊢
        clear hW3 hgB hgA d_0 d_1 d_2
        have z_0 := bX3.c1
        have a_0 := bA3.cell 0
        have a_1 := bA3.cell 1
        simp only [List.getElem?_toArray, List.getElem?_cons_zero, List.getElem?_cons_succ] at a_0 a_1
        have b_0 := bB3.cell 0
        have b_1 := bB3.cell 1
        simp only [List.getElem?_toArray, List.getElem?_cons_zero, List.getElem?_cons_succ] at b_0 b_1
        go_wp2_with fail
        refine (hasCellS_yes _ rows x y s I _ (h.below RE.stays B3) HcI.out Hok Hse HIe.out).mono ?_
        rintro e w4 ⟨rfl, hb4⟩
        rw [He1.out]
        go_wp2
        go_ret
        exact ⟨rfl, B3.tr hb4⟩
      · rcases e2 : s.testBit J with _ | _
        · rw [Bool.and_false, if_neg (by simp)]
          have He1 := Lib.hid e1; have He2 := Lib.hid e2; clear e1 e2
          go_enter Try.func62, Try.ntmps62
          go_wp2_with fail
          refine (domOkS_any x y d _).mono ?_
          rintro e w1 ⟨rfl, hb1⟩
          rw [Hd.out]
          have B1 := B0.tr hb1
          have bX1 := bX.bl hb1
          have bD1 := bD.bl hb1
          obtain ⟨gX, hgX⟩ : ∃ g, g = w.heap.size := ⟨_, rfl⟩
          obtain ⟨gD, hgD⟩ : ∃ g, g = w.heap.size + 1 := ⟨_, rfl⟩
          rw [← hgD] at bD1 ⊢
          rw [← hgX] at bX1 ⊢
          clear hgX hgD
          have d_0 := bD1.cell 0
          have d_1 := bD1.cell 1
          have d_2 := bD1.cell 2
          simp only [List.getElem?_toArray, List.getElem?_cons_zero, List.getElem?_cons_succ] at d_0 d_1 d_2
          go_wp2_with fail
          refine (underS_any x y d _ Hd.out).mono ?_
          rintro e w2 ⟨rfl, hb2⟩
          rw [Hsec.out]
          go_upto_region 4 with (fail)
          have B3 := ((B1.tr hb2).al (.cells #[.int .i64 x, .int .i64 y] 44)).al (.cells #[.int .i64 sx, .int .i64 sy] 44)
          have bX3 := ((bX1.bl hb2).alloc (.cells #[.int .i64 x, .int .i64 y] 44)).alloc (.cells #[.int .i64 sx, .int .i64 sy] 44)
          have bA3 := (Blk.new_ w2 44 #[.int .i64 x, .int .i64 y]).alloc (.cells #[.int .i64 sx, .int .i64 sy] 44)
          have bB3 := Blk.new2 (w2.alloc (.cells #[.int .i64 x, .int .i64 y] 44)) 44 #[.int .i64 sx, .int .i64 sy] (w2.heap.size + 1) (by simp)
          obtain ⟨W3, hW3⟩ : ∃ W3, W3 = (w2.alloc (.cells #[.int .i64 x, .int .i64 y] 44)).alloc (.cells #[.int .i64 sx, .int .i64 sy] 44) := ⟨_, rfl⟩
          obtain ⟨gB, hgB⟩ : ∃ g, g = w2.heap.size + 1 := ⟨_, rfl⟩
          obtain ⟨gA, hgA⟩ : ∃ g, g = w2.heap.size := ⟨_, rfl⟩
          rw [← hW3] at B3 bX3 bA3 bB3 ⊢
          rw [← hgB] at bB3 ⊢
          rw [← hgA] at bA3 ⊢
          clear hW3 hgB hgA d_0 d_1 d_2
          have z_0 := bX3.c1
          have a_0 := bA3.cell 0
          have a_1 := bA3.cell 1
          simp only [List.getElem?_toArray, List.getElem?_cons_zero, List.getElem?_cons_succ] at a_0 a_1
          have b_0 := bB3.cell 0
          have b_1 := bB3.cell 1
          simp only [List.getElem?_toArray, List.getElem?_cons_zero, List.getElem?_cons_succ] at b_0 b_1
          go_wp2_with fail
          refine (hasCellS_yes _ rows x y s I _ (h.below RE.stays B3) HcI.out Hok Hse HIe.out).mono ?_
          rintro e w4 ⟨rfl, hb4⟩
          rw [He1.out]
          have B4 := B3.tr hb4
          have bX4 := bX3.bl hb4
          have bA4 := bA3.bl hb4
          have bB4 := bB3.bl hb4
          clear z_0 a_0 a_1 b_0 b_1
          have z_0 := bX4.c1
          have a_0 := bA4.cell 0
          have a_1 := bA4.cell 1
          simp only [List.getElem?_toArray, List.getElem?_cons_zero, List.getElem?_cons_succ] at a_0 a_1
          have b_0 := bB4.cell 0
          have b_1 := bB4.cell 1
          simp only [List.getElem?_toArray, List.getElem?_cons_zero, List.getElem?_cons_succ] at b_0 b_1
          go_wp2_with fail
          refine (hasCellS_yes _ rows sx sy s J _ (h.below RE.stays B4) HcJ.out Hok Hse HJe.out).mono ?_
          rintro e w5 ⟨rfl, hb5⟩
          rw [He2.out]
          go_wp2
          go_ret
          exact ⟨rfl, B4.tr hb5⟩
        · rw [Bool.true_and, if_pos rfl]
          have He1 := Lib.hid e1; have He2 := Lib.hid e2; clear e1 e2
          obtain ⟨R, hR⟩ : ∃ R, R = cntSet (sDiff s (domSet (x, y, d))) := ⟨_, rfl⟩
          obtain ⟨N1, hN1⟩ : ∃ N, N = rowsOf (sWithout s I) 8 := ⟨_, rfl⟩
          obtain ⟨N2, hN2⟩ : ∃ N, N = rowsOf (sWithout (sWithout s I) J) 8 := ⟨_, rfl⟩
          have hs' : s < U64 := rowsEq_lt hse hs
          have hw1 : withCell rows (x, y) false = (N1, true) := by rw [withOut Hok.out HcI.out, hN1, ← hse, ← HIe.out]
          have hN1ok : RowsOk N1 := by rw [hN1]; exact rowsOf_ok _ 8 (Nat.le_refl _)
          have hsN1 : setOf N1 = sWithout s I := by rw [hN1]; exact setOf_rowsOf (sDiff_lt hs')
          have hw2 : withCell N1 (sx, sy) false = (N2, true) := by rw [withOut hN1ok HcJ.out, hN2, hsN1, ← HJe.out]
          have hN2ok : RowsOk N2 := by rw [hN2]; exact rowsOf_ok _ 8 (Nat.le_refl _)
          have hsN2 : setOf N2 = sDiff s (domSet (x, y, d)) := by rw [hN2]; exact (setOf_rowsOf (show sWithout (sWithout s I) J < U64 from sDiff_lt (sDiff_lt hs'))).trans Hw2.out
          have C1 : ∀ (u : Value) (w : World), Rd 1 RInt w u rows → Calls Try.prog 100 #[.agg #[u], .agg #[.int .i64 x, .int .i64 y], .bool false] w (RetRegB N1 true w) := fun u w k1 => by
            have := withCellS_any u rows x y false w k1 (by have := Hok.out.1; unfold Small; omega)
            rw [hw1] at this; exact this
          have C2 : ∀ (u : Value) (w : World), Rd 1 RInt w u N1 → Calls Try.prog 100 #[.agg #[u], .agg #[.int .i64 sx, .int .i64 sy], .bool false] w (RetRegB N2 true w) := fun u w k1 => by
            have := withCellS_any u N1 sx sy false w k1 (by have := hN1ok.1; unfold Small; omega)
            rw [hw2] at this; exact this
          have C3 : ∀ (u : Value) (w : World), Rd 1 RInt w u N2 → Calls Try.prog 136 #[.agg #[u]] w (Ret (.int .i64 R) w) := fun u w k1 => by
            have := countS_yes u N2 w k1 (Lib.hid hN2ok)
            rw [hsN2, ← hR] at this; exact this
          rw [← hR]
          clear hR hN1 hN2 hw1 hw2 hsN1 hsN2 hN1ok hN2ok hse
          go_enter Try.func62, Try.ntmps62
          go_wp2_with fail
          refine (domOkS_any x y d _).mono ?_
          rintro e w1 ⟨rfl, hb1⟩
          rw [Hd.out]
          have B1 := B0.tr hb1
          have bX1 := bX.bl hb1
          have bD1 := bD.bl hb1
          obtain ⟨gX, hgX⟩ : ∃ g, g = w.heap.size := ⟨_, rfl⟩
          obtain ⟨gD, hgD⟩ : ∃ g, g = w.heap.size + 1 := ⟨_, rfl⟩
          rw [← hgD] at bD1 ⊢
          rw [← hgX] at bX1 ⊢
          clear hgX hgD
          have d_0 := bD1.cell 0
          have d_1 := bD1.cell 1
          have d_2 := bD1.cell 2
          simp only [List.getElem?_toArray, List.getElem?_cons_zero, List.getElem?_cons_succ] at d_0 d_1 d_2
          go_wp2_with fail
          refine (underS_any x y d _ Hd.out).mono ?_
          rintro e w2 ⟨rfl, hb2⟩
          rw [Hsec.out]
          go_upto_region 4 with (fail)
          have B3 := ((B1.tr hb2).al (.cells #[.int .i64 x, .int .i64 y] 44)).al (.cells #[.int .i64 sx, .int .i64 sy] 44)
          have bX3 := ((bX1.bl hb2).alloc (.cells #[.int .i64 x, .int .i64 y] 44)).alloc (.cells #[.int .i64 sx, .int .i64 sy] 44)
          have bA3 := (Blk.new_ w2 44 #[.int .i64 x, .int .i64 y]).alloc (.cells #[.int .i64 sx, .int .i64 sy] 44)
          have bB3 := Blk.new2 (w2.alloc (.cells #[.int .i64 x, .int .i64 y] 44)) 44 #[.int .i64 sx, .int .i64 sy] (w2.heap.size + 1) (by simp)
          obtain ⟨W3, hW3⟩ : ∃ W3, W3 = (w2.alloc (.cells #[.int .i64 x, .int .i64 y] 44)).alloc (.cells #[.int .i64 sx, .int .i64 sy] 44) := ⟨_, rfl⟩
          obtain ⟨gB, hgB⟩ : ∃ g, g = w2.heap.size + 1 := ⟨_, rfl⟩
          obtain ⟨gA, hgA⟩ : ∃ g, g = w2.heap.size := ⟨_, rfl⟩
          rw [← hW3] at B3 bX3 bA3 bB3 ⊢
          rw [← hgB] at bB3 ⊢
          rw [← hgA] at bA3 ⊢
          clear hW3 hgB hgA d_0 d_1 d_2
          have z_0 := bX3.c1
          have a_0 := bA3.cell 0
          have a_1 := bA3.cell 1
          simp only [List.getElem?_toArray, List.getElem?_cons_zero, List.getElem?_cons_succ] at a_0 a_1
          have b_0 := bB3.cell 0
          have b_1 := bB3.cell 1
          simp only [List.getElem?_toArray, List.getElem?_cons_zero, List.getElem?_cons_succ] at b_0 b_1
          go_wp2_with fail
          refine (hasCellS_yes _ rows x y s I _ (h.below RE.stays B3) HcI.out Hok Hse HIe.out).mono ?_
          rintro e w4 ⟨rfl, hb4⟩
          rw [He1.out]
          have B4 := B3.tr hb4
          have bX4 := bX3.bl hb4
          have bA4 := bA3.bl hb4
          have bB4 := bB3.bl hb4
          clear z_0 a_0 a_1 b_0 b_1
          have z_0 := bX4.c1
          have a_0 := bA4.cell 0
          have a_1 := bA4.cell 1
          simp only [List.getElem?_toArray, List.getElem?_cons_zero, List.getElem?_cons_succ] at a_0 a_1
          have b_0 := bB4.cell 0
          have b_1 := bB4.cell 1
          simp only [List.getElem?_toArray, List.getElem?_cons_zero, List.getElem?_cons_succ] at b_0 b_1
          go_wp2_with fail
          refine (hasCellS_yes _ rows sx sy s J _ (h.below RE.stays B4) HcJ.out Hok Hse HJe.out).mono ?_
          rintro e w5 ⟨rfl, hb5⟩
          rw [He2.out]
          have B5 := B4.tr hb5
          have bX5 := bX4.bl hb5
          have bA5 := bA4.bl hb5
          have bB5 := bB4.bl hb5
          clear z_0 a_0 a_1 b_0 b_1
          have z_0 := bX5.c1
          have a_0 := bA5.cell 0
          have a_1 := bA5.cell 1
          simp only [List.getElem?_toArray, List.getElem?_cons_zero, List.getElem?_cons_succ] at a_0 a_1
          go_wp2_with fail
          refine (C1 _ _ (h.below RE.stays B5)).mono ?_
          rintro e w6 ⟨D, d1, rfl, own6, hb6⟩
          have B6 := (B5.tr hb6).al (.cells #[.slice D N1.length d1] 30)
          have bB6 := (bB5.bl hb6).alloc (.cells #[.slice D N1.length d1] 30)
          have bY6 := Blk.new_ w6 30 #[.slice D N1.length d1]
          have own7 := (own6.alloc (.cells #[.slice D N1.length d1] 30)).rd lenInt (by decide)
          have hBl := (bB5.bl hb6).lt
          have hBn : gB ≠ w6.heap.size := by omega
          clear z_0 a_0 a_1
          have y_0 := bY6.c1
          have b_0 := bB6.cell 0
          have b_1 := bB6.cell 1
          simp only [List.getElem?_toArray, List.getElem?_cons_zero, List.getElem?_cons_succ] at b_0 b_1
          go_wp2_with fail
          refine (C2 _ _ own7).mono ?_
          rintro e w8 ⟨E, e1, rfl, own8, hb8⟩
          go_wp2_with fail
          refine (C3 _ _ ((own8.alloc (.cells #[.slice E N2.length e1] 30)).rd lenInt (by decide))).mono ?_
          rintro e w9 ⟨rfl, hb9⟩
          go_wp2
          go_ret
          exact ⟨rfl, ((B6.tr hb8).al _).tr hb9⟩
theorem cells_at {s k : Nat} (hk : k < (cellsTo s 64).length) : ∃ i, i < 64 ∧ s.testBit i = true ∧ (cellsTo s 64)[k] = (((i % 8 : Nat) : Int), ((i / 8 : Nat) : Int)) := by
  have this : (cellsTo s 64)[k] ∈ cellsTo s 64 := List.getElem_mem hk
  generalize (cellsTo s 64)[k] = c at this ⊢
  unfold cellsTo at this
  obtain ⟨i, hi, rfl⟩ := List.mem_map.1 this
  obtain ⟨h1, h2⟩ := List.mem_filter.1 hi
  exact ⟨i, List.mem_range.1 h1, h2, by unfold ixCell; rw [show ((i : Int) % 8) = ((i % 8 : Nat) : Int) by omega, show ((i : Int) / 8) = ((i / 8 : Nat) : Int) by omega]⟩
theorem allD_len (s : Nat) (hs : s < U64) : (allD s).length ≤ 128 := by
  rw [allD_is hs]
  refine Nat.le_trans (List.length_filter_le _ _) ?_
  decide +kernel
abbrev op_FreeS_specl15All_9_0 : Oper := { dst := some 21, op := Go.Op.move (Go.Operand.tmp 4), type := 32, pos := "l15_forced.go:11", after := #[], guard := none }
abbrev op_FreeS_specl15All_9_1 : Oper := { dst := some 22, op := Go.Op.move (Go.Operand.tmp 5), type := 3, pos := "l15_forced.go:11", after := #[], guard := none }
abbrev op_FreeS_specl15All_9_2 : Oper := { dst := some 23, op := Go.Op.indexAddr 32 (Go.Operand.tmp 21) (Go.Operand.tmp 22), type := 0, pos := "l15_forced.go:11", after := #[{ on := 0, ground := Go.Ground.data }, { on := 1, ground := Go.Ground.data }], guard := none }
abbrev op_FreeS_specl15All_9_3 : Oper := { dst := some 24, op := Go.Op.fieldAddr 44 (Go.Operand.tmp 23) 0, type := 0, pos := "l15_forced.go:11", after := #[{ on := 2, ground := Go.Ground.data }], guard := none }
abbrev op_FreeS_specl15All_9_4 : Oper := { dst := some 25, op := Go.Op.load 3 (Go.Operand.tmp 24), type := 3, pos := "l15_forced.go:11", after := #[{ on := 3, ground := Go.Ground.data }], guard := none }
abbrev op_FreeS_specl15All_9_5 : Oper := { dst := some 26, op := Go.Op.move (Go.Operand.tmp 4), type := 32, pos := "l15_forced.go:11", after := #[], guard := none }
abbrev op_FreeS_specl15All_9_6 : Oper := { dst := some 27, op := Go.Op.move (Go.Operand.tmp 5), type := 3, pos := "l15_forced.go:11", after := #[], guard := none }
abbrev op_FreeS_specl15All_9_7 : Oper := { dst := some 28, op := Go.Op.indexAddr 32 (Go.Operand.tmp 26) (Go.Operand.tmp 27), type := 0, pos := "l15_forced.go:11", after := #[{ on := 5, ground := Go.Ground.data }, { on := 6, ground := Go.Ground.data }], guard := none }
abbrev op_FreeS_specl15All_9_8 : Oper := { dst := some 29, op := Go.Op.fieldAddr 44 (Go.Operand.tmp 28) 1, type := 0, pos := "l15_forced.go:11", after := #[{ on := 7, ground := Go.Ground.data }], guard := none }
abbrev op_FreeS_specl15All_9_9 : Oper := { dst := some 30, op := Go.Op.load 3 (Go.Operand.tmp 29), type := 3, pos := "l15_forced.go:11", after := #[{ on := 8, ground := Go.Ground.data }], guard := none }
abbrev op_FreeS_specl15All_9_10 : Oper := { dst := some 31, op := Go.Op.move (Go.Operand.tmp 6), type := 3, pos := "l15_forced.go:11", after := #[], guard := none }
abbrev op_FreeS_specl15All_9_11 : Oper := { dst := some 32, op := Go.Op.binOp Go.BinOp.eql 3 (Go.Operand.tmp 31) (Go.Operand.const (Go.Value.int Go.IntKind.i64 1)) 3, type := 4, pos := "l15_forced.go:11", after := #[{ on := 10, ground := Go.Ground.data }], guard := none }
abbrev op_FreeS_specl15All_9_12 : Oper := { dst := some 33, op := Go.Op.build 88 #[(0, Go.Operand.tmp 25), (1, Go.Operand.tmp 30), (2, Go.Operand.tmp 32)], type := 88, pos := "l15_forced.go:11", after := #[{ on := 4, ground := Go.Ground.data }, { on := 9, ground := Go.Ground.data }, { on := 11, ground := Go.Ground.data }], guard := none }
abbrev op_FreeS_specl15All_9_13 : Oper := { dst := some 7, op := Go.Op.alloc 88, type := 0, pos := "l15_forced.go:11", after := #[], guard := none }
abbrev op_FreeS_specl15All_9_14 : Oper := { dst := none, op := Go.Op.store 88 (Go.Operand.tmp 7) (Go.Operand.tmp 33), type := 0, pos := "l15_forced.go:11", after := #[{ on := 13, ground := Go.Ground.data }, { on := 12, ground := Go.Ground.data }, { on := 0, ground := Go.Ground.phase }, { on := 1, ground := Go.Ground.phase }, { on := 2, ground := Go.Ground.phase }, { on := 3, ground := Go.Ground.phase }, { on := 4, ground := Go.Ground.phase }, { on := 5, ground := Go.Ground.phase }, { on := 6, ground := Go.Ground.phase }, { on := 7, ground := Go.Ground.phase }, { on := 8, ground := Go.Ground.phase }, { on := 9, ground := Go.Ground.phase }, { on := 10, ground := Go.Ground.phase }, { on := 11, ground := Go.Ground.phase }, { on := 12, ground := Go.Ground.phase }, { on := 13, ground := Go.Ground.phase }], guard := none }
abbrev op_FreeS_specl15All_10_0 : Oper := { dst := some 34, op := Go.Op.load 88 (Go.Operand.tmp 7), type := 88, pos := "l15_forced.go:12", after := #[], guard := none }
abbrev op_FreeS_specl15All_10_1 : Oper := { dst := some 35, op := Go.Op.call { callee := Go.Callee.value (Go.Operand.func 132), args := #[Go.Operand.tmp 34], argTypes := #[88] }, type := 4, pos := "l15_forced.go:12", after := #[{ on := 0, ground := Go.Ground.data }], guard := none }
abbrev op_FreeS_specl15All_10_2 : Oper := { dst := some 36, op := Go.Op.move (Go.Operand.tmp 35), type := 4, pos := "l15_forced.go:12", after := #[{ on := 1, ground := Go.Ground.data }, { on := 1, ground := Go.Ground.chain }], guard := none }
abbrev op_FreeS_specl15All_10_3 : Oper := { dst := some 37, op := Go.Op.load 30 (Go.Operand.tmp 1), type := 30, pos := "l15_forced.go:12", after := #[{ on := 2, ground := Go.Ground.guard }], guard := some (2, true) }
abbrev op_FreeS_specl15All_10_4 : Oper := { dst := some 38, op := Go.Op.load 88 (Go.Operand.tmp 7), type := 88, pos := "l15_forced.go:12", after := #[{ on := 2, ground := Go.Ground.guard }], guard := some (2, true) }
abbrev op_FreeS_specl15All_10_5 : Oper := { dst := some 39, op := Go.Op.call { callee := Go.Callee.value (Go.Operand.func 161), args := #[Go.Operand.tmp 38], argTypes := #[88] }, type := 44, pos := "l15_forced.go:12", after := #[{ on := 4, ground := Go.Ground.data }, { on := 2, ground := Go.Ground.chain }, { on := 2, ground := Go.Ground.guard }], guard := some (2, true) }
abbrev op_FreeS_specl15All_10_6 : Oper := { dst := some 40, op := Go.Op.call { callee := Go.Callee.value (Go.Operand.func 129), args := #[Go.Operand.tmp 37, Go.Operand.tmp 39], argTypes := #[30, 44] }, type := 4, pos := "l15_forced.go:12", after := #[{ on := 3, ground := Go.Ground.data }, { on := 5, ground := Go.Ground.data }, { on := 5, ground := Go.Ground.chain }, { on := 2, ground := Go.Ground.guard }], guard := some (2, true) }
abbrev op_FreeS_specl15All_10_7 : Oper := { dst := some 41, op := Go.Op.pick (Go.Operand.tmp 36) (Go.Operand.tmp 40) (Go.Operand.const (Go.Value.bool false)), type := 4, pos := "l15_forced.go:12", after := #[{ on := 2, ground := Go.Ground.data }, { on := 6, ground := Go.Ground.data }], guard := none }
set_option maxHeartbeats 4000000 in
set_option maxRecDepth 100000 in
theorem allS_any (v : Value) (rows : List Int) (w : World) (h : Rd 1 RInt w v rows) (Hok : Hid (RowsOk rows)) : Calls Try.prog 160 #[.agg #[v]] w (RetOwn 88 3 eDom (allD (setOf rows)) w) := by
  obtain ⟨A, c, rfl, hc, hm⟩ := h.form
  have hs := setOf_lt Hok.out
  obtain ⟨s, hse⟩ : ∃ s, s = setOf rows := ⟨_, rfl⟩
  rw [← hse] at hs ⊢
  have Hse := Lib.hid hse
  have hrc : regCells rows = cellsTo s 64 := by unfold regCells; rw [if_pos (regionOk_iff.2 Hok.out), hse]
  obtain ⟨cs, hcs⟩ : ∃ cs, cs = cellsTo s 64 := ⟨_, rfl⟩
  have CC : ∀ (u : Value) (w : World), Rd 1 RInt w u rows → Calls Try.prog 57 #[.agg #[u]] w (RetOwn 44 2 ePair cs w) := fun u w k1 => by
    have := cellsOfS_any u rows w k1
    rw [hrc, ← hcs] at this; exact this
  have hat : ∀ k (hk : k < cs.length), ∃ i, i < 64 ∧ s.testBit i = true ∧ cs[k] = (((i % 8 : Nat) : Int), ((i / 8 : Nat) : Int)) := by subst hcs; exact fun k hk => cells_at hk
  have hcl : cs.length ≤ 64 := by rw [hcs]; exact cellsTo_le s 64
  have hRl := allD_len s hs
  have hR0 : allD s = cs.flatMap fun c => ([((c.1, c.2, false) : Dm), (c.1, c.2, true)]).filter (fitsD s) := by rw [hcs]; rfl
  obtain ⟨R, hR⟩ : ∃ R, R = allD s := ⟨_, rfl⟩
  rw [← hR] at hRl hR0 ⊢
  have HR0 : Hid ([] ++ (cs.drop 0).flatMap (fun c => ([((c.1, c.2, false) : Dm), (c.1, c.2, true)]).filter (fitsD s)) = R) := Lib.hid (by rw [hR0]; rfl)
  have Hat := Lib.hid hat
  clear hse hrc hcs hR hR0 hat
  have hA := (Below.refl w.heap.size w).al (.cells #[.slice A rows.length c] 30)
  have hA2 := hA.al (.cells #[] 88)
  have bX := (Blk.new_ w 30 #[.slice A rows.length c]).alloc (.cells #[] 88)
  have ownE : OwnL 88 3 eDom w.heap.size ((w.alloc (.cells #[.slice A rows.length c] 30)).alloc (.cells #[] 88)) (.slice (some ⟨w.heap.size + 1, 0, none⟩) ([] : List Dm).length 0) [] := by
    have := (own_empty (w.alloc (.cells #[.slice A rows.length c] 30)) (E := 88) (size := 3) (enc := eDom)).mono (show w.heap.size ≤ _ from hA.size)
    simpa using this
  go_enter Try.func160, Try.ntmps160
  go_wp2_with fail
  refine (CC _ _ (h.below RE.stays hA2)).mono ?_
  rintro e w1 ⟨AL, cL, rfl, oC, hb1⟩
  have own1 := ownE.below hb1
  have B1 := hA2.tr hb1
  have bX1 := bX.bl hb1
  have oC := oC.mono hA2.size
  clear hA hA2 bX ownE hb1
  go_wp2_with fail
  go_loopw [3, 5] (fun s3 s5 wr => ∃ (k : Nat) (out : List Dm) (A1 : Option Addr) (c1 : Nat), k ≤ cs.length ∧ s5 = .int .i64 k ∧ s3 = .slice A1 out.length c1 ∧ OwnL 88 3 eDom w.heap.size wr (.slice A1 out.length c1) out ∧ OwnL 44 2 ePair w.heap.size wr (.slice AL cs.length cL) cs ∧ Below w.heap.size w wr ∧ Blk wr w.heap.size 30 #[.slice A rows.length c] ∧ Hid (out ++ (cs.drop k).flatMap (fun c => ([((c.1, c.2, false) : Dm), (c.1, c.2, true)]).filter (fitsD s)) = R)) (fun _ i _ => cs.length - (intOf i).toNat)
  case atStart => exact ⟨0, [], _, _, by omega, rfl, rfl, own1, oC, B1, bX1, HR0⟩
  case round =>
    obtain ⟨k, out, A1, c1, hk, rfl, rfl, own, oC, B, bX, HR⟩ := hrel
    clear own1 B1 bX1 HR0
    by_cases hlt : k < cs.length
    · obtain ⟨i, hi64, hbi, hce⟩ := Hat.out k hlt
      obtain ⟨x, hx⟩ : ∃ x, x = i % 8 := ⟨_, rfl⟩
      obtain ⟨y, hy⟩ : ∃ y, y = i / 8 := ⟨_, rfl⟩
      have hx8 : x < 8 := by omega
      have hy8 : y < 8 := by omega
      have hlen : out.length ≤ 128 := by have := congrArg List.length HR.out; rw [List.length_append] at this; omega
      have hfr := fits_rt hs hi64 hbi
      have hfd := fits_dn hs hi64 hbi
      rw [← hx, ← hy] at hce
      have hdrop : cs.drop k = cs[k] :: cs.drop (k + 1) := List.drop_eq_getElem_cons hlt
      have htw : [(((x : Int), (y : Int), false) : Dm), ((x : Int), (y : Int), true)] = twoD i := by unfold twoD domRt domDn; rw [← hx, ← hy]
      have HR2 : Hid ((out ++ (twoD i).filter (fitsD s)) ++ (cs.drop (k + 1)).flatMap (fun c => ([((c.1, c.2, false) : Dm), (c.1, c.2, true)]).filter (fitsD s)) = R) := Lib.hid (by
        rw [← HR.out, hdrop, List.flatMap_cons, hce]; simp only; rw [htw, List.append_assoc])
      have Hrt : Hid (domRt i = ((x : Int), (y : Int), false)) := Lib.hid (by unfold domRt; rw [← hx, ← hy])
      have Hdn : Hid (domDn i = ((x : Int), (y : Int), true)) := Lib.hid (by unfold domDn; rw [← hx, ← hy])
      have Hi : Hid (i = 8 * y + x) := Lib.hid (by omega)
      rw [← hx] at hfr
      have hfd2 : decide (i < 56) = decide (y < 7) := decide_eq_decide.2 ⟨fun _ => by omega, fun _ => by omega⟩
      rw [hfd2] at hfd
      have Hfr := Lib.hid hfr; have Hfd := Lib.hid hfd; have Hce := Lib.hid hce
      clear hx hy hdrop htw HR hbi hfr hfd hfd2 hce hi64
      obtain ⟨gC, rfl, hgC1, hgC2⟩ := oC.split hlt
      have hltB : decide (k < cs.length) = true := decide_eq_true hlt
      go_wp2_with fail
      go_loopw [3, 6] (fun s3 s6 wq => ∃ (J : Int) (o2 : List Dm) (A2 : Option Addr) (c2 : Nat), s6 = .int .i64 J ∧ s3 = .slice A2 o2.length c2 ∧ OwnL 88 3 eDom w.heap.size wq (.slice A2 o2.length c2) o2 ∧ OwnL 44 2 ePair w.heap.size wq (.slice (some ⟨gC, 0, none⟩) cs.length cL) cs ∧ Below w.heap.size w wq ∧ Blk wq w.heap.size 30 #[.slice A rows.length c] ∧ Hid ((J = 0 ∧ o2 = out) ∨ (J = 1 ∧ o2 = out ++ [domRt i].filter (fitsD s)) ∨ (J = 2 ∧ o2 = out ++ (twoD i).filter (fitsD s)))) (fun _ i _ => 2 - (intOf i).toNat)
      case atStart => exact ⟨0, out, _, _, rfl, rfl, own, oC, B, bX, Lib.hid (.inl ⟨rfl, rfl⟩)⟩
      case round =>
        obtain ⟨J, o2, A2, c2, rfl, rfl, own3, oC3, B3, bX3, HJ⟩ := hrel
        clear own oC B bX hltB
        have q1 := oC3.slot lenCell (by decide) hlt 0 (.int .i64 x) (by rw [Hce.out]; rfl)
        have q2 := oC3.slot lenCell (by decide) hlt 1 (.int .i64 y) (by rw [Hce.out]; rfl)
        rw [Nat.add_zero] at q1
        have hkI : (k : Int) < cs.length := by omega
        have hgC3 := oC3.at_.2.2
        rcases HJ.out with ⟨rfl, ho⟩ | ⟨rfl, ho⟩ | ⟨rfl, ho⟩
        · subst ho
          clear HJ
          have Hn1 : Hid (fitsD s (domRt i) = false → o2 = o2 ++ [domRt i].filter (fitsD s)) := Lib.hid fun q => by rw [List.filter_cons, q]; simp
          have Hn2 : Hid (fitsD s (domRt i) = true → o2 ++ [((x : Int), (y : Int), false)] = o2 ++ [domRt i].filter (fitsD s)) := Lib.hid fun q => by rw [List.filter_cons, q, ← Hrt.out]; simp
          have hlo : o2.length ≤ 129 := by omega
          have HF : Hid (fitsD s (domRt i) = (decide (x < 7) && s.testBit (8 * y + (x + 1)))) := Lib.hid (by rw [Hfr.out, show i + 1 = 8 * y + (x + 1) by have := Hi.out; omega])
          have hok := domRt_ok hx8 hy8
          have hsec := sec_rt (x := x) (y := y) hx8
          have hin : x < 7 → x + 1 < 8 ∧ y < 8 := fun q => ⟨by omega, hy8⟩
          obtain ⟨W, hW⟩ : ∃ W, W = wr := ⟨_, rfl⟩
          rw [← hW] at own3 oC3 B3 bX3 q1 q2 hgC3 ⊢
          clear hW
          have Bw : Below W.heap.size W W.drew := (Below.refl _ _).drew
          have hz : W.heap.size ≤ W.drew.heap.size := by simp
          have Hok2 := Lib.hid hok; have Hsec := Lib.hid hsec; clear hok hsec
          go_wp2_with fail
          refine wp_region_held_drew (S := (fun w' => w'.cell? ⟨gC, k * 2, none⟩ = some (.int .i64 x) ∧ w'.cell? ⟨gC, k * 2 + 1, none⟩ = some (.int .i64 y))) (by kernel_rfl) ?_ (fun hHeld => ?_)
          · (try dsimp only); (try go_keep)
          refine wpAnyH_take (i := 0) (oi := op_FreeS_specl15All_9_0) (v := ?_) rfl (by kernel_rfl) (by kernel_rfl) (by kernel_rfl) (fun _ _ _ h => h) (Or.inl ⟨by rfl, ?_⟩) (by assumption) ?_
          rotate_left 1
          · (intro wS hSw; (try dsimp only at hSw); dsimp only [op_FreeS_specl15All_9_0]; go_simp; (all_goals with_reducible rfl))
          simp only [op_FreeS_specl15All_9_0, Act.put, List.setIfInBounds_toArray, List.set_cons_zero, List.set_cons_succ]
          refine wpAnyH_take (i := 1) (oi := op_FreeS_specl15All_9_1) (v := ?_) rfl (by kernel_rfl) (by kernel_rfl) (by kernel_rfl) (fun _ _ _ h => h) (Or.inl ⟨by rfl, ?_⟩) (by assumption) ?_
          rotate_left 1
          · (intro wS hSw; (try dsimp only at hSw); dsimp only [op_FreeS_specl15All_9_1]; go_simp; (all_goals with_reducible rfl))
          simp only [op_FreeS_specl15All_9_1, Act.put, List.setIfInBounds_toArray, List.set_cons_zero, List.set_cons_succ]
          refine wpAnyH_take (i := 2) (oi := op_FreeS_specl15All_9_2) (v := ?_) rfl (by kernel_rfl) (by kernel_rfl) (by kernel_rfl) (fun _ _ _ h => h) (Or.inl ⟨by rfl, ?_⟩) (by assumption) ?_
          rotate_left 1
          · (intro wS hSw; (try dsimp only at hSw); dsimp only [op_FreeS_specl15All_9_2]; go_simp; (all_goals with_reducible rfl))
          simp only [op_FreeS_specl15All_9_2, Act.put, List.setIfInBounds_toArray, List.set_cons_zero, List.set_cons_succ]
          refine wpAnyH_take (i := 3) (oi := op_FreeS_specl15All_9_3) (v := ?_) rfl (by kernel_rfl) (by kernel_rfl) (by kernel_rfl) (fun _ _ _ h => h) (Or.inl ⟨by rfl, ?_⟩) (by assumption) ?_
          rotate_left 1
          · (intro wS hSw; (try dsimp only at hSw); dsimp only [op_FreeS_specl15All_9_3]; go_simp; (all_goals with_reducible rfl))
          simp only [op_FreeS_specl15All_9_3, Act.put, List.setIfInBounds_toArray, List.set_cons_zero, List.set_cons_succ]
          refine wpAnyH_take (i := 4) (oi := op_FreeS_specl15All_9_4) (v := ?_) rfl (by kernel_rfl) (by kernel_rfl) (by kernel_rfl) (fun _ _ _ h => h) (Or.inl ⟨by rfl, ?_⟩) (by assumption) ?_
          rotate_left 1
          · (intro wS hSw; (try dsimp only at hSw); dsimp only [op_FreeS_specl15All_9_4]; go_simp; (all_goals with_reducible rfl))
          simp only [op_FreeS_specl15All_9_4, Act.put, List.setIfInBounds_toArray, List.set_cons_zero, List.set_cons_succ]
          refine wpAnyH_take (i := 5) (oi := op_FreeS_specl15All_9_5) (v := ?_) rfl (by kernel_rfl) (by kernel_rfl) (by kernel_rfl) (fun _ _ _ h => h) (Or.inl ⟨by rfl, ?_⟩) (by assumption) ?_
          rotate_left 1
          · (intro wS hSw; (try dsimp only at hSw); dsimp only [op_FreeS_specl15All_9_5]; go_simp; (all_goals with_reducible rfl))
          simp only [op_FreeS_specl15All_9_5, Act.put, List.setIfInBounds_toArray, List.set_cons_zero, List.set_cons_succ]
          refine wpAnyH_take (i := 6) (oi := op_FreeS_specl15All_9_6) (v := ?_) rfl (by kernel_rfl) (by kernel_rfl) (by kernel_rfl) (fun _ _ _ h => h) (Or.inl ⟨by rfl, ?_⟩) (by assumption) ?_
          rotate_left 1
          · (intro wS hSw; (try dsimp only at hSw); dsimp only [op_FreeS_specl15All_9_6]; go_simp; (all_goals with_reducible rfl))
          simp only [op_FreeS_specl15All_9_6, Act.put, List.setIfInBounds_toArray, List.set_cons_zero, List.set_cons_succ]
          refine wpAnyH_take (i := 7) (oi := op_FreeS_specl15All_9_7) (v := ?_) rfl (by kernel_rfl) (by kernel_rfl) (by kernel_rfl) (fun _ _ _ h => h) (Or.inl ⟨by rfl, ?_⟩) (by assumption) ?_
          rotate_left 1
          · (intro wS hSw; (try dsimp only at hSw); dsimp only [op_FreeS_specl15All_9_7]; go_simp; (all_goals with_reducible rfl))
          simp only [op_FreeS_specl15All_9_7, Act.put, List.setIfInBounds_toArray, List.set_cons_zero, List.set_cons_succ]
          refine wpAnyH_take (i := 8) (oi := op_FreeS_specl15All_9_8) (v := ?_) rfl (by kernel_rfl) (by kernel_rfl) (by kernel_rfl) (fun _ _ _ h => h) (Or.inl ⟨by rfl, ?_⟩) (by assumption) ?_
          rotate_left 1
          · (intro wS hSw; (try dsimp only at hSw); dsimp only [op_FreeS_specl15All_9_8]; go_simp; (all_goals with_reducible rfl))
          simp only [op_FreeS_specl15All_9_8, Act.put, List.setIfInBounds_toArray, List.set_cons_zero, List.set_cons_succ]
          refine wpAnyH_take (i := 9) (oi := op_FreeS_specl15All_9_9) (v := ?_) rfl (by kernel_rfl) (by kernel_rfl) (by kernel_rfl) (fun _ _ _ h => h) (Or.inl ⟨by rfl, ?_⟩) (by assumption) ?_
          rotate_left 1
          · (intro wS hSw; (try dsimp only at hSw); dsimp only [op_FreeS_specl15All_9_9]; go_simp; (all_goals with_reducible rfl))
          simp only [op_FreeS_specl15All_9_9, Act.put, List.setIfInBounds_toArray, List.set_cons_zero, List.set_cons_succ]
          refine wpAnyH_take (i := 10) (oi := op_FreeS_specl15All_9_10) (v := ?_) rfl (by kernel_rfl) (by kernel_rfl) (by kernel_rfl) (fun _ _ _ h => h) (Or.inl ⟨by rfl, ?_⟩) (by assumption) ?_
          rotate_left 1
          · (intro wS hSw; (try dsimp only at hSw); dsimp only [op_FreeS_specl15All_9_10]; go_simp; (all_goals with_reducible rfl))
          simp only [op_FreeS_specl15All_9_10, Act.put, List.setIfInBounds_toArray, List.set_cons_zero, List.set_cons_succ]
          refine wpAnyH_take (i := 11) (oi := op_FreeS_specl15All_9_11) (v := ?_) rfl (by kernel_rfl) (by kernel_rfl) (by kernel_rfl) (fun _ _ _ h => h) (Or.inl ⟨by rfl, ?_⟩) (by assumption) ?_
          rotate_left 1
          · (intro wS hSw; (try dsimp only at hSw); dsimp only [op_FreeS_specl15All_9_11]; go_simp; (all_goals with_reducible rfl))
          simp only [op_FreeS_specl15All_9_11, Act.put, List.setIfInBounds_toArray, List.set_cons_zero, List.set_cons_succ]
          refine wpAnyH_take (i := 12) (oi := op_FreeS_specl15All_9_12) (v := ?_) rfl (by kernel_rfl) (by kernel_rfl) (by kernel_rfl) (fun _ _ _ h => h) (Or.inl ⟨by rfl, ?_⟩) (by assumption) ?_
          rotate_left 1
          · (intro wS hSw; (try dsimp only at hSw); dsimp only [op_FreeS_specl15All_9_12]; go_simp; (all_goals with_reducible rfl))
          simp only [op_FreeS_specl15All_9_12, Act.put, List.setIfInBounds_toArray, List.set_cons_zero, List.set_cons_succ]
          refine wpAnyH_ready (rs := [13]) (by kernel_rfl) (by simp) ?_
          refine AllReadyH.cons (o := op_FreeS_specl15All_9_13) rfl (fun K hK => ?_) AllReadyH.nil
          (refine step_alloc rfl 88 _ rfl Try.zeroValue88 ?_; intro gN wX bN hbX hgN1 hgN2 hgN3; have hgN : W.heap.size ≤ gN := (by omega); obtain ⟨hcX, hfX, hzX⟩ := bkn hbX W.heap.size hz; replace hz := hzX; replace Bw := Bw.tr hbX)
          refine hK.out _ _ ?_ (fun hHeld => ?_)
          · (try dsimp only); (try go_keep)
          clear hK K
          (try simp only [Act.put, List.setIfInBounds_toArray, List.set_cons_zero, List.set_cons_succ])
          refine wpAnyH_ready (rs := [14]) (by kernel_rfl) (by simp) ?_
          refine AllReadyH.cons (o := op_FreeS_specl15All_9_14) rfl (fun K hK => ?_) AllReadyH.nil
          (refine step_storeRow rfl 88 _ _ rfl gN #[.int .i64 x, .int .i64 y, .bool false] rfl rfl _ _ bN (by kernel_rfl) rfl (by simp [Value.oneCell']) ?_; intro wX bNX hgX; replace Bw := Bw.grown hgX hz (fun k hk => by injection hk with hk; subst hk; omega); obtain ⟨hcX, hfX, hzX⟩ := bk Bw)
          refine hK.out _ _ ?_ (fun hHeld => ?_)
          · (try dsimp only); (try go_keep)
          clear hK K
          (try simp only [Act.put, List.setIfInBounds_toArray, List.set_cons_zero, List.set_cons_succ])
          refine wpAnyH_done (by kernel_rfl) ?_ _
          clear hcX hfX
          obtain ⟨V, hV⟩ : ∃ V, V = wX := ⟨_, rfl⟩
          rw [← hV] at Bw bNX ⊢
          clear hV hz
          have own4 := own3.below Bw
          have oC4 := oC3.below Bw
          have B4 := B3.tr Bw
          have bX4 := bX3.bl Bw
          clear own3 oC3 B3 bX3 q1 q2 Bw hgX hHeld
          have z_0 := bX4.c1
          have d_0 := bNX.cell 0
          have d_1 := bNX.cell 1
          have d_2 := bNX.cell 2
          simp only [List.getElem?_toArray, List.getElem?_cons_zero, List.getElem?_cons_succ] at d_0 d_1 d_2
          have hNl := bNX.lt
          have hXl := bX4.lt
          have Bw : Below V.heap.size V V.drew := (Below.refl _ _).drew
          have hz : V.heap.size ≤ V.drew.heap.size := by simp
          by_cases h7 : x < 7
          · obtain ⟨hi1, hi2⟩ := hin h7
            have Hd : Hid (domOk ((x : Int), (y : Int), false) = true) := Lib.hid (by rw [Hok2.out, decide_eq_true h7])
            have CH : ∀ w', Below w.heap.size w w' → Calls Try.prog 129 #[.agg #[.slice A rows.length c], .agg #[.int .i64 (((x + 1) : Nat) : Int), .int .i64 ((y : Nat) : Int)]] w' (Ret (.bool (s.testBit (8 * y + (x + 1)))) w') := fun w' hb => by
              have := l03HasS_yes _ rows (x + 1) y w' (h.below RE.stays hb) Hok hi1 hi2
              rw [← Hse.out] at this; exact this
            have hf := HF.out
            rw [decide_eq_true h7, Bool.true_and] at hf
            obtain ⟨q, hq⟩ : ∃ q, q = s.testBit (8 * y + (x + 1)) := ⟨_, rfl⟩
            rw [← hq] at hf CH
            have Hf := Lib.hid hf; clear hf hq h7 hi1 hi2
            go_wp2_with fail
            refine wp_region_held_drew (S := (fun w' => w'.cell? ⟨gN, 0, none⟩ = some (.int .i64 x) ∧ w'.cell? ⟨gN, 1, none⟩ = some (.int .i64 y) ∧ w'.cell? ⟨gN, 2, none⟩ = some (.bool false) ∧ w'.cell? ⟨w.heap.size, 0, none⟩ = some (.slice A rows.length c))) (by kernel_rfl) ?_ (fun hHeld => ?_)
            · (try dsimp only); (try go_keep)
            refine wpAnyH_take (i := 0) (oi := op_FreeS_specl15All_10_0) (v := ?_) rfl (by kernel_rfl) (by kernel_rfl) (by kernel_rfl) (fun _ _ _ h => h) (Or.inl ⟨by rfl, ?_⟩) (by assumption) ?_
            rotate_left 1
            · (intro wS hSw; (try dsimp only at hSw); dsimp only [op_FreeS_specl15All_10_0]; go_simp; (all_goals with_reducible rfl))
            simp only [op_FreeS_specl15All_10_0, Act.put, List.setIfInBounds_toArray, List.set_cons_zero, List.set_cons_succ]
            refine wpAnyH_ready (rs := [1]) (by kernel_rfl) (by simp) ?_
            refine AllReadyH.cons (o := op_FreeS_specl15All_10_1) rfl (fun K hK => ?_) AllReadyH.nil
            dsimp only [op_FreeS_specl15All_10_1]
            go_simp
            (first | (go_at_call 132; go_must (refine (domOkS_any x y false _).mono ?_; rintro e wX ⟨rfl, hbX⟩; rw [Hd.out];obtain ⟨hcX, hfX, hzX⟩ := bkn hbX V.heap.size hz; have hz := hzX; have Bw := Bw.tr hbX); (try go_wp2_with fail)) | (go_at_call 161; go_must (refine (secondS_eq x y false (((x + 1) : Nat) : Int) ((y : Nat) : Int) Hsec _).mono ?_; rintro e wX ⟨rfl, hbX⟩; obtain ⟨hcX, hfX, hzX⟩ := bkn hbX V.heap.size hz; have hz := hzX; have Bw := Bw.tr hbX); (try go_wp2_with fail)) | (go_at_call 129; go_must (refine (CH _ (B4.tr Bw)).mono ?_; rintro e wX ⟨rfl, hbX⟩; obtain ⟨hcX, hfX, hzX⟩ := bkn hbX V.heap.size hz; have hz := hzX; have Bw := Bw.tr hbX); (try go_wp2_with fail)))
            refine hK.out _ _ ?_ (fun hHeld => ?_)
            · (try dsimp only); (try go_keep)
            clear hK K
            (try simp only [Act.put, List.setIfInBounds_toArray, List.set_cons_zero, List.set_cons_succ])
            refine wpAnyH_take (i := 2) (oi := op_FreeS_specl15All_10_2) (v := ?_) rfl (by kernel_rfl) (by kernel_rfl) (by kernel_rfl) (fun _ _ _ h => h) (Or.inl ⟨by rfl, ?_⟩) (by assumption) ?_
            rotate_left 1
            · (intro wS hSw; (try dsimp only at hSw); dsimp only [op_FreeS_specl15All_10_2]; go_simp; (all_goals with_reducible rfl))
            simp only [op_FreeS_specl15All_10_2, Act.put, List.setIfInBounds_toArray, List.set_cons_zero, List.set_cons_succ]
            refine wpAnyH_take (i := 3) (oi := op_FreeS_specl15All_10_3) (v := ?_) rfl (by kernel_rfl) (by kernel_rfl) (by kernel_rfl) (fun _ _ _ h => h) (Or.inl ⟨by rfl, ?_⟩) (by assumption) ?_
            rotate_left 1
            · (intro wS hSw; (try dsimp only at hSw); dsimp only [op_FreeS_specl15All_10_3]; go_simp; (all_goals with_reducible rfl))
            simp only [op_FreeS_specl15All_10_3, Act.put, List.setIfInBounds_toArray, List.set_cons_zero, List.set_cons_succ]
            refine wpAnyH_take (i := 4) (oi := op_FreeS_specl15All_10_4) (v := ?_) rfl (by kernel_rfl) (by kernel_rfl) (by kernel_rfl) (fun _ _ _ h => h) (Or.inl ⟨by rfl, ?_⟩) (by assumption) ?_
            rotate_left 1
            · (intro wS hSw; (try dsimp only at hSw); dsimp only [op_FreeS_specl15All_10_4]; go_simp; (all_goals with_reducible rfl))
            simp only [op_FreeS_specl15All_10_4, Act.put, List.setIfInBounds_toArray, List.set_cons_zero, List.set_cons_succ]
            refine wpAnyH_ready (rs := [5]) (by kernel_rfl) (by simp) ?_
            refine AllReadyH.cons (o := op_FreeS_specl15All_10_5) rfl (fun K hK => ?_) AllReadyH.nil
            dsimp only [op_FreeS_specl15All_10_5]
            go_simp
            (first | (go_at_call 132; go_must (refine (domOkS_any x y false _).mono ?_; rintro e wX ⟨rfl, hbX⟩; rw [Hd.out];obtain ⟨hcX, hfX, hzX⟩ := bkn hbX V.heap.size hz; have hz := hzX; have Bw := Bw.tr hbX); (try go_wp2_with fail)) | (go_at_call 161; go_must (refine (secondS_eq x y false (((x + 1) : Nat) : Int) ((y : Nat) : Int) Hsec _).mono ?_; rintro e wX ⟨rfl, hbX⟩; obtain ⟨hcX, hfX, hzX⟩ := bkn hbX V.heap.size hz; have hz := hzX; have Bw := Bw.tr hbX); (try go_wp2_with fail)) | (go_at_call 129; go_must (refine (CH _ (B4.tr Bw)).mono ?_; rintro e wX ⟨rfl, hbX⟩; obtain ⟨hcX, hfX, hzX⟩ := bkn hbX V.heap.size hz; have hz := hzX; have Bw := Bw.tr hbX); (try go_wp2_with fail)))
            refine hK.out _ _ ?_ (fun hHeld => ?_)
            · (try dsimp only); (try go_keep)
            clear hK K
            (try simp only [Act.put, List.setIfInBounds_toArray, List.set_cons_zero, List.set_cons_succ])
            refine wpAnyH_ready (rs := [6]) (by kernel_rfl) (by simp) ?_
            refine AllReadyH.cons (o := op_FreeS_specl15All_10_6) rfl (fun K hK => ?_) AllReadyH.nil
            dsimp only [op_FreeS_specl15All_10_6]
            go_simp
            (first | (go_at_call 132; go_must (refine (domOkS_any x y false _).mono ?_; rintro e wX ⟨rfl, hbX⟩; rw [Hd.out];obtain ⟨hcX, hfX, hzX⟩ := bkn hbX V.heap.size hz; have hz := hzX; have Bw := Bw.tr hbX); (try go_wp2_with fail)) | (go_at_call 161; go_must (refine (secondS_eq x y false (((x + 1) : Nat) : Int) ((y : Nat) : Int) Hsec _).mono ?_; rintro e wX ⟨rfl, hbX⟩; obtain ⟨hcX, hfX, hzX⟩ := bkn hbX V.heap.size hz; have hz := hzX; have Bw := Bw.tr hbX); (try go_wp2_with fail)) | (go_at_call 129; go_must (refine (CH _ (B4.tr Bw)).mono ?_; rintro e wX ⟨rfl, hbX⟩; obtain ⟨hcX, hfX, hzX⟩ := bkn hbX V.heap.size hz; have hz := hzX; have Bw := Bw.tr hbX); (try go_wp2_with fail)))
            refine hK.out _ _ ?_ (fun hHeld => ?_)
            · (try dsimp only); (try go_keep)
            clear hK K
            (try simp only [Act.put, List.setIfInBounds_toArray, List.set_cons_zero, List.set_cons_succ])
            refine wpAnyH_take (i := 7) (oi := op_FreeS_specl15All_10_7) (v := ?_) rfl (by kernel_rfl) (by kernel_rfl) (by kernel_rfl) (fun _ _ _ h => h) (Or.inl ⟨by rfl, ?_⟩) (by assumption) ?_
            rotate_left 1
            · (intro wS hSw; (try dsimp only at hSw); dsimp only [op_FreeS_specl15All_10_7]; go_simp; (all_goals with_reducible rfl))
            simp only [op_FreeS_specl15All_10_7, Act.put, List.setIfInBounds_toArray, List.set_cons_zero, List.set_cons_succ]
            refine wpAnyH_done (by kernel_rfl) ?_ _
            clear hcX hfX
            obtain ⟨U, hU⟩ : ∃ U, U = wX := ⟨_, rfl⟩
            rw [← hU] at Bw ⊢
            clear hU hz
            have own5 := own4.below Bw
            have oC5 := oC4.below Bw
            have B5 := B4.tr Bw
            have bX5 := bX4.bl Bw
            have bN5 := bNX.bl Bw
            clear own4 oC4 B4 bX4 bNX Bw z_0 d_0 d_1 d_2 hHeld
            cases q
            · have Hp := Hf.out
              go_wp2
              go_roundw
              case rel => exact ⟨_, o2, _, _, rfl, rfl, own5, oC5, B5, bX5, Lib.hid (.inr (.inl ⟨rfl, Hn1.out Hf.out⟩))⟩
              case measure => simp [intOf]
            · skip
              have d_0 := bN5.cell 0
              have d_1 := bN5.cell 1
              have d_2 := bN5.cell 2
              simp only [List.getElem?_toArray, List.getElem?_cons_zero, List.getElem?_cons_succ] at d_0 d_1 d_2
              have hDl := bN5.lt
              have H8 : Hid ((o2.length + 1) * 24 ≤ 140737488355328) := Lib.hid (by omega)
              have HM : Hid (o2.length + 1 ≤ maxLen) := Lib.hid (by unfold maxLen; omega)
              go_wp2_with (at_builtin; go_must (refine wpList_app1 (enc := eDom) rowDom lenDom oneDom B5 own5 (((x : Int), (y : Int), false) : Dm) H8.out HM.out rfl _ _ rfl rfl rfl ?_); intro v8 w8 own8 hb8 hg8 hd8; obtain ⟨A8, c8, rfl, hc8, hm8⟩ := own8.form; have bX8 := (bX5.alloc (.cells (eDom ((x : Int), (y : Int), false)).toArray 88)).grown hg8 (fun e => (own5.apart bX5 (by decide)) e.symm); have oC8 := (oC5.alloc (.cells (eDom ((x : Int), (y : Int), false)).toArray 88)).keptF (own5.alloc (.cells (eDom ((x : Int), (y : Int), false)).toArray 88)) (by decide) hg8)
              go_roundw
              case rel => exact ⟨_, _, _, _, rfl, by simp, own8, oC8, hb8, bX8, Lib.hid (.inr (.inl ⟨rfl, Hn2.out Hf.out⟩))⟩
              case measure => simp [intOf]
          · have Hd : Hid (domOk ((x : Int), (y : Int), false) = false) := Lib.hid (by rw [Hok2.out, decide_eq_false h7])
            have Hf : Hid (fitsD s (domRt i) = false) := Lib.hid (by rw [HF.out, decide_eq_false h7]; rfl)
            clear h7 hin
            go_wp2_with fail
            refine wp_region_held_drew (S := (fun w' => w'.cell? ⟨gN, 0, none⟩ = some (.int .i64 x) ∧ w'.cell? ⟨gN, 1, none⟩ = some (.int .i64 y) ∧ w'.cell? ⟨gN, 2, none⟩ = some (.bool false) ∧ w'.cell? ⟨w.heap.size, 0, none⟩ = some (.slice A rows.length c))) (by kernel_rfl) ?_ (fun hHeld => ?_)
            · (try dsimp only); (try go_keep)
            refine wpAnyH_take (i := 0) (oi := op_FreeS_specl15All_10_0) (v := ?_) rfl (by kernel_rfl) (by kernel_rfl) (by kernel_rfl) (fun _ _ _ h => h) (Or.inl ⟨by rfl, ?_⟩) (by assumption) ?_
            rotate_left 1
            · (intro wS hSw; (try dsimp only at hSw); dsimp only [op_FreeS_specl15All_10_0]; go_simp; (all_goals with_reducible rfl))
            simp only [op_FreeS_specl15All_10_0, Act.put, List.setIfInBounds_toArray, List.set_cons_zero, List.set_cons_succ]
            refine wpAnyH_ready (rs := [1]) (by kernel_rfl) (by simp) ?_
            refine AllReadyH.cons (o := op_FreeS_specl15All_10_1) rfl (fun K hK => ?_) AllReadyH.nil
            dsimp only [op_FreeS_specl15All_10_1]
            go_simp
            (first | (go_at_call 132; go_must (refine (domOkS_any x y false _).mono ?_; rintro e wX ⟨rfl, hbX⟩; rw [Hd.out];obtain ⟨hcX, hfX, hzX⟩ := bkn hbX V.heap.size hz; have hz := hzX; have Bw := Bw.tr hbX); (try go_wp2_with fail)))
            refine hK.out _ _ ?_ (fun hHeld => ?_)
            · (try dsimp only); (try go_keep)
            clear hK K
            (try simp only [Act.put, List.setIfInBounds_toArray, List.set_cons_zero, List.set_cons_succ])
            refine wpAnyH_take (i := 2) (oi := op_FreeS_specl15All_10_2) (v := ?_) rfl (by kernel_rfl) (by kernel_rfl) (by kernel_rfl) (fun _ _ _ h => h) (Or.inl ⟨by rfl, ?_⟩) (by assumption) ?_
            rotate_left 1
            · (intro wS hSw; (try dsimp only at hSw); dsimp only [op_FreeS_specl15All_10_2]; go_simp; (all_goals with_reducible rfl))
            simp only [op_FreeS_specl15All_10_2, Act.put, List.setIfInBounds_toArray, List.set_cons_zero, List.set_cons_succ]
            refine wpAnyH_take (i := 3) (oi := op_FreeS_specl15All_10_3) (v := undef) rfl (by kernel_rfl) (by kernel_rfl) (by kernel_rfl) (fun _ _ _ h => h) (Or.inr ⟨by rfl, rfl⟩) (by assumption) ?_
            simp only [op_FreeS_specl15All_10_3, Act.put, List.setIfInBounds_toArray, List.set_cons_zero, List.set_cons_succ]
            refine wpAnyH_take (i := 4) (oi := op_FreeS_specl15All_10_4) (v := undef) rfl (by kernel_rfl) (by kernel_rfl) (by kernel_rfl) (fun _ _ _ h => h) (Or.inr ⟨by rfl, rfl⟩) (by assumption) ?_
            simp only [op_FreeS_specl15All_10_4, Act.put, List.setIfInBounds_toArray, List.set_cons_zero, List.set_cons_succ]
            refine wpAnyH_take (i := 5) (oi := op_FreeS_specl15All_10_5) (v := undef) rfl (by kernel_rfl) (by kernel_rfl) (by kernel_rfl) (fun _ _ _ h => h) (Or.inr ⟨by rfl, rfl⟩) (by assumption) ?_
            simp only [op_FreeS_specl15All_10_5, Act.put, List.setIfInBounds_toArray, List.set_cons_zero, List.set_cons_succ]
            refine wpAnyH_take (i := 6) (oi := op_FreeS_specl15All_10_6) (v := undef) rfl (by kernel_rfl) (by kernel_rfl) (by kernel_rfl) (fun _ _ _ h => h) (Or.inr ⟨by rfl, rfl⟩) (by assumption) ?_
            simp only [op_FreeS_specl15All_10_6, Act.put, List.setIfInBounds_toArray, List.set_cons_zero, List.set_cons_succ]
            refine wpAnyH_take (i := 7) (oi := op_FreeS_specl15All_10_7) (v := ?_) rfl (by kernel_rfl) (by kernel_rfl) (by kernel_rfl) (fun _ _ _ h => h) (Or.inl ⟨by rfl, ?_⟩) (by assumption) ?_
            rotate_left 1
            · (intro wS hSw; (try dsimp only at hSw); dsimp only [op_FreeS_specl15All_10_7]; go_simp; (all_goals with_reducible rfl))
            simp only [op_FreeS_specl15All_10_7, Act.put, List.setIfInBounds_toArray, List.set_cons_zero, List.set_cons_succ]
            refine wpAnyH_done (by kernel_rfl) ?_ _
            go_wp2
            go_roundw
            case rel => exact ⟨_, o2, _, _, rfl, rfl, own4.below Bw, oC4.below Bw, B4.tr Bw, bX4.bl Bw, Lib.hid (.inr (.inl ⟨rfl, Hn1.out Hf.out⟩))⟩
            case measure => simp [intOf]
        · have hlo : o2.length ≤ 129 := by rw [ho, List.length_append]; have := List.length_filter_le (fitsD s) [domRt i]; simp only [List.length_cons, List.length_nil] at this; omega
          have htw : out ++ (twoD i).filter (fitsD s) = o2 ++ [domDn i].filter (fitsD s) := by rw [ho, List.append_assoc, ← List.filter_append]; rfl
          have Hn1 : Hid (fitsD s (domDn i) = false → o2 = out ++ (twoD i).filter (fitsD s)) := Lib.hid fun q => by rw [htw, List.filter_cons, q]; simp
          have Hn2 : Hid (fitsD s (domDn i) = true → o2 ++ [((x : Int), (y : Int), true)] = out ++ (twoD i).filter (fitsD s)) := Lib.hid fun q => by rw [htw, List.filter_cons, q, ← Hdn.out]; simp
          have HF : Hid (fitsD s (domDn i) = (decide (y < 7) && s.testBit (8 * (y + 1) + x))) := Lib.hid (by rw [Hfd.out, show i + 8 = 8 * (y + 1) + x by have := Hi.out; omega])
          have hok := domDn_ok hx8 hy8
          have hsec := sec_dn (x := x) (y := y) hy8
          have hin : y < 7 → x < 8 ∧ y + 1 < 8 := fun q => ⟨hx8, by omega⟩
          clear ho HJ htw
          obtain ⟨W, hW⟩ : ∃ W, W = wr := ⟨_, rfl⟩
          rw [← hW] at own3 oC3 B3 bX3 q1 q2 hgC3 ⊢
          clear hW
          have Bw : Below W.heap.size W W.drew := (Below.refl _ _).drew
          have hz : W.heap.size ≤ W.drew.heap.size := by simp
          have Hok2 := Lib.hid hok; have Hsec := Lib.hid hsec; clear hok hsec
          go_wp2_with fail
          refine wp_region_held_drew (S := (fun w' => w'.cell? ⟨gC, k * 2, none⟩ = some (.int .i64 x) ∧ w'.cell? ⟨gC, k * 2 + 1, none⟩ = some (.int .i64 y))) (by kernel_rfl) ?_ (fun hHeld => ?_)
          · (try dsimp only); (try go_keep)
          refine wpAnyH_take (i := 0) (oi := op_FreeS_specl15All_9_0) (v := ?_) rfl (by kernel_rfl) (by kernel_rfl) (by kernel_rfl) (fun _ _ _ h => h) (Or.inl ⟨by rfl, ?_⟩) (by assumption) ?_
          rotate_left 1
          · (intro wS hSw; (try dsimp only at hSw); dsimp only [op_FreeS_specl15All_9_0]; go_simp; (all_goals with_reducible rfl))
          simp only [op_FreeS_specl15All_9_0, Act.put, List.setIfInBounds_toArray, List.set_cons_zero, List.set_cons_succ]
          refine wpAnyH_take (i := 1) (oi := op_FreeS_specl15All_9_1) (v := ?_) rfl (by kernel_rfl) (by kernel_rfl) (by kernel_rfl) (fun _ _ _ h => h) (Or.inl ⟨by rfl, ?_⟩) (by assumption) ?_
          rotate_left 1
          · (intro wS hSw; (try dsimp only at hSw); dsimp only [op_FreeS_specl15All_9_1]; go_simp; (all_goals with_reducible rfl))
          simp only [op_FreeS_specl15All_9_1, Act.put, List.setIfInBounds_toArray, List.set_cons_zero, List.set_cons_succ]
          refine wpAnyH_take (i := 2) (oi := op_FreeS_specl15All_9_2) (v := ?_) rfl (by kernel_rfl) (by kernel_rfl) (by kernel_rfl) (fun _ _ _ h => h) (Or.inl ⟨by rfl, ?_⟩) (by assumption) ?_
          rotate_left 1
          · (intro wS hSw; (try dsimp only at hSw); dsimp only [op_FreeS_specl15All_9_2]; go_simp; (all_goals with_reducible rfl))
          simp only [op_FreeS_specl15All_9_2, Act.put, List.setIfInBounds_toArray, List.set_cons_zero, List.set_cons_succ]
          refine wpAnyH_take (i := 3) (oi := op_FreeS_specl15All_9_3) (v := ?_) rfl (by kernel_rfl) (by kernel_rfl) (by kernel_rfl) (fun _ _ _ h => h) (Or.inl ⟨by rfl, ?_⟩) (by assumption) ?_
          rotate_left 1
          · (intro wS hSw; (try dsimp only at hSw); dsimp only [op_FreeS_specl15All_9_3]; go_simp; (all_goals with_reducible rfl))
          simp only [op_FreeS_specl15All_9_3, Act.put, List.setIfInBounds_toArray, List.set_cons_zero, List.set_cons_succ]
          refine wpAnyH_take (i := 4) (oi := op_FreeS_specl15All_9_4) (v := ?_) rfl (by kernel_rfl) (by kernel_rfl) (by kernel_rfl) (fun _ _ _ h => h) (Or.inl ⟨by rfl, ?_⟩) (by assumption) ?_
          rotate_left 1
          · (intro wS hSw; (try dsimp only at hSw); dsimp only [op_FreeS_specl15All_9_4]; go_simp; (all_goals with_reducible rfl))
          simp only [op_FreeS_specl15All_9_4, Act.put, List.setIfInBounds_toArray, List.set_cons_zero, List.set_cons_succ]
          refine wpAnyH_take (i := 5) (oi := op_FreeS_specl15All_9_5) (v := ?_) rfl (by kernel_rfl) (by kernel_rfl) (by kernel_rfl) (fun _ _ _ h => h) (Or.inl ⟨by rfl, ?_⟩) (by assumption) ?_
          rotate_left 1
          · (intro wS hSw; (try dsimp only at hSw); dsimp only [op_FreeS_specl15All_9_5]; go_simp; (all_goals with_reducible rfl))
          simp only [op_FreeS_specl15All_9_5, Act.put, List.setIfInBounds_toArray, List.set_cons_zero, List.set_cons_succ]
          refine wpAnyH_take (i := 6) (oi := op_FreeS_specl15All_9_6) (v := ?_) rfl (by kernel_rfl) (by kernel_rfl) (by kernel_rfl) (fun _ _ _ h => h) (Or.inl ⟨by rfl, ?_⟩) (by assumption) ?_
          rotate_left 1
          · (intro wS hSw; (try dsimp only at hSw); dsimp only [op_FreeS_specl15All_9_6]; go_simp; (all_goals with_reducible rfl))
          simp only [op_FreeS_specl15All_9_6, Act.put, List.setIfInBounds_toArray, List.set_cons_zero, List.set_cons_succ]
          refine wpAnyH_take (i := 7) (oi := op_FreeS_specl15All_9_7) (v := ?_) rfl (by kernel_rfl) (by kernel_rfl) (by kernel_rfl) (fun _ _ _ h => h) (Or.inl ⟨by rfl, ?_⟩) (by assumption) ?_
          rotate_left 1
          · (intro wS hSw; (try dsimp only at hSw); dsimp only [op_FreeS_specl15All_9_7]; go_simp; (all_goals with_reducible rfl))
          simp only [op_FreeS_specl15All_9_7, Act.put, List.setIfInBounds_toArray, List.set_cons_zero, List.set_cons_succ]
          refine wpAnyH_take (i := 8) (oi := op_FreeS_specl15All_9_8) (v := ?_) rfl (by kernel_rfl) (by kernel_rfl) (by kernel_rfl) (fun _ _ _ h => h) (Or.inl ⟨by rfl, ?_⟩) (by assumption) ?_
          rotate_left 1
          · (intro wS hSw; (try dsimp only at hSw); dsimp only [op_FreeS_specl15All_9_8]; go_simp; (all_goals with_reducible rfl))
          simp only [op_FreeS_specl15All_9_8, Act.put, List.setIfInBounds_toArray, List.set_cons_zero, List.set_cons_succ]
          refine wpAnyH_take (i := 9) (oi := op_FreeS_specl15All_9_9) (v := ?_) rfl (by kernel_rfl) (by kernel_rfl) (by kernel_rfl) (fun _ _ _ h => h) (Or.inl ⟨by rfl, ?_⟩) (by assumption) ?_
          rotate_left 1
          · (intro wS hSw; (try dsimp only at hSw); dsimp only [op_FreeS_specl15All_9_9]; go_simp; (all_goals with_reducible rfl))
          simp only [op_FreeS_specl15All_9_9, Act.put, List.setIfInBounds_toArray, List.set_cons_zero, List.set_cons_succ]
          refine wpAnyH_take (i := 10) (oi := op_FreeS_specl15All_9_10) (v := ?_) rfl (by kernel_rfl) (by kernel_rfl) (by kernel_rfl) (fun _ _ _ h => h) (Or.inl ⟨by rfl, ?_⟩) (by assumption) ?_
          rotate_left 1
          · (intro wS hSw; (try dsimp only at hSw); dsimp only [op_FreeS_specl15All_9_10]; go_simp; (all_goals with_reducible rfl))
          simp only [op_FreeS_specl15All_9_10, Act.put, List.setIfInBounds_toArray, List.set_cons_zero, List.set_cons_succ]
          refine wpAnyH_take (i := 11) (oi := op_FreeS_specl15All_9_11) (v := ?_) rfl (by kernel_rfl) (by kernel_rfl) (by kernel_rfl) (fun _ _ _ h => h) (Or.inl ⟨by rfl, ?_⟩) (by assumption) ?_
          rotate_left 1
          · (intro wS hSw; (try dsimp only at hSw); dsimp only [op_FreeS_specl15All_9_11]; go_simp; (all_goals with_reducible rfl))
          simp only [op_FreeS_specl15All_9_11, Act.put, List.setIfInBounds_toArray, List.set_cons_zero, List.set_cons_succ]
          refine wpAnyH_take (i := 12) (oi := op_FreeS_specl15All_9_12) (v := ?_) rfl (by kernel_rfl) (by kernel_rfl) (by kernel_rfl) (fun _ _ _ h => h) (Or.inl ⟨by rfl, ?_⟩) (by assumption) ?_
          rotate_left 1
          · (intro wS hSw; (try dsimp only at hSw); dsimp only [op_FreeS_specl15All_9_12]; go_simp; (all_goals with_reducible rfl))
          simp only [op_FreeS_specl15All_9_12, Act.put, List.setIfInBounds_toArray, List.set_cons_zero, List.set_cons_succ]
          refine wpAnyH_ready (rs := [13]) (by kernel_rfl) (by simp) ?_
          refine AllReadyH.cons (o := op_FreeS_specl15All_9_13) rfl (fun K hK => ?_) AllReadyH.nil
          (refine step_alloc rfl 88 _ rfl Try.zeroValue88 ?_; intro gN wX bN hbX hgN1 hgN2 hgN3; have hgN : W.heap.size ≤ gN := (by omega); obtain ⟨hcX, hfX, hzX⟩ := bkn hbX W.heap.size hz; replace hz := hzX; replace Bw := Bw.tr hbX)
          refine hK.out _ _ ?_ (fun hHeld => ?_)
          · (try dsimp only); (try go_keep)
          clear hK K
          (try simp only [Act.put, List.setIfInBounds_toArray, List.set_cons_zero, List.set_cons_succ])
          refine wpAnyH_ready (rs := [14]) (by kernel_rfl) (by simp) ?_
          refine AllReadyH.cons (o := op_FreeS_specl15All_9_14) rfl (fun K hK => ?_) AllReadyH.nil
          (refine step_storeRow rfl 88 _ _ rfl gN #[.int .i64 x, .int .i64 y, .bool true] rfl rfl _ _ bN (by kernel_rfl) rfl (by simp [Value.oneCell']) ?_; intro wX bNX hgX; replace Bw := Bw.grown hgX hz (fun k hk => by injection hk with hk; subst hk; omega); obtain ⟨hcX, hfX, hzX⟩ := bk Bw)
          refine hK.out _ _ ?_ (fun hHeld => ?_)
          · (try dsimp only); (try go_keep)
          clear hK K
          (try simp only [Act.put, List.setIfInBounds_toArray, List.set_cons_zero, List.set_cons_succ])
          refine wpAnyH_done (by kernel_rfl) ?_ _
          clear hcX hfX
          obtain ⟨V, hV⟩ : ∃ V, V = wX := ⟨_, rfl⟩
          rw [← hV] at Bw bNX ⊢
          clear hV hz
          have own4 := own3.below Bw
          have oC4 := oC3.below Bw
          have B4 := B3.tr Bw
          have bX4 := bX3.bl Bw
          clear own3 oC3 B3 bX3 q1 q2 Bw hgX hHeld
          have z_0 := bX4.c1
          have d_0 := bNX.cell 0
          have d_1 := bNX.cell 1
          have d_2 := bNX.cell 2
          simp only [List.getElem?_toArray, List.getElem?_cons_zero, List.getElem?_cons_succ] at d_0 d_1 d_2
          have hNl := bNX.lt
          have hXl := bX4.lt
          have Bw : Below V.heap.size V V.drew := (Below.refl _ _).drew
          have hz : V.heap.size ≤ V.drew.heap.size := by simp
          by_cases h7 : y < 7
          · obtain ⟨hi1, hi2⟩ := hin h7
            have Hd : Hid (domOk ((x : Int), (y : Int), true) = true) := Lib.hid (by rw [Hok2.out, decide_eq_true h7])
            have CH : ∀ w', Below w.heap.size w w' → Calls Try.prog 129 #[.agg #[.slice A rows.length c], .agg #[.int .i64 ((x : Nat) : Int), .int .i64 (((y + 1) : Nat) : Int)]] w' (Ret (.bool (s.testBit (8 * (y + 1) + x))) w') := fun w' hb => by
              have := l03HasS_yes _ rows x (y + 1) w' (h.below RE.stays hb) Hok hi1 hi2
              rw [← Hse.out] at this; exact this
            have hf := HF.out
            rw [decide_eq_true h7, Bool.true_and] at hf
            obtain ⟨q, hq⟩ : ∃ q, q = s.testBit (8 * (y + 1) + x) := ⟨_, rfl⟩
            rw [← hq] at hf CH
            have Hf := Lib.hid hf; clear hf hq h7 hi1 hi2
            go_wp2_with fail
            refine wp_region_held_drew (S := (fun w' => w'.cell? ⟨gN, 0, none⟩ = some (.int .i64 x) ∧ w'.cell? ⟨gN, 1, none⟩ = some (.int .i64 y) ∧ w'.cell? ⟨gN, 2, none⟩ = some (.bool true) ∧ w'.cell? ⟨w.heap.size, 0, none⟩ = some (.slice A rows.length c))) (by kernel_rfl) ?_ (fun hHeld => ?_)
            · (try dsimp only); (try go_keep)
            refine wpAnyH_take (i := 0) (oi := op_FreeS_specl15All_10_0) (v := ?_) rfl (by kernel_rfl) (by kernel_rfl) (by kernel_rfl) (fun _ _ _ h => h) (Or.inl ⟨by rfl, ?_⟩) (by assumption) ?_
            rotate_left 1
            · (intro wS hSw; (try dsimp only at hSw); dsimp only [op_FreeS_specl15All_10_0]; go_simp; (all_goals with_reducible rfl))
            simp only [op_FreeS_specl15All_10_0, Act.put, List.setIfInBounds_toArray, List.set_cons_zero, List.set_cons_succ]
            refine wpAnyH_ready (rs := [1]) (by kernel_rfl) (by simp) ?_
            refine AllReadyH.cons (o := op_FreeS_specl15All_10_1) rfl (fun K hK => ?_) AllReadyH.nil
            dsimp only [op_FreeS_specl15All_10_1]
            go_simp
            (first | (go_at_call 132; go_must (refine (domOkS_any x y true _).mono ?_; rintro e wX ⟨rfl, hbX⟩; rw [Hd.out];obtain ⟨hcX, hfX, hzX⟩ := bkn hbX V.heap.size hz; have hz := hzX; have Bw := Bw.tr hbX); (try go_wp2_with fail)) | (go_at_call 161; go_must (refine (secondS_eq x y true ((x : Nat) : Int) (((y + 1) : Nat) : Int) Hsec _).mono ?_; rintro e wX ⟨rfl, hbX⟩; obtain ⟨hcX, hfX, hzX⟩ := bkn hbX V.heap.size hz; have hz := hzX; have Bw := Bw.tr hbX); (try go_wp2_with fail)) | (go_at_call 129; go_must (refine (CH _ (B4.tr Bw)).mono ?_; rintro e wX ⟨rfl, hbX⟩; obtain ⟨hcX, hfX, hzX⟩ := bkn hbX V.heap.size hz; have hz := hzX; have Bw := Bw.tr hbX); (try go_wp2_with fail)))
            refine hK.out _ _ ?_ (fun hHeld => ?_)
            · (try dsimp only); (try go_keep)
            clear hK K
            (try simp only [Act.put, List.setIfInBounds_toArray, List.set_cons_zero, List.set_cons_succ])
            refine wpAnyH_take (i := 2) (oi := op_FreeS_specl15All_10_2) (v := ?_) rfl (by kernel_rfl) (by kernel_rfl) (by kernel_rfl) (fun _ _ _ h => h) (Or.inl ⟨by rfl, ?_⟩) (by assumption) ?_
            rotate_left 1
            · (intro wS hSw; (try dsimp only at hSw); dsimp only [op_FreeS_specl15All_10_2]; go_simp; (all_goals with_reducible rfl))
            simp only [op_FreeS_specl15All_10_2, Act.put, List.setIfInBounds_toArray, List.set_cons_zero, List.set_cons_succ]
            refine wpAnyH_take (i := 3) (oi := op_FreeS_specl15All_10_3) (v := ?_) rfl (by kernel_rfl) (by kernel_rfl) (by kernel_rfl) (fun _ _ _ h => h) (Or.inl ⟨by rfl, ?_⟩) (by assumption) ?_
            rotate_left 1
            · (intro wS hSw; (try dsimp only at hSw); dsimp only [op_FreeS_specl15All_10_3]; go_simp; (all_goals with_reducible rfl))
            simp only [op_FreeS_specl15All_10_3, Act.put, List.setIfInBounds_toArray, List.set_cons_zero, List.set_cons_succ]
            refine wpAnyH_take (i := 4) (oi := op_FreeS_specl15All_10_4) (v := ?_) rfl (by kernel_rfl) (by kernel_rfl) (by kernel_rfl) (fun _ _ _ h => h) (Or.inl ⟨by rfl, ?_⟩) (by assumption) ?_
            rotate_left 1
            · (intro wS hSw; (try dsimp only at hSw); dsimp only [op_FreeS_specl15All_10_4]; go_simp; (all_goals with_reducible rfl))
            simp only [op_FreeS_specl15All_10_4, Act.put, List.setIfInBounds_toArray, List.set_cons_zero, List.set_cons_succ]
            refine wpAnyH_ready (rs := [5]) (by kernel_rfl) (by simp) ?_
            refine AllReadyH.cons (o := op_FreeS_specl15All_10_5) rfl (fun K hK => ?_) AllReadyH.nil
            dsimp only [op_FreeS_specl15All_10_5]
            go_simp
            (first | (go_at_call 132; go_must (refine (domOkS_any x y true _).mono ?_; rintro e wX ⟨rfl, hbX⟩; rw [Hd.out];obtain ⟨hcX, hfX, hzX⟩ := bkn hbX V.heap.size hz; have hz := hzX; have Bw := Bw.tr hbX); (try go_wp2_with fail)) | (go_at_call 161; go_must (refine (secondS_eq x y true ((x : Nat) : Int) (((y + 1) : Nat) : Int) Hsec _).mono ?_; rintro e wX ⟨rfl, hbX⟩; obtain ⟨hcX, hfX, hzX⟩ := bkn hbX V.heap.size hz; have hz := hzX; have Bw := Bw.tr hbX); (try go_wp2_with fail)) | (go_at_call 129; go_must (refine (CH _ (B4.tr Bw)).mono ?_; rintro e wX ⟨rfl, hbX⟩; obtain ⟨hcX, hfX, hzX⟩ := bkn hbX V.heap.size hz; have hz := hzX; have Bw := Bw.tr hbX); (try go_wp2_with fail)))
            refine hK.out _ _ ?_ (fun hHeld => ?_)
            · (try dsimp only); (try go_keep)
            clear hK K
            (try simp only [Act.put, List.setIfInBounds_toArray, List.set_cons_zero, List.set_cons_succ])
            refine wpAnyH_ready (rs := [6]) (by kernel_rfl) (by simp) ?_
            refine AllReadyH.cons (o := op_FreeS_specl15All_10_6) rfl (fun K hK => ?_) AllReadyH.nil
            dsimp only [op_FreeS_specl15All_10_6]
            go_simp
            (first | (go_at_call 132; go_must (refine (domOkS_any x y true _).mono ?_; rintro e wX ⟨rfl, hbX⟩; rw [Hd.out];obtain ⟨hcX, hfX, hzX⟩ := bkn hbX V.heap.size hz; have hz := hzX; have Bw := Bw.tr hbX); (try go_wp2_with fail)) | (go_at_call 161; go_must (refine (secondS_eq x y true ((x : Nat) : Int) (((y + 1) : Nat) : Int) Hsec _).mono ?_; rintro e wX ⟨rfl, hbX⟩; obtain ⟨hcX, hfX, hzX⟩ := bkn hbX V.heap.size hz; have hz := hzX; have Bw := Bw.tr hbX); (try go_wp2_with fail)) | (go_at_call 129; go_must (refine (CH _ (B4.tr Bw)).mono ?_; rintro e wX ⟨rfl, hbX⟩; obtain ⟨hcX, hfX, hzX⟩ := bkn hbX V.heap.size hz; have hz := hzX; have Bw := Bw.tr hbX); (try go_wp2_with fail)))
            refine hK.out _ _ ?_ (fun hHeld => ?_)
            · (try dsimp only); (try go_keep)
            clear hK K
            (try simp only [Act.put, List.setIfInBounds_toArray, List.set_cons_zero, List.set_cons_succ])
            refine wpAnyH_take (i := 7) (oi := op_FreeS_specl15All_10_7) (v := ?_) rfl (by kernel_rfl) (by kernel_rfl) (by kernel_rfl) (fun _ _ _ h => h) (Or.inl ⟨by rfl, ?_⟩) (by assumption) ?_
            rotate_left 1
            · (intro wS hSw; (try dsimp only at hSw); dsimp only [op_FreeS_specl15All_10_7]; go_simp; (all_goals with_reducible rfl))
            simp only [op_FreeS_specl15All_10_7, Act.put, List.setIfInBounds_toArray, List.set_cons_zero, List.set_cons_succ]
            refine wpAnyH_done (by kernel_rfl) ?_ _
            clear hcX hfX
            obtain ⟨U, hU⟩ : ∃ U, U = wX := ⟨_, rfl⟩
            rw [← hU] at Bw ⊢
            clear hU hz
            have own5 := own4.below Bw
            have oC5 := oC4.below Bw
            have B5 := B4.tr Bw
            have bX5 := bX4.bl Bw
            have bN5 := bNX.bl Bw
            clear own4 oC4 B4 bX4 bNX Bw z_0 d_0 d_1 d_2 hHeld
            cases q
            · have Hp := Hf.out
              go_wp2
              go_roundw
              case rel => exact ⟨_, o2, _, _, rfl, rfl, own5, oC5, B5, bX5, Lib.hid (.inr (.inr ⟨rfl, Hn1.out Hf.out⟩))⟩
              case measure => simp [intOf]
            · skip
              have d_0 := bN5.cell 0
              have d_1 := bN5.cell 1
              have d_2 := bN5.cell 2
              simp only [List.getElem?_toArray, List.getElem?_cons_zero, List.getElem?_cons_succ] at d_0 d_1 d_2
              have hDl := bN5.lt
              have H8 : Hid ((o2.length + 1) * 24 ≤ 140737488355328) := Lib.hid (by omega)
              have HM : Hid (o2.length + 1 ≤ maxLen) := Lib.hid (by unfold maxLen; omega)
              go_wp2_with (at_builtin; go_must (refine wpList_app1 (enc := eDom) rowDom lenDom oneDom B5 own5 (((x : Int), (y : Int), true) : Dm) H8.out HM.out rfl _ _ rfl rfl rfl ?_); intro v8 w8 own8 hb8 hg8 hd8; obtain ⟨A8, c8, rfl, hc8, hm8⟩ := own8.form; have bX8 := (bX5.alloc (.cells (eDom ((x : Int), (y : Int), true)).toArray 88)).grown hg8 (fun e => (own5.apart bX5 (by decide)) e.symm); have oC8 := (oC5.alloc (.cells (eDom ((x : Int), (y : Int), true)).toArray 88)).keptF (own5.alloc (.cells (eDom ((x : Int), (y : Int), true)).toArray 88)) (by decide) hg8)
              go_roundw
              case rel => exact ⟨_, _, _, _, rfl, by simp, own8, oC8, hb8, bX8, Lib.hid (.inr (.inr ⟨rfl, Hn2.out Hf.out⟩))⟩
              case measure => simp [intOf]
          · have Hd : Hid (domOk ((x : Int), (y : Int), true) = false) := Lib.hid (by rw [Hok2.out, decide_eq_false h7])
            have Hf : Hid (fitsD s (domDn i) = false) := Lib.hid (by rw [HF.out, decide_eq_false h7]; rfl)
            clear h7 hin
            go_wp2_with fail
            refine wp_region_held_drew (S := (fun w' => w'.cell? ⟨gN, 0, none⟩ = some (.int .i64 x) ∧ w'.cell? ⟨gN, 1, none⟩ = some (.int .i64 y) ∧ w'.cell? ⟨gN, 2, none⟩ = some (.bool true) ∧ w'.cell? ⟨w.heap.size, 0, none⟩ = some (.slice A rows.length c))) (by kernel_rfl) ?_ (fun hHeld => ?_)
            · (try dsimp only); (try go_keep)
            refine wpAnyH_take (i := 0) (oi := op_FreeS_specl15All_10_0) (v := ?_) rfl (by kernel_rfl) (by kernel_rfl) (by kernel_rfl) (fun _ _ _ h => h) (Or.inl ⟨by rfl, ?_⟩) (by assumption) ?_
            rotate_left 1
            · (intro wS hSw; (try dsimp only at hSw); dsimp only [op_FreeS_specl15All_10_0]; go_simp; (all_goals with_reducible rfl))
            simp only [op_FreeS_specl15All_10_0, Act.put, List.setIfInBounds_toArray, List.set_cons_zero, List.set_cons_succ]
            refine wpAnyH_ready (rs := [1]) (by kernel_rfl) (by simp) ?_
            refine AllReadyH.cons (o := op_FreeS_specl15All_10_1) rfl (fun K hK => ?_) AllReadyH.nil
            dsimp only [op_FreeS_specl15All_10_1]
            go_simp
            (first | (go_at_call 132; go_must (refine (domOkS_any x y true _).mono ?_; rintro e wX ⟨rfl, hbX⟩; rw [Hd.out];obtain ⟨hcX, hfX, hzX⟩ := bkn hbX V.heap.size hz; have hz := hzX; have Bw := Bw.tr hbX); (try go_wp2_with fail)))
            refine hK.out _ _ ?_ (fun hHeld => ?_)
            · (try dsimp only); (try go_keep)
            clear hK K
            (try simp only [Act.put, List.setIfInBounds_toArray, List.set_cons_zero, List.set_cons_succ])
            refine wpAnyH_take (i := 2) (oi := op_FreeS_specl15All_10_2) (v := ?_) rfl (by kernel_rfl) (by kernel_rfl) (by kernel_rfl) (fun _ _ _ h => h) (Or.inl ⟨by rfl, ?_⟩) (by assumption) ?_
            rotate_left 1
            · (intro wS hSw; (try dsimp only at hSw); dsimp only [op_FreeS_specl15All_10_2]; go_simp; (all_goals with_reducible rfl))
            simp only [op_FreeS_specl15All_10_2, Act.put, List.setIfInBounds_toArray, List.set_cons_zero, List.set_cons_succ]
            refine wpAnyH_take (i := 3) (oi := op_FreeS_specl15All_10_3) (v := undef) rfl (by kernel_rfl) (by kernel_rfl) (by kernel_rfl) (fun _ _ _ h => h) (Or.inr ⟨by rfl, rfl⟩) (by assumption) ?_
            simp only [op_FreeS_specl15All_10_3, Act.put, List.setIfInBounds_toArray, List.set_cons_zero, List.set_cons_succ]
            refine wpAnyH_take (i := 4) (oi := op_FreeS_specl15All_10_4) (v := undef) rfl (by kernel_rfl) (by kernel_rfl) (by kernel_rfl) (fun _ _ _ h => h) (Or.inr ⟨by rfl, rfl⟩) (by assumption) ?_
            simp only [op_FreeS_specl15All_10_4, Act.put, List.setIfInBounds_toArray, List.set_cons_zero, List.set_cons_succ]
            refine wpAnyH_take (i := 5) (oi := op_FreeS_specl15All_10_5) (v := undef) rfl (by kernel_rfl) (by kernel_rfl) (by kernel_rfl) (fun _ _ _ h => h) (Or.inr ⟨by rfl, rfl⟩) (by assumption) ?_
            simp only [op_FreeS_specl15All_10_5, Act.put, List.setIfInBounds_toArray, List.set_cons_zero, List.set_cons_succ]
            refine wpAnyH_take (i := 6) (oi := op_FreeS_specl15All_10_6) (v := undef) rfl (by kernel_rfl) (by kernel_rfl) (by kernel_rfl) (fun _ _ _ h => h) (Or.inr ⟨by rfl, rfl⟩) (by assumption) ?_
            simp only [op_FreeS_specl15All_10_6, Act.put, List.setIfInBounds_toArray, List.set_cons_zero, List.set_cons_succ]
            refine wpAnyH_take (i := 7) (oi := op_FreeS_specl15All_10_7) (v := ?_) rfl (by kernel_rfl) (by kernel_rfl) (by kernel_rfl) (fun _ _ _ h => h) (Or.inl ⟨by rfl, ?_⟩) (by assumption) ?_
            rotate_left 1
            · (intro wS hSw; (try dsimp only at hSw); dsimp only [op_FreeS_specl15All_10_7]; go_simp; (all_goals with_reducible rfl))
            simp only [op_FreeS_specl15All_10_7, Act.put, List.setIfInBounds_toArray, List.set_cons_zero, List.set_cons_succ]
            refine wpAnyH_done (by kernel_rfl) ?_ _
            go_wp2
            go_roundw
            case rel => exact ⟨_, o2, _, _, rfl, rfl, own4.below Bw, oC4.below Bw, B4.tr Bw, bX4.bl Bw, Lib.hid (.inr (.inr ⟨rfl, Hn1.out Hf.out⟩))⟩
            case measure => simp [intOf]
        · clear HJ q1 q2
          have Ho := Lib.hid ho; clear ho
          go_wp2
          go_roundw
          case rel => exact ⟨k + 1, o2, _, _, by omega, by go_num, rfl, own3, oC3, B3, bX3, by rw [Ho.out]; exact HR2⟩
          case measure => simp [intOf]; omega
    · obtain rfl : k = cs.length := by omega
      have ho : out = R := by
        rw [← HR.out, List.drop_of_length_le (Nat.le_refl _)]; simp
      subst ho
      clear HR
      go_wp2
      go_ret
      exact ⟨_, _, rfl, own, B⟩
end Go.Proofs.Ytnlljkdfapllpaa
