/- FlipAll, SameDominoes, FloorOk of the program: the walks. Conditions: sizes. -/
import Derived.Test.YtkbndchgmokabaaFlipI2
import Derived.Test.YtkbndchgmokabaaTilingW
namespace Go.Proofs.Ytkbndchgmokabaa
open Go.ChangeShapes Go.WideShapes Go.ChangeAt Go.RowKit
set_option linter.unusedVariables false
set_option linter.unusedSimpArgs false

theorem flipAtI_no (v : Value) (l : List Dm) (x y : Int) (w : World) (h : Rd 3 RDom w v l) (hl : Small l.length) (hk : kindOf l (x, y) = 0) : Calls Try.prog 174 #[v, .agg #[.int .i64 x, .int .i64 y]] w (RetOwnB 73 3 eDom l false w) := by
  have := flipAtI_any v l x y w h hl
  unfold flipAt at this; rw [if_pos hk] at this; exact this
theorem flipAtI_yes (v : Value) (l : List Dm) (x y : Int) (w : World) (h : Rd 3 RDom w v l) (hl : Small l.length) (hk : ¬ kindOf l (x, y) = 0) : Calls Try.prog 174 #[v, .agg #[.int .i64 x, .int .i64 y]] w (RetOwnB 73 3 eDom (flipTo l (x, y)) true w) := by
  have := flipAtI_any v l x y w h hl
  unfold flipAt at this; rw [if_neg hk] at this; exact this
theorem flipGo_cons (l : List Dm) (c : Cl) (r : List Cl) : flipGo l (c :: r) = if kindOf l c = 0 then none else flipGo (flipTo l c) r := rfl
theorem flipTo_small (l : List Dm) (c : Cl) : Small (flipTo l c).length := by have := flipTo_len l c; unfold Small; omega
theorem flipAll_some {l m : List Dm} {cs : List Cl} (hn : ¬ cs.length > 200) (h : flipGo l cs = some m) : flipAll l cs = (m, true) := by unfold flipAll; rw [if_neg hn, h]
theorem flipAll_none {l : List Dm} {cs : List Cl} (hn : ¬ cs.length > 200) (h : flipGo l cs = none) : flipAll l cs = (l, false) := by unfold flipAll; rw [if_neg hn, h]
set_option maxHeartbeats 2000000 in
set_option maxRecDepth 100000 in
theorem flipAllI_any (v u : Value) (l : List Dm) (cs : List Cl) (w : World) (h : Rd 3 RDom w v l) (h2 : Rd 2 RPair w u cs) (hl : Small l.length) : Calls Try.prog 152 #[v, u] w (RetOwnB 73 3 eDom (flipAll l cs).1 (flipAll l cs).2 w) := by
  obtain ⟨A, c, rfl, hc, hm⟩ := h.form
  obtain ⟨A2, c2, rfl, hc2, hm2⟩ := h2.form
  by_cases hgt : cs.length > 200
  · have e : flipAll l cs = (l, false) := by unfold flipAll; rw [if_pos hgt]
    rw [e]
    have hgI : (200 : Int) < (cs.length : Int) := by omega
    clear e
    go_enter Try.func152, Try.ntmps152
    go_wp2_with fail
    refine (copyDomsI_any _ l _ h hl).mono ?_
    rintro e w1 ⟨A1, c1, rfl, own1, hb1⟩
    go_wp2
    go_ret2
    exact ⟨A1, c1, rfl, own1, hb1⟩
  · have hgI : (cs.length : Int) ≤ 200 := by omega
    obtain ⟨F1, hF1⟩ : ∃ F, F = (flipAll l cs).1 := ⟨_, rfl⟩
    obtain ⟨F2, hF2⟩ : ∃ F, F = (flipAll l cs).2 := ⟨_, rfl⟩
    rw [← hF1, ← hF2]
    have HF1 := Lib.hid hF1; have HF2 := Lib.hid hF2; have Hgt := Lib.hid hgt; clear hF1 hF2 hgt
    go_enter Try.func152, Try.ntmps152
    go_wp2_with fail
    refine (copyDomsI_any _ l _ h hl).mono ?_
    rintro e w1 ⟨A1, c1, rfl, own1, hb1⟩
    go_wp2
    go_loopw [6, 20] (fun s6 s20 wr => ∃ (k : Nat) (m : List Dm) (A6 : Option Addr) (c6 : Nat), k ≤ cs.length ∧ s20 = .int .i64 k ∧ s6 = .slice A6 m.length c6 ∧ Hid (flipGo m (cs.drop k) = flipGo l cs) ∧ Hid (Small m.length) ∧ OwnL 73 3 eDom w.heap.size wr (.slice A6 m.length c6) m ∧ Below w.heap.size w wr) (fun _ i _ => cs.length - (intOf i).toNat)
    case atStart => exact ⟨0, l, A1, c1, Nat.zero_le _, rfl, rfl, Lib.hid rfl, Lib.hid hl, own1, hb1⟩
    case round =>
      obtain ⟨k, m, A6, c6, hk, rfl, rfl, Hg, Hs, hown, hbel⟩ := hrel
      clear own1 hb1
      by_cases hlt : k < cs.length
      · obtain ⟨b, off, rfl, hb, q1, q2⟩ := (h2.below RE.stays hbel).atPair hlt
        have hg := Hg.out
        rw [List.drop_eq_getElem_cons hlt, flipGo_cons] at hg
        obtain ⟨d, hd⟩ : ∃ d, d = cs[k] := ⟨_, rfl⟩
        rw [← hd] at q1 q2 hg
        obtain ⟨cx, cy⟩ := d
        simp only at q1 q2
        have B1 := hbel.al (.cells #[.int .i64 cx, .int .i64 cy] 70)
        have own1 := hown.alloc (.cells #[.int .i64 cx, .int .i64 cy] 70)
        clear hd
        by_cases hkd : kindOf m (cx, cy) = 0
        · rw [if_pos hkd] at hg
          have hfa := flipAll_none Hgt.out hg.symm
          have Hkd := Lib.hid hkd; have Hfa := Lib.hid hfa; clear hkd hg hfa
          go_wp2_with fail
          refine (flipAtI_no _ m cx cy _ (own1.rd lenDom (by decide)) Hs.out Hkd.out).mono ?_
          rintro e w2 ⟨A3, c3, rfl, own3, hb3⟩
          go_wp2_with fail
          refine (copyDomsI_any _ l _ (h.below RE.stays (B1.tr hb3)) hl).mono ?_
          rintro e w4 ⟨A5, c5, rfl, own5, hb5⟩
          go_wp2
          go_ret2
          have e1 : F1 = l := by rw [HF1.out, Hfa.out]
          have e2 : F2 = false := by rw [HF2.out, Hfa.out]
          rw [e1, e2]
          exact ⟨A5, c5, rfl, own5.mono (B1.tr hb3).size, (B1.tr hb3).tr hb5⟩
        · rw [if_neg hkd] at hg
          have Hkd := Lib.hid hkd; have Hg2 := Lib.hid hg; clear hkd hg
          go_wp2_with fail
          refine (flipAtI_yes _ m cx cy _ (own1.rd lenDom (by decide)) Hs.out Hkd.out).mono ?_
          rintro e w2 ⟨A3, c3, rfl, own3, hb3⟩
          go_wp2
          go_roundw
          case rel => exact ⟨k + 1, flipTo m (cx, cy), A3, c3, by omega, by go_num, rfl, Hg2, Lib.hid (flipTo_small _ _), own3.mono B1.size, B1.tr hb3⟩
          case measure => simp [intOf]; omega
      · obtain rfl : k = cs.length := by omega
        have hg := Hg.out
        rw [List.drop_of_length_le (Nat.le_refl _)] at hg
        have hfa := flipAll_some Hgt.out hg.symm
        have Hfa := Lib.hid hfa; clear hg hfa
        go_wp2
        go_ret2
        have e1 : F1 = m := by rw [HF1.out, Hfa.out]
        have e2 : F2 = true := by rw [HF2.out, Hfa.out]
        rw [e1, e2]
        exact ⟨A6, c6, rfl, hown, hbel⟩
set_option maxHeartbeats 1000000 in
set_option maxRecDepth 100000 in
theorem sameDomI_any (u v : Value) (l m : List Dm) (w : World) (h : Rd 3 RDom w u l) (h' : Rd 3 RDom w v m) : Calls Try.prog 153 #[u, v] w (Ret (.bool (decide (l = m))) w) := by
  obtain ⟨A, c, rfl, hc, hm⟩ := h.form
  obtain ⟨A', c', rfl, hc', hm'⟩ := h'.form
  by_cases hlen : l.length = m.length
  · have hne : ((l.length : Int) != (m.length : Int)) = false := by simp [hlen]
    have Hlen := Lib.hid hlen; clear hlen
    go_enter Try.func153, Try.ntmps153
    go_wp2
    go_loopw [13] (fun i wr => ∃ k : Nat, k ≤ l.length ∧ i = .int .i64 k ∧ Hid (decide (l.drop k = m.drop k) = decide (l = m)) ∧ Below w.heap.size w wr) (fun i _ => l.length - (intOf i).toNat)
    case atStart => exact ⟨0, Nat.zero_le _, rfl, Lib.hid rfl, Below.refl _ _⟩
    case round =>
      obtain ⟨k, hk, rfl, Hg, hbel⟩ := hrel
      by_cases hlt : k < l.length
      · have hlm : k < m.length := by have := Hlen.out; omega
        obtain ⟨b, off, rfl, hb, q1, q2, q3⟩ := (h.below RE.stays hbel).atDom hlt
        obtain ⟨b', off', rfl, hb', p1, p2, p3⟩ := (h'.below RE.stays hbel).atDom hlm
        have hlt' : (k : Int) < (m.length : Int) := by omega
        obtain ⟨d, hd⟩ : ∃ d, d = l[k] := ⟨_, rfl⟩
        obtain ⟨e, he⟩ : ∃ e, e = m[k] := ⟨_, rfl⟩
        rw [← hd] at q1 q2 q3
        rw [← he] at p1 p2 p3
        obtain ⟨dx, dy, dd⟩ := d
        obtain ⟨ex, ey, ed⟩ := e
        simp only at q1 q2 q3 p1 p2 p3
        by_cases hde : ((dx, dy, dd) : Dm) = (ex, ey, ed)
        · have Hg2 := eqd_go Hg hlt hlm (by rw [← hd, ← he]; exact hde)
          simp only [Prod.mk.injEq] at hde
          obtain ⟨rfl, rfl, rfl⟩ := hde
          clear hd he
          go_wp2_with fail
          go_quiet (fail)
          go_wp2
          go_roundw
          case rel => exact ⟨k + 1, by omega, by go_num, Hg2, below_drewN hbel _⟩
          case measure => simp [intOf]; omega
        · have HR := Lib.hid (eqd_no Hg hlt hlm (by rw [← hd, ← he]; exact hde)).symm
          clear hd he
          rcases ne_ways hde with p | ⟨rfl, p⟩ | ⟨rfl, rfl, p⟩
          all_goals
            clear hde
            go_wp2_with fail
            go_quiet (fail)
            go_wp2
            go_ret
            exact ⟨retB HR.out, below_drewN hbel _⟩
      · go_wp2
        go_ret
        exact ⟨retB (eqd_end Hg (by omega) (by have := Hlen.out; omega)).symm, hbel⟩
  · have hne : ((l.length : Int) != (m.length : Int)) = true := by simp; omega
    go_enter Try.func153, Try.ntmps153
    go_wp2
    go_ret
    exact ⟨retB (by rw [eq_comm, decide_eq_false_iff_not]; exact fun e => hlen (by rw [e])), Below.refl _ _⟩
set_option maxHeartbeats 2000000 in
set_option maxRecDepth 100000 in
theorem floorOkI_any (vr vf vn vc : Value) (rows : List Int) (f n : List Dm) (cs : List Cl) (w : World) (h1 : Rd 1 RInt w vr rows) (h2 : Rd 3 RDom w vf f) (h3 : Rd 3 RDom w vn n) (h4 : Rd 2 RPair w vc cs) (hl : Small f.length) :
    Calls Try.prog 76 #[.agg #[vr, vf, vn, vc]] w (Ret (.bool (floorOk rows f n cs)) w) := by
  obtain ⟨A1, c1, rfl, hc1, hm1⟩ := h1.form
  obtain ⟨A2, c2, rfl, hc2, hm2⟩ := h2.form
  obtain ⟨A3, c3, rfl, hc3, hm3⟩ := h3.form
  obtain ⟨A4, c4, rfl, hc4, hm4⟩ := h4.form
  have hA := (Below.refl w.heap.size w).al (.cells #[.slice A1 rows.length c1, .slice A2 f.length c2, .slice A3 n.length c3, .slice A4 cs.length c4] 88)
  have bF := Blk.new_ w 88 #[.slice A1 rows.length c1, .slice A2 f.length c2, .slice A3 n.length c3, .slice A4 cs.length c4]
  have g1 := h1.below RE.stays hA
  have g2 := h2.below RE.stays hA
  have g3 := h3.below RE.stays hA
  have g4 := h4.below RE.stays hA
  clear hc1 hc2 hc3 hc4
  rcases ht : isTiling rows f with _ | _
  · have e : floorOk rows f n cs = false := by unfold floorOk; rw [ht]; rfl
    rw [e]
    have Ht := Lib.hid ht; clear ht e
    go_enter Try.func76, Try.ntmps76
    go_wp2_with fail
    refine (tilingI_any _ _ rows f _ g1 g2).mono ?_
    rintro e w1 ⟨rfl, hb1⟩
    rw [Ht.out]
    go_wp2
    go_ret
    exact ⟨rfl, hA.tr hb1⟩
  · by_cases hn : cs.length ≤ 60
    · have e : floorOk rows f n cs = ((flipAll f cs).2 && decide ((flipAll f cs).1 = n)) := by unfold floorOk; rw [ht, decide_eq_true hn]; rfl
      have hnI : (cs.length : Int) ≤ 60 := by omega
      obtain ⟨M, hM⟩ : ∃ M, M = (flipAll f cs).1 := ⟨_, rfl⟩
      obtain ⟨b, hb⟩ : ∃ b, b = (flipAll f cs).2 := ⟨_, rfl⟩
      rw [← hM, ← hb] at e
      rw [e]
      have Ht := Lib.hid ht; have HM := Lib.hid hM; have Hb := Lib.hid hb; clear ht e hM hb
      go_enter Try.func76, Try.ntmps76
      go_wp2_with fail
      refine (tilingI_any _ _ rows f _ g1 g2).mono ?_
      rintro e w1 ⟨rfl, hb1⟩
      rw [Ht.out]
      have bF1 := bF.bl hb1
      have z1 := bF1.cell 1
      have z3 := bF1.cell 3
      simp only [List.getElem?_toArray, List.getElem?_cons_zero, List.getElem?_cons_succ] at z1 z3
      go_wp2_with fail
      refine (flipAllI_any _ _ f cs _ (g2.below RE.stays hb1) (g4.below RE.stays hb1) hl).mono ?_
      rintro e w2 ⟨Am, cm, rfl, ownm, hb2⟩
      rw [← HM.out] at ownm
      rw [← HM.out, ← Hb.out]
      have bF2 := bF1.bl hb2
      clear z1 z3
      have z2 := bF2.cell 2
      simp only [List.getElem?_toArray, List.getElem?_cons_zero, List.getElem?_cons_succ] at z2
      have B2 := (hA.tr hb1).tr hb2
      cases b
      · go_wp2
        go_ret
        exact ⟨rfl, B2⟩
      · go_wp2_with fail
        refine (sameDomI_any _ _ M n _ (ownm.rd lenDom (by decide)) ((g3.below RE.stays hb1).below RE.stays hb2)).mono ?_
        rintro e w3 ⟨rfl, hb3⟩
        obtain ⟨R, hR⟩ : ∃ R, R = decide (M = n) := ⟨_, rfl⟩
        rw [← hR]
        have hR2 : (true && decide (M = n)) = R := by rw [hR]; rfl
        have HR2 := Lib.hid hR2; clear hR hR2
        go_wp2
        go_ret
        exact ⟨retB HR2.out.symm, B2.tr hb3⟩
    · have e : floorOk rows f n cs = false := by unfold floorOk; rw [ht, decide_eq_false hn]; rfl
      rw [e]
      have hnI : (60 : Int) < (cs.length : Int) := by omega
      have Ht := Lib.hid ht; clear ht e hn
      go_enter Try.func76, Try.ntmps76
      go_wp2_with fail
      refine (tilingI_any _ _ rows f _ g1 g2).mono ?_
      rintro e w1 ⟨rfl, hb1⟩
      rw [Ht.out]
      have bF1 := bF.bl hb1
      have z3 := bF1.cell 3
      simp only [List.getElem?_toArray, List.getElem?_cons_zero, List.getElem?_cons_succ] at z3
      go_wp2
      go_ret
      exact ⟨rfl, hA.tr hb1⟩
end Go.Proofs.Ytkbndchgmokabaa
