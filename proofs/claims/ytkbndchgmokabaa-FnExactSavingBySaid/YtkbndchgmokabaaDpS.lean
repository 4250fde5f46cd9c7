/- CheapestPrice of the reference: the walk. No conditions but sizes. -/
import Derived.Test.YtkbndchgmokabaaDpC
import Derived.Test.YtkbndchgmokabaaPartS
import Derived.Test.YtkbndchgmokabaaRect
import Derived.Deep.DeepCutAuto
namespace Go.Proofs.Ytkbndchgmokabaa
open Go.ChangeShapes Go.WideShapes Go.ChangeAt Go.RowKit
set_option linter.unusedVariables false
set_option linter.unusedSimpArgs false

def SSt (W0 : World) (g gc gn x y : Nat) (now nx : List Int) (wr : World) : Prop :=
  OwnL 3 1 eInt W0.heap.size wr (.slice (some ⟨g, 0, none⟩) 256 256) now ∧ OwnL 3 1 eInt W0.heap.size wr (.slice (some ⟨gn, 0, none⟩) 256 256) nx ∧ Blk wr gc 70 #[.int .i64 x, .int .i64 y] ∧ g ≠ gn ∧ Below W0.heap.size W0 wr
section
variable {W0 wr w' : World} {g gc gn x y : Nat} {now nx : List Int}
theorem SSt.bl (h : SSt W0 g gc gn x y now nx wr) (hb : Below wr.heap.size wr w') : SSt W0 g gc gn x y now nx w' := by
  obtain ⟨a, b, c, e, f⟩ := h
  exact ⟨a.below hb, b.below hb, c.bl hb, e, f.tr hb⟩
theorem SSt.put (h : SSt W0 g gc gn x y now nx wr) {r : List Int} (own : OwnL 3 1 eInt W0.heap.size w' (.slice (some ⟨gn, 0, none⟩) 256 256) r) (hg : wr.grownBy w' (some gn)) : SSt W0 g gc gn x y now r w' := by
  obtain ⟨a, b, c, e, f⟩ := h
  have hc : gc ≠ gn := by intro q; have := b.apart c (by decide); rw [q] at this; exact this rfl
  refine ⟨World.ownsRow.kept a hg (.inr (by simp [Value.ownBlock]; exact e)), own, c.grown hg (by simpa using hc), e, f.grown hg f.size (fun k hk => ?_)⟩
  injection hk with hk
  rw [← hk]; exact b.at_.2.1
end
theorem least_put (v n : Int) (w : World) (hv : -1 ≤ v) : Calls Try.prog 87 #[.int .i64 v, .int .i64 n] w (Pure (.int .i64 (if v = -1 then n else min v n)) w) := by
  by_cases h : v = -1
  · subst h
    rw [if_pos rfl]
    go_enter Try.func87, Try.ntmps87
    go_wp2
    go_ret
    exact ⟨rfl, rfl⟩
  · rw [if_neg h]
    have h0 : ¬ v < 0 := by omega
    have H := Lib.hid h; clear h
    go_enter Try.func87, Try.ntmps87
    go_wp2
    all_goals go_ret
    all_goals exact ⟨retI (by omega), rfl⟩
theorem least_u (v n u : Int) (w : World) (hv : -1 ≤ v) (hu : u = if v = -1 then n else min v n) : Calls Try.prog 87 #[.int .i64 v, .int .i64 n] w (Pure (.int .i64 u) w) := by
  rw [hu]; exact least_put v n w hv
theorem sec_dn {x y : Nat} (hy : y < 8) : sec ((x : Int), (y : Int), true) = ((x : Int), ((y + 1 : Nat) : Int)) := by
  unfold sec; rw [if_pos rfl]; simp only; rw [show wrap64 ((y : Int) + 1) = ((y + 1 : Nat) : Int) by unfold wrap64; omega]
theorem sec_rt {x y : Nat} (hx : x < 8) : sec ((x : Int), (y : Int), false) = (((x + 1 : Nat) : Int), (y : Int)) := by
  unfold sec; rw [if_neg (by simp)]; simp only; rw [show wrap64 ((x : Int) + 1) = ((x + 1 : Nat) : Int) by unfold wrap64; omega]
theorem domDn_ok {x y : Nat} (hx : x < 8) (hy : y < 8) : domOk ((x : Int), (y : Int), true) = decide (y < 7) := by
  unfold domOk
  rw [sec_dn hy, Bool.eq_iff_iff, Bool.and_eq_true, cellOk_iff, cellOk_iff, decide_eq_true_iff]
  simp only; omega
theorem domRt_ok {x y : Nat} (hx : x < 8) (hy : y < 8) : domOk ((x : Int), (y : Int), false) = decide (x < 7) := by
  unfold domOk
  rw [sec_rt hx, Bool.eq_iff_iff, Bool.and_eq_true, cellOk_iff, cellOk_iff, decide_eq_true_iff]
  simp only; omega
theorem good_dn {p : Pr} {s i k : Nat} {nx : List Int} {n : Int} (hl : nx.length = 256) (h : ∀ k v, nx[k]? = some v → GoodAt s (i + 1) k v) (hk : k < 256) (h0 : 0 ≤ n) (h1 : n ≤ 2000 * i) (ho : OverSet s i k) : ∀ j v, (dpDn s (-1) min (wtC p) i nx k n)[j]? = some v → GoodAt s (i + 1) j v := by
  have d1 := domPrice_in p (domDn i)
  unfold dpDn
  rcases hd : hasDn s i with _ | _
  · rw [if_neg (by simp)]; exact h
  · rw [if_pos rfl]
    exact good_put hl h (or_lt k hk _ (by omega)) (by unfold wtC; omega) (by unfold wtC; omega) (over_dn ho hd)
theorem i64_bit0 {r : Int} {x : Nat} (h0 : 0 ≤ r) (h1 : r ≤ 255) (hx : x < 8) : (bits .and .i64 (r / 2 ^ x) 1 == 0) = !r.toNat.testBit x := by
  rw [← i64_bit h0 h1 hx, i64_and1, Bool.eq_iff_iff, beq_iff_eq, Bool.not_eq_true', beq_eq_false_iff_ne]; omega
theorem least_any (a b : Int) (w : World) : Calls Try.prog 87 #[.int .i64 a, .int .i64 b] w (Pure (.int .i64 (if a < 0 then b else min a b)) w) := by
  by_cases h : a < 0
  · rw [if_pos h]
    go_enter Try.func87, Try.ntmps87
    go_wp2
    go_ret
    exact ⟨rfl, rfl⟩
  · rw [if_neg h]
    go_enter Try.func87, Try.ntmps87
    go_wp2
    all_goals go_ret
    all_goals exact ⟨retI (by omega), rfl⟩
theorem cellAtS_nat (i x y : Nat) (w : World) (hi : i < 64) (hx : x = i % 8) (hy : y = i / 8) : Calls Try.prog 85 #[.int .i64 i] w (Ret (.tuple #[.agg #[.int .i64 x, .int .i64 y], .bool true]) w) := by
  have := cellAtS_yes i w hi
  rw [hx, hy]; simpa using this

set_option maxHeartbeats 4000000 in
set_option maxRecDepth 100000 in
theorem cheapestS_yes (p : Pr) (v : Value) (rows : List Int) (w : World) (h : Rd 1 RInt w v rows) (hp : pricesOk p = true) (Hok : Hid (RowsOk rows)) : Calls Try.prog 16 #[aPr p, .agg #[v]] w (Ret (.int .i64 ((cheapDp p (setOf rows) 64).getD 0 0)) w) := by
  obtain ⟨A, c, rfl, hc, hm⟩ := h.form
  obtain ⟨pa, pb, pc, pd⟩ := p
  have hA := ((Below.refl w.heap.size w).al (.cells #[.int .i64 pa, .int .i64 pb, .int .i64 pc, .int .i64 pd] 29)).al (.cells #[.slice A rows.length c] 31)
  have bP := (Blk.new_ w 29 #[.int .i64 pa, .int .i64 pb, .int .i64 pc, .int .i64 pd]).alloc (.cells #[.slice A rows.length c] 31)
  have hx := Blk.new2 (w.alloc (.cells #[.int .i64 pa, .int .i64 pb, .int .i64 pc, .int .i64 pd] 29)) 31 #[.slice A rows.length c] (w.heap.size + 1) (by simp)
  have h' := h.below RE.stays hA
  have h256 : Hid ((256 : Int) = ((256 : Nat) : Int)) := Lib.hid rfl
  have hs := setOf_lt Hok.out
  obtain ⟨s, hse⟩ : ∃ s, s = setOf rows := ⟨_, rfl⟩
  rw [← hse] at hs ⊢
  have Hse := Lib.hid hse; clear hse
  obtain ⟨R, hR⟩ : ∃ R, R = (cheapDp (pa, pb, pc, pd) s 64).getD 0 0 := ⟨_, rfl⟩
  rw [← hR]
  have HR := Lib.hid hR; clear hR
  have Hp := Lib.hid hp; clear hp
  go_enter Try.func16, Try.ntmps16
  go_wp2_with fail
  refine (pricesOkS_any pa pb pc pd _).mono ?_
  rintro e w1 ⟨rfl, hb1⟩
  rw [Hp.out]
  have z1 := (hx.bl hb1).c1
  go_wp2_with fail
  refine (regionOkS_any _ rows _ (h'.below RE.stays hb1)).mono ?_
  rintro e w2 ⟨rfl, hb2⟩
  rw [regionOk_iff.2 Hok.out]
  clear z1
  have B0 := Below.refl w2.heap.size w2
  have Bw2 := (hA.tr hb1).tr hb2
  have bP2 := (bP.bl hb1).bl hb2
  have bX2 := (hx.bl hb1).bl hb2
  clear hb1 hb2 bP hx h'
  go_wp2_with (at_make; go_must (refine wpList_mk' (enc := eInt) (z0 := (0 : Int)) rowInt rfl B0 256 (by decide) (by decide) _ h256.out rfl _ _ rfl rfl rfl ?_); intro w3 hown3 hb3 hg3)
  have hu0 : UpTo 1 (List.replicate 256 (0 : Int)) (cheapDp (pa, pb, pc, pd) s 0) := ⟨by unfold cheapDp; rw [dp_len, List.length_replicate], rfl⟩
  go_loopw [7] (fun s7 wr => ∃ (k : Nat) (m : List Int), 1 ≤ k ∧ k ≤ 256 ∧ s7 = .int .i64 k ∧ UpTo k m (cheapDp (pa, pb, pc, pd) s 0) ∧ OwnL 3 1 eInt w2.heap.size wr (.slice (some ⟨w2.heap.size, 0, none⟩) 256 256) m ∧ Below w2.heap.size w2 wr) (fun i _ => 256 - (intOf i).toNat)
  case atStart => exact ⟨1, List.replicate 256 0, by omega, by omega, rfl, hu0, hown3, hb3⟩
  case round =>
    obtain ⟨k, m, hk1, hk, rfl, hu, hown, hbel⟩ := hrel
    clear hown3 hb3 hg3 hu0
    have hml : m.length = 256 := by rw [hu.1]; exact dp_len 0
    by_cases hlt : k < 256
    · obtain ⟨u0, s0⟩ := hown.slot1 lenInt (k := k) (by rw [hml]; exact hlt)
      have hsf := hown.free
      have Hml := Lib.hid hml; clear hml
      have hkl : k < (cheapDp (pa, pb, pc, pd) s 0).length := by unfold cheapDp; rw [dp_len]; exact hlt
      have hst := hu.step hkl
      have he : (cheapDp (pa, pb, pc, pd) s 0)[k] = -1 := by
        have : cheapDp (pa, pb, pc, pd) s 0 = (List.replicate 256 (-1 : Int)).set 0 0 := rfl
        simp only [this]
        rw [List.getElem_set_ne (by omega), List.getElem_replicate]
      rw [he] at hst
      have Hu := Lib.hid hst; clear hu hst he
      go_wp2
      go_roundw
      case rel => exact ⟨k + 1, _, by omega, by omega, by go_num, Hu.out, hown.store1 lenInt (by rw [Hml.out]; exact hlt) rfl, hbel.st _ _ (Nat.le_refl _)⟩
      case measure => simp [intOf]; omega
    · obtain rfl : k = 256 := by omega
      obtain rfl := hu.done (by unfold cheapDp; rw [dp_len]; omega)
      clear hu hml hlt hk1 hk
      rw [show ((256 : Nat) : Int) = 256 from rfl]
      go_wp2
      go_loopw [6, 8] (fun s6 s8 wr => ∃ (i g : Nat), i ≤ 64 ∧ s8 = .int .i64 i ∧ s6 = .slice (some ⟨g, 0, none⟩) 256 256 ∧ OwnL 3 1 eInt w2.heap.size wr (.slice (some ⟨g, 0, none⟩) 256 256) (cheapDp (pa, pb, pc, pd) s i) ∧ Below w2.heap.size w2 wr) (fun _ i _ => 64 - (intOf i).toNat)
      case atStart => exact ⟨0, w2.heap.size, by omega, rfl, rfl, hown, hbel⟩
      case round =>
        obtain ⟨i, g, hi, rfl, rfl, hnow, hbel2⟩ := hrel
        clear hown hbel
        by_cases hi64 : i < 64
        · obtain ⟨x, hx⟩ : ∃ x, x = i % 8 := ⟨_, rfl⟩
          obtain ⟨y, hy⟩ : ∃ y, y = i / 8 := ⟨_, rfl⟩
          have hx8 : x < 8 := by omega
          have hy8 : y < 8 := by omega
          have hxI : (i : Int) % 8 = (x : Int) := by omega
          have Hx := Lib.hid hx; have Hy := Lib.hid hy; clear hx hy
          go_wp2_with fail
          refine (cellAtS_nat i x y _ hi64 Hx.out Hy.out).mono ?_
          rintro e w4 ⟨rfl, hb4⟩
          try rw [hxI]
          clear hxI
          have B4 := (hbel2.tr hb4).al (.cells #[.int .i64 x, .int .i64 y] 70)
          have bC := Blk.new_ w4 70 #[.int .i64 x, .int .i64 y]
          have now4 := (hnow.below hb4).alloc (.cells #[.int .i64 x, .int .i64 y] 70)
          go_wp2_with (at_make; go_must (refine wpList_mk' (enc := eInt) (z0 := (0 : Int)) rowInt rfl B4 256 (by decide) (by decide) _ h256.out rfl _ _ rfl rfl rfl ?_); intro w5 hown5 hb5 hg5)
          have st5 : SSt w2 g w4.heap.size (w4.heap.size + 1) x y (cheapDp (pa, pb, pc, pd) s i) (List.replicate 256 0) w5 := by
            have hgl := (hnow.below hb4).at_.2.2
            exact ⟨World.ownsRow.kept now4 hg5 (.inr (by simp [Value.ownBlock])), (by simpa using hown5 : OwnL 3 1 eInt w2.heap.size w5 (.slice (some ⟨w4.heap.size + 1, 0, none⟩) 256 256) (List.replicate 256 0)), bC.grown hg5 (by simp), by omega, hb5⟩
          have hm0 : UpTo 0 (List.replicate 256 (0 : Int)) (List.replicate 256 (-1)) := UpTo.start _ _ (by rw [List.length_replicate, List.length_replicate])
          obtain ⟨gn, hgn⟩ : ∃ gn, gn = w4.heap.size + 1 := ⟨_, rfl⟩
          rw [← hgn] at st5 ⊢
          obtain ⟨gc, hgc⟩ : ∃ gc, gc = w4.heap.size := ⟨_, rfl⟩
          rw [← hgc] at st5 ⊢
          have hxI : (i : Int) % 8 = (x : Int) := by have := Hx.out; omega
          try rw [hxI]
          clear hgc hgn hxI
          go_wp2
          go_loopw [13] (fun s13 wr => ∃ (k : Nat) (m : List Int), k ≤ 256 ∧ s13 = .int .i64 k ∧ UpTo k m (List.replicate 256 (-1)) ∧ SSt w2 g gc gn x y (cheapDp (pa, pb, pc, pd) s i) m wr) (fun i _ => 256 - (intOf i).toNat)
          case atStart => exact ⟨0, _, by omega, rfl, hm0, st5⟩
          case round =>
            obtain ⟨k, m, hk, rfl, hu, hst⟩ := hrel
            clear st5 hm0 hnow hbel2 now4 hown5 hb5 hg5 B4 bC hb4
            have hml : m.length = 256 := by rw [hu.1, List.length_replicate]
            by_cases hlt : k < 256
            · obtain ⟨u0, s0⟩ := hst.2.1.slot1 lenInt (k := k) (by rw [hml]; exact hlt)
              have hsf := hst.2.1.free
              have Hml := Lib.hid hml; clear hml
              have hst2 := hu.step (by rw [List.length_replicate]; exact hlt)
              rw [List.getElem_replicate] at hst2
              have Hu := Lib.hid hst2; clear hu hst2
              have hcl := hst.2.1.store1 lenInt (k := k) (y := -1) (by rw [Hml.out]; exact hlt) rfl
              go_wp2
              go_roundw
              case rel => exact ⟨k + 1, _, by omega, by go_num, Hu.out, hst.put hcl (gr_set (World.grownBy.refl _ _) _ _)⟩
              case measure => simp [intOf]; omega
            · obtain rfl : k = 256 := by omega
              obtain rfl := hu.done (by rw [List.length_replicate]; omega)
              have hpow := pow_i64 hx8
              obtain ⟨P, hP⟩ : ∃ P, P = 2 ^ x := ⟨_, rfl⟩
              rw [← hP] at hpow
              obtain ⟨hp2, hp8⟩ := hpow
              have HP := Lib.hid hP
              clear hu hml hP
              rw [show ((256 : Nat) : Int) = 256 from rfl]
              go_wp2
              go_loopw [14] (fun s14 wr => ∃ (K : Nat) (nx : List Int), K ≤ 256 ∧ s14 = .int .i64 K ∧ Hid (nx = dpRow s (-1) min (wtC (pa, pb, pc, pd)) (cheapDp (pa, pb, pc, pd) s i) i K) ∧ SSt w2 g gc gn x y (cheapDp (pa, pb, pc, pd) s i) nx wr) (fun i _ => 256 - (intOf i).toNat)
              case atStart => exact ⟨0, _, by omega, rfl, Lib.hid (by unfold dpRow; rw [List.range_zero]; rfl), hst⟩
              case round =>
                obtain ⟨K, nx, hK, rfl, Hnx, hst'⟩ := hrel
                clear hst
                have hst := hst'
                by_cases hlt : K < 256
                · have hil : K < (cheapDp (pa, pb, pc, pd) s i).length := by unfold cheapDp; rw [dp_len]; exact hlt
                  have zK := hst.1.slot lenInt Nat.one_pos hil 0 (.int .i64 (cheapDp (pa, pb, pc, pd) s i)[K]) rfl
                  rw [Nat.mul_one, Nat.add_zero] at zK
                  have hgood := good_dp (pa, pb, pc, pd) s i K _ (List.getElem?_eq_getElem hil)
                  have hgD : (cheapDp (pa, pb, pc, pd) s i).getD K 0 = (cheapDp (pa, pb, pc, pd) s i)[K] := by rw [List.getD_eq_getElem?_getD, List.getElem?_eq_getElem hil, Option.getD_some]
                  obtain ⟨n, hn⟩ : ∃ n, n = (cheapDp (pa, pb, pc, pd) s i)[K] := ⟨_, rfl⟩
                  rw [← hn] at zK hgood hgD
                  have HnD := Lib.hid hgD; clear hn hgD hil
                  have hnx : nx.length = 256 := by rw [Hnx.out, dpRow_len]
                  have hng : ∀ k v, nx[k]? = some v → GoodAt s (i + 1) k v := by rw [Hnx.out]; exact good_row (good_dp _ s i) (dp_len i) K (by omega)
                  have Hnl := Lib.hid hnx; have Hng := Lib.hid hng; clear hnx hng
                  by_cases hn1 : n = -1
                  · subst hn1
                    have Heq : Hid (dpOne s (-1) min (wtC (pa, pb, pc, pd)) i nx K (-1) = nx) := Lib.hid (by unfold dpOne; rw [if_pos rfl])
                    clear hgood
                    go_wp2
                    go_roundw
                    case rel => exact ⟨K + 1, _, by omega, by go_num, Lib.hid (by rw [dpRow_succ, ← Hnx.out, HnD.out]; exact Heq.out.symm), hst⟩
                    case measure => simp [intOf]; omega
                  · obtain ⟨hn0, hnB, hov⟩ := hgood.resolve_left hn1
                    have hi8 : i = 8 * y + x := by have := Hx.out; have := Hy.out; omega
                    have Hi := Lib.hid hi8
                    have t16 := i64_bit (r := (K : Int)) (x := x) (by omega) (by omega) hx8
                    rw [Int.toNat_natCast, hp2] at t16
                    have hover : K.testBit (i % 8) = true → s.testBit i = true := fun q => over_bit hov q
                    have hone : dpOne s (-1) min (wtC (pa, pb, pc, pd)) i nx K n = if s.testBit i then (if K.testBit x then dpPut (-1) min nx (K - P) n else dpRt s (-1) min (wtC (pa, pb, pc, pd)) i (dpDn s (-1) min (wtC (pa, pb, pc, pd)) i nx K n) K n) else (if K.testBit x then nx else dpPut (-1) min nx K n) := by
                      unfold dpOne; rw [if_neg hn1, ← Hx.out, ← HP.out]
                    rw [← Hx.out] at hover
                    have Hn1 := Lib.hid hn1; have Hov := Lib.hid hov
                    have hnM : n ≤ 1000000 := by omega
                    clear hov hn1 hi8
                    have zc0 := hst.2.2.1.cell 0
                    have zc1 := hst.2.2.1.cell 1
                    simp only [List.getElem?_toArray, List.getElem?_cons_zero, List.getElem?_cons_succ] at zc0 zc1
                    have bXr := bX2.bl hst.2.2.2.2
                    have zx := bXr.c1
                    have hng0 : w.heap.size + 1 < wr.heap.size := bXr.lt
                    rcases hbk : K.testBit x with _ | _
                    · rcases hB : s.testBit i with _ | _
                      · rw [hB, hbk] at hone
                        rw [hbk] at t16
                        have Hone := Lib.hid hone; have HB := Lib.hid hB; have Hbk := Lib.hid hbk; clear hone hB hbk hover
                        have Heq : Hid (dpOne s (-1) min (wtC (pa, pb, pc, pd)) i nx K n = dpPut (-1) min nx K n) := Lib.hid (by rw [Hone.out]; rfl)
                        go_wp2_with fail
                        refine (l03HasS_yes _ rows x y _ (h.below RE.stays (Bw2.tr hst.2.2.2.2)) Hok hx8 hy8).mono ?_
                        rintro e w6 ⟨rfl, hb6⟩
                        rw [← Hse.out, ← Hi.out, HB.out]
                        have st6 := hst.bl hb6
                        have hKL : K < (nx : List Int).length := by rw [Hnl.out]; omega
                        have zV := st6.2.1.slot lenInt Nat.one_pos hKL 0 (.int .i64 (nx : List Int)[K]) rfl
                        rw [Nat.mul_one, Nat.add_zero] at zV
                        have hsf := st6.2.1.free
                        have hvg := Hng.out K _ (List.getElem?_eq_getElem hKL)
                        have hvD : (nx : List Int).getD (K) 0 = (nx : List Int)[K] := by rw [List.getD_eq_getElem?_getD, List.getElem?_eq_getElem hKL, Option.getD_some]
                        obtain ⟨v, hv⟩ : ∃ v, v = (nx : List Int)[K] := ⟨_, rfl⟩
                        rw [← hv] at zV hvg hvD
                        have hv1 : -1 ≤ v := by rcases hvg with e | e <;> omega
                        have HvD := Lib.hid hvD; clear hvg hv hvD
                        have hKI : (K : Int) < 256 := by omega
                        go_wp2_with fail
                        refine (least_put v n _ hv1).mono ?_
                        rintro e w7 ⟨rfl, rfl⟩
                        have own7 := st6.2.1.store1 lenInt hKL (y := if v = -1 then n else min v n) rfl
                        have e7 : nx.set K (if v = -1 then n else min v n) = dpPut (-1) min nx K n := by unfold dpPut; rw [HvD.out]
                        rw [e7] at own7
                        go_wp2
                        go_roundw
                        case rel => exact ⟨K + 1, _, by omega, by go_num, Lib.hid (by rw [dpRow_succ, ← Hnx.out, HnD.out]; exact Heq.out.symm), st6.put own7 (gr_set (World.grownBy.refl _ _) _ _)⟩
                        case measure => simp [intOf]; omega
                      · rw [hB, hbk] at hone
                        rw [hbk] at t16
                        have Hone := Lib.hid hone; have HB := Lib.hid hB; have Hbk := Lib.hid hbk; clear hone hB hbk hover
                        obtain ⟨a1, a2, a3, a4, a5⟩ := st_bits hlt hx8
                        rw [← HP.out] at a1 a2 a3 a4 a5
                        go_wp2_with fail
                        refine (l03HasS_yes _ rows x y _ (h.below RE.stays (Bw2.tr hst.2.2.2.2)) Hok hx8 hy8).mono ?_
                        rintro e w6 ⟨rfl, hb6⟩
                        rw [← Hse.out, ← Hi.out, HB.out]
                        have st6 := hst.bl hb6
                        have bX6 := bX2.bl st6.2.2.2.2
                        have zx6 := bX6.c1
                        have zc60 := st6.2.2.1.cell 0
                        have zc61 := st6.2.2.1.cell 1
                        simp only [List.getElem?_toArray, List.getElem?_cons_zero, List.getElem?_cons_succ] at zc60 zc61
                        clear zc0 zc1 zx hng0 t16 zK
                        have BB := Bw2.tr st6.2.2.2.2
                        have hz : w6.heap.size + 1 ≤ (w6.alloc (.cells #[.int .i64 x, .int .i64 y, .bool true] 73)).drew.heap.size := by simp
                        have Bw : Below w6.heap.size w6 (w6.alloc (.cells #[.int .i64 x, .int .i64 y, .bool true] 73)).drew := ((Below.refl _ _).al _).drew
                        have hp1 : w.heap.size + 1 < w6.heap.size + 1 := by have := bX6.lt; omega
                        have hp2' : w6.heap.size < w6.heap.size + 1 := by omega
                        have hq1 : w.heap.size + 1 ≠ w6.heap.size := by have := bX6.lt; omega
                        have hgd := good_dn (p := (pa, pb, pc, pd)) Hnl.out Hng.out hlt hn0 hnB Hov.out
                        have hld := dpDn_len (s := s) (no := -1) (add := min) (wt := wtC (pa, pb, pc, pd)) i nx K n
                        have hdv : dpDn s (-1) min (wtC (pa, pb, pc, pd)) i nx K n = if hasDn s i then dpPut (-1) min nx (K ||| P) (n + domPrice (pa, pb, pc, pd) ((x : Int), (y : Int), true)) else nx := by
                          unfold dpDn; rw [← Hx.out, ← HP.out, show domDn i = ((x : Int), (y : Int), true) by unfold domDn; rw [← Hx.out, ← Hy.out]]; rfl
                        obtain ⟨nd, hnd⟩ : ∃ nd, nd = dpDn s (-1) min (wtC (pa, pb, pc, pd)) i nx K n := ⟨_, rfl⟩
                        rw [← hnd] at hgd hld hdv
                        rw [Hnl.out] at hld
                        have Hdn : Hid (dpDn s (-1) min (wtC (pa, pb, pc, pd)) i nx K n = nd) := Lib.hid hnd.symm
                        have Hgd := Lib.hid hgd; have Hld := Lib.hid hld; have Hdv := Lib.hid hdv; clear hgd hld hdv hnd
                        go_upto_region 31 with (fail)
                        go_cut [118] (fun s118 wx => s118 = .bool (hasDn s i) ∧ SSt w2 g gc gn x y (cheapDp (pa, pb, pc, pd) s i) nx wx ∧ wx.cell? ⟨w6.heap.size, 0, none⟩ = some (.int .i64 x) ∧ wx.cell? ⟨w6.heap.size, 1, none⟩ = some (.int .i64 y) ∧ wx.cell? ⟨w6.heap.size, 2, none⟩ = some (.bool true) ∧ w6.heap.size < wx.heap.size)
                        case first =>
                          by_cases hy7 : y < 7
                          · have hdo : domOk ((x : Int), (y : Int), true) = true := by rw [domDn_ok hx8 hy8, decide_eq_true hy7]
                            have hsec := sec_dn (x := x) hy8
                            have Hdo := Lib.hid hdo; have Hsec := Lib.hid hsec; clear hdo hsec
                            have hq : s.testBit (8 * (y + 1) + x) = hasDn s i := by unfold hasDn; rw [decide_eq_true (by have := Hi.out; omega), Bool.true_and, show i + 8 = 8 * (y + 1) + x by have := Hi.out; omega]
                            obtain ⟨bd, hbd⟩ : ∃ bd, bd = hasDn s i := ⟨_, rfl⟩
                            have Hq : Hid (s.testBit (8 * (y + 1) + x) = bd) := Lib.hid (by rw [hq, hbd])
                            have Hd : Hid (hasDn s i = bd) := Lib.hid hbd.symm
                            clear hq hbd
                            go_wp2_with fail
                            refine wp_region_held_drew (S := (fun w' => w'.cell? ⟨w6.heap.size, 0, none⟩ = some (.int .i64 x) ∧ w'.cell? ⟨w6.heap.size, 1, none⟩ = some (.int .i64 y) ∧ w'.cell? ⟨w6.heap.size, 2, none⟩ = some (.bool true) ∧ w'.cell? ⟨w.heap.size + 1, 0, none⟩ = some (.slice A rows.length c))) (by kernel_rfl) ?_ (fun hHeld => ?_)
                            · (try dsimp only); go_keep
                            refine wpAnyH_take (i := 0) (oi := { dst := some 111, op := Go.Op.load 73 (Go.Operand.tmp 18), type := 73, pos := "l34_cost.go:63", after := #[], guard := none }) (v := ?_) rfl (by kernel_rfl) (by kernel_rfl) (by kernel_rfl) (fun _ _ _ h => h) (Or.inl ⟨by rfl, ?_⟩) (by assumption) ?_
                            rotate_left 1
                            · (intro wS hSw; (try dsimp only at hSw); go_simp; (all_goals with_reducible rfl))
                            simp only [Act.put, List.setIfInBounds_toArray, List.set_cons_zero, List.set_cons_succ]
                            refine wpAnyH_ready (rs := [1]) (by kernel_rfl) (by simp) ?_
                            refine AllReadyH.cons (o := { dst := some 112, op := Go.Op.call { callee := Go.Callee.value (Go.Operand.func 88), args := #[Go.Operand.tmp 111], argTypes := #[73] }, type := 4, pos := "l34_cost.go:63", after := #[{ on := 0, ground := Go.Ground.data }], guard := none }) rfl (fun K hK => ?_) AllReadyH.nil
                            go_simp
                            (first | (go_at_call 88; go_must (refine (domOkS_any x y true _).mono ?_; rintro e wX ⟨rfl, hbX⟩; rw [Hdo.out]; obtain ⟨hcX, hfX, hzX⟩ := bkn hbX (w6.heap.size + 1) hz; have hz := hzX; have Bw := Bw.tr hbX); (try go_wp2_with fail)) | (go_at_call 89; go_must (refine (secondS_eq x y true (x : Nat) ((y + 1) : Nat) Hsec _).mono ?_; rintro e wX ⟨rfl, hbX⟩; obtain ⟨hcX, hfX, hzX⟩ := bkn hbX (w6.heap.size + 1) hz; have hz := hzX; have Bw := Bw.tr hbX); (try go_wp2_with fail)) | (go_at_call 86; go_must (refine (l03HasS_yes _ rows x (y + 1) _ (h.below RE.stays (BB.tr Bw)) Hok (by omega) (by omega)).mono ?_; rintro e wX ⟨rfl, hbX⟩; rw [← Hse.out, Hq.out]; obtain ⟨hcX, hfX, hzX⟩ := bkn hbX (w6.heap.size + 1) hz; have hz := hzX; have Bw := Bw.tr hbX); (try go_wp2_with fail)))
                            refine hK.out _ _ ?_ (fun hHeld => ?_)
                            · (try dsimp only); go_keep
                            clear hK K
                            (try simp only [Act.put, List.setIfInBounds_toArray, List.set_cons_zero, List.set_cons_succ])
                            refine wpAnyH_take (i := 2) (oi := { dst := some 113, op := Go.Op.move (Go.Operand.tmp 112), type := 4, pos := "l34_cost.go:63", after := #[{ on := 1, ground := Go.Ground.data }, { on := 1, ground := Go.Ground.chain }], guard := none }) (v := ?_) rfl (by kernel_rfl) (by kernel_rfl) (by kernel_rfl) (fun _ _ _ h => h) (Or.inl ⟨by rfl, ?_⟩) (by assumption) ?_
                            rotate_left 1
                            · (intro wS hSw; (try dsimp only at hSw); go_simp; (all_goals with_reducible rfl))
                            simp only [Act.put, List.setIfInBounds_toArray, List.set_cons_zero, List.set_cons_succ]
                            refine wpAnyH_take (i := 3) (oi := { dst := some 114, op := Go.Op.load 31 (Go.Operand.tmp 3), type := 31, pos := "l34_cost.go:63", after := #[{ on := 2, ground := Go.Ground.guard }], guard := some (2, true) }) (v := ?_) rfl (by kernel_rfl) (by kernel_rfl) (by kernel_rfl) (fun _ _ _ h => h) (Or.inl ⟨by rfl, ?_⟩) (by assumption) ?_
                            rotate_left 1
                            · (intro wS hSw; (try dsimp only at hSw); go_simp; (all_goals with_reducible rfl))
                            simp only [Act.put, List.setIfInBounds_toArray, List.set_cons_zero, List.set_cons_succ]
                            refine wpAnyH_take (i := 4) (oi := { dst := some 115, op := Go.Op.load 73 (Go.Operand.tmp 18), type := 73, pos := "l34_cost.go:63", after := #[{ on := 2, ground := Go.Ground.guard }], guard := some (2, true) }) (v := ?_) rfl (by kernel_rfl) (by kernel_rfl) (by kernel_rfl) (fun _ _ _ h => h) (Or.inl ⟨by rfl, ?_⟩) (by assumption) ?_
                            rotate_left 1
                            · (intro wS hSw; (try dsimp only at hSw); go_simp; (all_goals with_reducible rfl))
                            simp only [Act.put, List.setIfInBounds_toArray, List.set_cons_zero, List.set_cons_succ]
                            refine wpAnyH_ready (rs := [5]) (by kernel_rfl) (by simp) ?_
                            refine AllReadyH.cons (o := { dst := some 116, op := Go.Op.call { callee := Go.Callee.value (Go.Operand.func 89), args := #[Go.Operand.tmp 115], argTypes := #[73] }, type := 70, pos := "l34_cost.go:63", after := #[{ on := 4, ground := Go.Ground.data }, { on := 2, ground := Go.Ground.chain }, { on := 2, ground := Go.Ground.guard }], guard := some (2, true) }) rfl (fun K hK => ?_) AllReadyH.nil
                            go_simp
                            (first | (go_at_call 88; go_must (refine (domOkS_any x y true _).mono ?_; rintro e wX ⟨rfl, hbX⟩; rw [Hdo.out]; obtain ⟨hcX, hfX, hzX⟩ := bkn hbX (w6.heap.size + 1) hz; have hz := hzX; have Bw := Bw.tr hbX); (try go_wp2_with fail)) | (go_at_call 89; go_must (refine (secondS_eq x y true (x : Nat) ((y + 1) : Nat) Hsec _).mono ?_; rintro e wX ⟨rfl, hbX⟩; obtain ⟨hcX, hfX, hzX⟩ := bkn hbX (w6.heap.size + 1) hz; have hz := hzX; have Bw := Bw.tr hbX); (try go_wp2_with fail)) | (go_at_call 86; go_must (refine (l03HasS_yes _ rows x (y + 1) _ (h.below RE.stays (BB.tr Bw)) Hok (by omega) (by omega)).mono ?_; rintro e wX ⟨rfl, hbX⟩; rw [← Hse.out, Hq.out]; obtain ⟨hcX, hfX, hzX⟩ := bkn hbX (w6.heap.size + 1) hz; have hz := hzX; have Bw := Bw.tr hbX); (try go_wp2_with fail)))
                            refine hK.out _ _ ?_ (fun hHeld => ?_)
                            · (try dsimp only); go_keep
                            clear hK K
                            (try simp only [Act.put, List.setIfInBounds_toArray, List.set_cons_zero, List.set_cons_succ])
                            refine wpAnyH_ready (rs := [6]) (by kernel_rfl) (by simp) ?_
                            refine AllReadyH.cons (o := { dst := some 117, op := Go.Op.call { callee := Go.Callee.value (Go.Operand.func 86), args := #[Go.Operand.tmp 114, Go.Operand.tmp 116], argTypes := #[31, 70] }, type := 4, pos := "l34_cost.go:63", after := #[{ on := 3, ground := Go.Ground.data }, { on := 5, ground := Go.Ground.data }, { on := 5, ground := Go.Ground.chain }, { on := 2, ground := Go.Ground.guard }], guard := some (2, true) }) rfl (fun K hK => ?_) AllReadyH.nil
                            go_simp
                            (first | (go_at_call 88; go_must (refine (domOkS_any x y true _).mono ?_; rintro e wX ⟨rfl, hbX⟩; rw [Hdo.out]; obtain ⟨hcX, hfX, hzX⟩ := bkn hbX (w6.heap.size + 1) hz; have hz := hzX; have Bw := Bw.tr hbX); (try go_wp2_with fail)) | (go_at_call 89; go_must (refine (secondS_eq x y true (x : Nat) ((y + 1) : Nat) Hsec _).mono ?_; rintro e wX ⟨rfl, hbX⟩; obtain ⟨hcX, hfX, hzX⟩ := bkn hbX (w6.heap.size + 1) hz; have hz := hzX; have Bw := Bw.tr hbX); (try go_wp2_with fail)) | (go_at_call 86; go_must (refine (l03HasS_yes _ rows x (y + 1) _ (h.below RE.stays (BB.tr Bw)) Hok (by omega) (by omega)).mono ?_; rintro e wX ⟨rfl, hbX⟩; rw [← Hse.out, Hq.out]; obtain ⟨hcX, hfX, hzX⟩ := bkn hbX (w6.heap.size + 1) hz; have hz := hzX; have Bw := Bw.tr hbX); (try go_wp2_with fail)))
                            refine hK.out _ _ ?_ (fun hHeld => ?_)
                            · (try dsimp only); go_keep
                            clear hK K
                            (try simp only [Act.put, List.setIfInBounds_toArray, List.set_cons_zero, List.set_cons_succ])
                            refine wpAnyH_take (i := 7) (oi := { dst := some 118, op := Go.Op.pick (Go.Operand.tmp 113) (Go.Operand.tmp 117) (Go.Operand.const (Go.Value.bool false)), type := 4, pos := "l34_cost.go:63", after := #[{ on := 2, ground := Go.Ground.data }, { on := 6, ground := Go.Ground.data }], guard := none }) (v := ?_) rfl (by kernel_rfl) (by kernel_rfl) (by kernel_rfl) (fun _ _ _ h => h) (Or.inl ⟨by rfl, ?_⟩) (by assumption) ?_
                            rotate_left 1
                            · (intro wS hSw; (try dsimp only at hSw); go_simp; (all_goals with_reducible rfl))
                            simp only [Act.put, List.setIfInBounds_toArray, List.set_cons_zero, List.set_cons_succ]
                            refine wpAnyH_done (by kernel_rfl) ?_ _
                            go_wp2_with fail
                            go_meet
                            exact ⟨by rw [Hd.out], st6.bl Bw, hHeld.1, hHeld.2.1, hHeld.2.2.1, by omega⟩
                          · have Hdo : Hid (domOk ((x : Int), (y : Int), true) = false) := Lib.hid (by rw [domDn_ok hx8 hy8, decide_eq_false hy7])
                            have Hd : Hid (hasDn s i = false) := Lib.hid (by unfold hasDn; rw [decide_eq_false (by have := Hy.out; omega)]; rfl)
                            go_wp2_with fail
                            refine wp_region_held_drew (S := (fun w' => w'.cell? ⟨w6.heap.size, 0, none⟩ = some (.int .i64 x) ∧ w'.cell? ⟨w6.heap.size, 1, none⟩ = some (.int .i64 y) ∧ w'.cell? ⟨w6.heap.size, 2, none⟩ = some (.bool true) ∧ w'.cell? ⟨w.heap.size + 1, 0, none⟩ = some (.slice A rows.length c))) (by kernel_rfl) ?_ (fun hHeld => ?_)
                            · (try dsimp only); go_keep
                            refine wpAnyH_take (i := 0) (oi := { dst := some 111, op := Go.Op.load 73 (Go.Operand.tmp 18), type := 73, pos := "l34_cost.go:63", after := #[], guard := none }) (v := ?_) rfl (by kernel_rfl) (by kernel_rfl) (by kernel_rfl) (fun _ _ _ h => h) (Or.inl ⟨by rfl, ?_⟩) (by assumption) ?_
                            rotate_left 1
                            · (intro wS hSw; (try dsimp only at hSw); go_simp; (all_goals with_reducible rfl))
                            simp only [Act.put, List.setIfInBounds_toArray, List.set_cons_zero, List.set_cons_succ]
                            refine wpAnyH_ready (rs := [1]) (by kernel_rfl) (by simp) ?_
                            refine AllReadyH.cons (o := { dst := some 112, op := Go.Op.call { callee := Go.Callee.value (Go.Operand.func 88), args := #[Go.Operand.tmp 111], argTypes := #[73] }, type := 4, pos := "l34_cost.go:63", after := #[{ on := 0, ground := Go.Ground.data }], guard := none }) rfl (fun K hK => ?_) AllReadyH.nil
                            go_simp
                            (first | (go_at_call 88; go_must (refine (domOkS_any x y true _).mono ?_; rintro e wX ⟨rfl, hbX⟩; rw [Hdo.out]; obtain ⟨hcX, hfX, hzX⟩ := bkn hbX (w6.heap.size + 1) hz; have hz := hzX; have Bw := Bw.tr hbX); (try go_wp2_with fail)))
                            refine hK.out _ _ ?_ (fun hHeld => ?_)
                            · (try dsimp only); go_keep
                            clear hK K
                            (try simp only [Act.put, List.setIfInBounds_toArray, List.set_cons_zero, List.set_cons_succ])
                            refine wpAnyH_take (i := 2) (oi := { dst := some 113, op := Go.Op.move (Go.Operand.tmp 112), type := 4, pos := "l34_cost.go:63", after := #[{ on := 1, ground := Go.Ground.data }, { on := 1, ground := Go.Ground.chain }], guard := none }) (v := ?_) rfl (by kernel_rfl) (by kernel_rfl) (by kernel_rfl) (fun _ _ _ h => h) (Or.inl ⟨by rfl, ?_⟩) (by assumption) ?_
                            rotate_left 1
                            · (intro wS hSw; (try dsimp only at hSw); go_simp; (all_goals with_reducible rfl))
                            simp only [Act.put, List.setIfInBounds_toArray, List.set_cons_zero, List.set_cons_succ]
                            refine wpAnyH_take (i := 3) (oi := { dst := some 114, op := Go.Op.load 31 (Go.Operand.tmp 3), type := 31, pos := "l34_cost.go:63", after := #[{ on := 2, ground := Go.Ground.guard }], guard := some (2, true) }) (v := undef) rfl (by kernel_rfl) (by kernel_rfl) (by kernel_rfl) (fun _ _ _ h => h) (Or.inr ⟨by rfl, rfl⟩) (by assumption) ?_
                            simp only [Act.put, List.setIfInBounds_toArray, List.set_cons_zero, List.set_cons_succ]
                            refine wpAnyH_take (i := 4) (oi := { dst := some 115, op := Go.Op.load 73 (Go.Operand.tmp 18), type := 73, pos := "l34_cost.go:63", after := #[{ on := 2, ground := Go.Ground.guard }], guard := some (2, true) }) (v := undef) rfl (by kernel_rfl) (by kernel_rfl) (by kernel_rfl) (fun _ _ _ h => h) (Or.inr ⟨by rfl, rfl⟩) (by assumption) ?_
                            simp only [Act.put, List.setIfInBounds_toArray, List.set_cons_zero, List.set_cons_succ]
                            refine wpAnyH_take (i := 5) (oi := { dst := some 116, op := Go.Op.call { callee := Go.Callee.value (Go.Operand.func 89), args := #[Go.Operand.tmp 115], argTypes := #[73] }, type := 70, pos := "l34_cost.go:63", after := #[{ on := 4, ground := Go.Ground.data }, { on := 2, ground := Go.Ground.chain }, { on := 2, ground := Go.Ground.guard }], guard := some (2, true) }) (v := undef) rfl (by kernel_rfl) (by kernel_rfl) (by kernel_rfl) (fun _ _ _ h => h) (Or.inr ⟨by rfl, rfl⟩) (by assumption) ?_
                            simp only [Act.put, List.setIfInBounds_toArray, List.set_cons_zero, List.set_cons_succ]
                            refine wpAnyH_take (i := 6) (oi := { dst := some 117, op := Go.Op.call { callee := Go.Callee.value (Go.Operand.func 86), args := #[Go.Operand.tmp 114, Go.Operand.tmp 116], argTypes := #[31, 70] }, type := 4, pos := "l34_cost.go:63", after := #[{ on := 3, ground := Go.Ground.data }, { on := 5, ground := Go.Ground.data }, { on := 5, ground := Go.Ground.chain }, { on := 2, ground := Go.Ground.guard }], guard := some (2, true) }) (v := undef) rfl (by kernel_rfl) (by kernel_rfl) (by kernel_rfl) (fun _ _ _ h => h) (Or.inr ⟨by rfl, rfl⟩) (by assumption) ?_
                            simp only [Act.put, List.setIfInBounds_toArray, List.set_cons_zero, List.set_cons_succ]
                            refine wpAnyH_take (i := 7) (oi := { dst := some 118, op := Go.Op.pick (Go.Operand.tmp 113) (Go.Operand.tmp 117) (Go.Operand.const (Go.Value.bool false)), type := 4, pos := "l34_cost.go:63", after := #[{ on := 2, ground := Go.Ground.data }, { on := 6, ground := Go.Ground.data }], guard := none }) (v := ?_) rfl (by kernel_rfl) (by kernel_rfl) (by kernel_rfl) (fun _ _ _ h => h) (Or.inl ⟨by rfl, ?_⟩) (by assumption) ?_
                            rotate_left 1
                            · (intro wS hSw; (try dsimp only at hSw); go_simp; (all_goals with_reducible rfl))
                            simp only [Act.put, List.setIfInBounds_toArray, List.set_cons_zero, List.set_cons_succ]
                            refine wpAnyH_done (by kernel_rfl) ?_ _
                            go_wp2_with fail
                            go_meet
                            exact ⟨by rw [Hd.out], st6.bl Bw, hHeld.1, hHeld.2.1, hHeld.2.2.1, by omega⟩
                        case rest =>
                          obtain ⟨rfl, stc, zd0, zd1, zd2, hgdl⟩ := hcut
                          clear zx6 zc60 zc61 hp1 hp2' hq1 hz Bw BB
                          go_upto_if 118 with (fail)
                          go_cut [137] (fun s137 wx => SSt w2 g gc gn x y (cheapDp (pa, pb, pc, pd) s i) nd wx)
                          case first =>
                            rcases hd : hasDn s i with _ | _
                            · have hnd : nd = nx := by rw [Hdv.out, hd]; rfl
                              have Hnd := Lib.hid hnd; clear hd hnd
                              go_wp2_with fail
                              go_meet
                              rw [Hnd.out]; exact stc
                            · have hnd : nd = dpPut (-1) min nx (K ||| P) (n + domPrice (pa, pb, pc, pd) ((x : Int), (y : Int), true)) := by rw [Hdv.out, hd]; rfl
                              have Hnd := Lib.hid hnd; clear hd hnd
                              obtain ⟨wd, hwd⟩ : ∃ wd, wd = wc := ⟨_, rfl⟩
                              subst hwd
                              have hi3 : w6.heap.size ≠ gn := by have := st6.2.1.at_.2.2; omega
                              have eP : IntKind.i64.wrap (P : Int) = (P : Int) := IntWalk.i64_in _ (by omega)
                              have hKL : (K ||| P) < (nx : List Int).length := by rw [Hnl.out]; omega
                              have zV := stc.2.1.slot lenInt Nat.one_pos hKL 0 (.int .i64 (nx : List Int)[(K ||| P)]) rfl
                              rw [Nat.mul_one, Nat.add_zero] at zV
                              have hsf := stc.2.1.free
                              have hvg := Hng.out (K ||| P) _ (List.getElem?_eq_getElem hKL)
                              have hvD : (nx : List Int).getD ((K ||| P)) 0 = (nx : List Int)[(K ||| P)] := by rw [List.getD_eq_getElem?_getD, List.getElem?_eq_getElem hKL, Option.getD_some]
                              obtain ⟨v, hv⟩ : ∃ v, v = (nx : List Int)[(K ||| P)] := ⟨_, rfl⟩
                              rw [← hv] at zV hvg hvD
                              have hv1 : -1 ≤ v := by rcases hvg with e | e <;> omega
                              have HvD := Lib.hid hvD; clear hvg hv hvD
                              obtain ⟨u, hu⟩ : ∃ u, u = (if v = -1 then n + domPrice (pa, pb, pc, pd) ((x : Int), (y : Int), true) else min v (n + domPrice (pa, pb, pc, pd) ((x : Int), (y : Int), true))) := ⟨_, rfl⟩
                              have HU := Lib.hid hu; clear hu
                              have D0 := domPrice_in (pa, pb, pc, pd) ((x : Int), (y : Int), true)
                              have e3 : IntKind.i64.wrap (n + domPrice (pa, pb, pc, pd) ((x : Int), (y : Int), true)) = n + domPrice (pa, pb, pc, pd) ((x : Int), (y : Int), true) := IntWalk.i64_in _ (by omega)
                              have bPX := bP2.bl stc.2.2.2.2
                              have zp0 := bPX.cell 0
                              have zp1 := bPX.cell 1
                              have zp2 := bPX.cell 2
                              have zp3 := bPX.cell 3
                              simp only [List.getElem?_toArray, List.getElem?_cons_zero, List.getElem?_cons_succ] at zp0 zp1 zp2 zp3
                              have hB1 := stc.2.1.at_.2.1
                              have hB2 := bP2.lt
                              have hB3 := stc.2.1.at_.2.2
                              have hi1 : w.heap.size ≠ gn := by omega
                              have hi2 : gn ≠ w.heap.size := by omega
                              have hKI : (((K ||| P) : Nat) : Int) < 256 := by omega
                              have hi4 := hi3.symm
                              have hz : wd.heap.size ≤ wd.drew.heap.size := by simp
                              have Bw : Below wd.heap.size wd wd.drew := (Below.refl _ _).drew
                              have hN1 : w.heap.size < wd.heap.size := by omega
                              go_wp2_with fail
                              refine wp_region_held_drew (S := (fun w' => w'.cell? ⟨w6.heap.size, 0, none⟩ = some (.int .i64 x) ∧ w'.cell? ⟨w6.heap.size, 1, none⟩ = some (.int .i64 y) ∧ w'.cell? ⟨w6.heap.size, 2, none⟩ = some (.bool true) ∧ w'.cell? ⟨w.heap.size, 0, none⟩ = some (.int .i64 pa) ∧ w'.cell? ⟨w.heap.size, 1, none⟩ = some (.int .i64 pb) ∧ w'.cell? ⟨w.heap.size, 2, none⟩ = some (.int .i64 pc) ∧ w'.cell? ⟨w.heap.size, 3, none⟩ = some (.int .i64 pd))) (by kernel_rfl) ?_ (fun hHeld => ?_)
                              · (try dsimp only); go_keep
                              refine wpAnyH_take (i := 0) (oi := { dst := some 119, op := Go.Op.move (Go.Operand.tmp 12), type := 24, pos := "l34_cost.go:64", after := #[], guard := none }) (v := ?_) rfl (by kernel_rfl) (by kernel_rfl) (by kernel_rfl) (fun _ _ _ h => h) (Or.inl ⟨by rfl, ?_⟩) (by assumption) ?_
                              rotate_left 1
                              · (intro wS hSw; (try dsimp only at hSw); go_simp; (all_goals with_reducible rfl))
                              simp only [Act.put, List.setIfInBounds_toArray, List.set_cons_zero, List.set_cons_succ]
                              refine wpAnyH_take (i := 1) (oi := { dst := some 120, op := Go.Op.move (Go.Operand.tmp 14), type := 3, pos := "l34_cost.go:64", after := #[], guard := none }) (v := ?_) rfl (by kernel_rfl) (by kernel_rfl) (by kernel_rfl) (fun _ _ _ h => h) (Or.inl ⟨by rfl, ?_⟩) (by assumption) ?_
                              rotate_left 1
                              · (intro wS hSw; (try dsimp only at hSw); go_simp; (all_goals with_reducible rfl))
                              simp only [Act.put, List.setIfInBounds_toArray, List.set_cons_zero, List.set_cons_succ]
                              refine wpAnyH_take (i := 2) (oi := { dst := some 121, op := Go.Op.move (Go.Operand.tmp 9), type := 3, pos := "l34_cost.go:64", after := #[], guard := none }) (v := ?_) rfl (by kernel_rfl) (by kernel_rfl) (by kernel_rfl) (fun _ _ _ h => h) (Or.inl ⟨by rfl, ?_⟩) (by assumption) ?_
                              rotate_left 1
                              · (intro wS hSw; (try dsimp only at hSw); go_simp; (all_goals with_reducible rfl))
                              simp only [Act.put, List.setIfInBounds_toArray, List.set_cons_zero, List.set_cons_succ]
                              refine wpAnyH_take (i := 3) (oi := { dst := some 122, op := Go.Op.binOp Go.BinOp.shl 3 (Go.Operand.const (Go.Value.int Go.IntKind.i64 1)) (Go.Operand.tmp 121) 3, type := 3, pos := "l34_cost.go:64", after := #[{ on := 2, ground := Go.Ground.data }], guard := none }) (v := ?_) rfl (by kernel_rfl) (by kernel_rfl) (by kernel_rfl) (fun _ _ _ h => h) (Or.inl ⟨by rfl, ?_⟩) (by assumption) ?_
                              rotate_left 1
                              · (intro wS hSw; (try dsimp only at hSw); go_simp; (all_goals with_reducible rfl))
                              simp only [Act.put, List.setIfInBounds_toArray, List.set_cons_zero, List.set_cons_succ]
                              refine wpAnyH_take (i := 4) (oi := { dst := some 123, op := Go.Op.binOp Go.BinOp.or 3 (Go.Operand.tmp 120) (Go.Operand.tmp 122) 3, type := 3, pos := "l34_cost.go:64", after := #[{ on := 1, ground := Go.Ground.data }, { on := 3, ground := Go.Ground.data }], guard := none }) (v := ?_) rfl (by kernel_rfl) (by kernel_rfl) (by kernel_rfl) (fun _ _ _ h => h) (Or.inl ⟨by rfl, ?_⟩) (by assumption) ?_
                              rotate_left 1
                              · (intro wS hSw; (try dsimp only at hSw); go_simp; (all_goals with_reducible rfl))
                              simp only [Act.put, List.setIfInBounds_toArray, List.set_cons_zero, List.set_cons_succ]
                              refine wpAnyH_take (i := 5) (oi := { dst := some 124, op := Go.Op.move (Go.Operand.tmp 12), type := 24, pos := "l34_cost.go:64", after := #[], guard := none }) (v := ?_) rfl (by kernel_rfl) (by kernel_rfl) (by kernel_rfl) (fun _ _ _ h => h) (Or.inl ⟨by rfl, ?_⟩) (by assumption) ?_
                              rotate_left 1
                              · (intro wS hSw; (try dsimp only at hSw); go_simp; (all_goals with_reducible rfl))
                              simp only [Act.put, List.setIfInBounds_toArray, List.set_cons_zero, List.set_cons_succ]
                              refine wpAnyH_take (i := 6) (oi := { dst := some 125, op := Go.Op.move (Go.Operand.tmp 14), type := 3, pos := "l34_cost.go:64", after := #[], guard := none }) (v := ?_) rfl (by kernel_rfl) (by kernel_rfl) (by kernel_rfl) (fun _ _ _ h => h) (Or.inl ⟨by rfl, ?_⟩) (by assumption) ?_
                              rotate_left 1
                              · (intro wS hSw; (try dsimp only at hSw); go_simp; (all_goals with_reducible rfl))
                              simp only [Act.put, List.setIfInBounds_toArray, List.set_cons_zero, List.set_cons_succ]
                              refine wpAnyH_take (i := 7) (oi := { dst := some 126, op := Go.Op.move (Go.Operand.tmp 9), type := 3, pos := "l34_cost.go:64", after := #[], guard := none }) (v := ?_) rfl (by kernel_rfl) (by kernel_rfl) (by kernel_rfl) (fun _ _ _ h => h) (Or.inl ⟨by rfl, ?_⟩) (by assumption) ?_
                              rotate_left 1
                              · (intro wS hSw; (try dsimp only at hSw); go_simp; (all_goals with_reducible rfl))
                              simp only [Act.put, List.setIfInBounds_toArray, List.set_cons_zero, List.set_cons_succ]
                              refine wpAnyH_take (i := 8) (oi := { dst := some 127, op := Go.Op.binOp Go.BinOp.shl 3 (Go.Operand.const (Go.Value.int Go.IntKind.i64 1)) (Go.Operand.tmp 126) 3, type := 3, pos := "l34_cost.go:64", after := #[{ on := 7, ground := Go.Ground.data }], guard := none }) (v := ?_) rfl (by kernel_rfl) (by kernel_rfl) (by kernel_rfl) (fun _ _ _ h => h) (Or.inl ⟨by rfl, ?_⟩) (by assumption) ?_
                              rotate_left 1
                              · (intro wS hSw; (try dsimp only at hSw); go_simp; (all_goals with_reducible rfl))
                              simp only [Act.put, List.setIfInBounds_toArray, List.set_cons_zero, List.set_cons_succ]
                              refine wpAnyH_take (i := 9) (oi := { dst := some 128, op := Go.Op.binOp Go.BinOp.or 3 (Go.Operand.tmp 125) (Go.Operand.tmp 127) 3, type := 3, pos := "l34_cost.go:64", after := #[{ on := 6, ground := Go.Ground.data }, { on := 8, ground := Go.Ground.data }], guard := none }) (v := ?_) rfl (by kernel_rfl) (by kernel_rfl) (by kernel_rfl) (fun _ _ _ h => h) (Or.inl ⟨by rfl, ?_⟩) (by assumption) ?_
                              rotate_left 1
                              · (intro wS hSw; (try dsimp only at hSw); go_simp; (all_goals with_reducible rfl))
                              simp only [Act.put, List.setIfInBounds_toArray, List.set_cons_zero, List.set_cons_succ]
                              refine wpAnyH_take (i := 10) (oi := { dst := some 129, op := Go.Op.indexAddr 24 (Go.Operand.tmp 124) (Go.Operand.tmp 128), type := 0, pos := "l34_cost.go:64", after := #[{ on := 5, ground := Go.Ground.data }, { on := 9, ground := Go.Ground.data }], guard := none }) (v := ?_) rfl (by kernel_rfl) (by kernel_rfl) (by kernel_rfl) (fun _ _ _ h => h) (Or.inl ⟨by rfl, ?_⟩) (by assumption) ?_
                              rotate_left 1
                              · (intro wS hSw; (try dsimp only at hSw); go_simp; (all_goals with_reducible rfl))
                              simp only [Act.put, List.setIfInBounds_toArray, List.set_cons_zero, List.set_cons_succ]
                              refine wpAnyH_take (i := 12) (oi := { dst := some 131, op := Go.Op.move (Go.Operand.tmp 15), type := 3, pos := "l34_cost.go:64", after := #[], guard := none }) (v := ?_) rfl (by kernel_rfl) (by kernel_rfl) (by kernel_rfl) (fun _ _ _ h => h) (Or.inl ⟨by rfl, ?_⟩) (by assumption) ?_
                              rotate_left 1
                              · (intro wS hSw; (try dsimp only at hSw); go_simp; (all_goals with_reducible rfl))
                              simp only [Act.put, List.setIfInBounds_toArray, List.set_cons_zero, List.set_cons_succ]
                              refine wpAnyH_take (i := 13) (oi := { dst := some 132, op := Go.Op.load 29 (Go.Operand.tmp 2), type := 29, pos := "l34_cost.go:64", after := #[], guard := none }) (v := ?_) rfl (by kernel_rfl) (by kernel_rfl) (by kernel_rfl) (fun _ _ _ h => h) (Or.inl ⟨by rfl, ?_⟩) (by assumption) ?_
                              rotate_left 1
                              · (intro wS hSw; (try dsimp only at hSw); go_simp; (all_goals with_reducible rfl))
                              simp only [Act.put, List.setIfInBounds_toArray, List.set_cons_zero, List.set_cons_succ]
                              refine wpAnyH_take (i := 14) (oi := { dst := some 133, op := Go.Op.load 73 (Go.Operand.tmp 18), type := 73, pos := "l34_cost.go:64", after := #[], guard := none }) (v := ?_) rfl (by kernel_rfl) (by kernel_rfl) (by kernel_rfl) (fun _ _ _ h => h) (Or.inl ⟨by rfl, ?_⟩) (by assumption) ?_
                              rotate_left 1
                              · (intro wS hSw; (try dsimp only at hSw); go_simp; (all_goals with_reducible rfl))
                              simp only [Act.put, List.setIfInBounds_toArray, List.set_cons_zero, List.set_cons_succ]
                              refine wpAnyH_ready (rs := [11, 15]) (by kernel_rfl) (by simp) ?_
                              refine AllReadyH.cons (o := { dst := some 130, op := Go.Op.load 3 (Go.Operand.tmp 129), type := 3, pos := "l34_cost.go:64", after := #[{ on := 10, ground := Go.Ground.data }], guard := none }) rfl (fun K hK => ?_) ?_
                              go_simp
                              refine hK.out _ _ ?_ (fun hHeld => ?_)
                              · (try dsimp only); go_keep
                              clear hK K
                              (try simp only [Act.put, List.setIfInBounds_toArray, List.set_cons_zero, List.set_cons_succ])
                              refine wpAnyH_ready (rs := [15]) (by kernel_rfl) (by simp) ?_
                              refine AllReadyH.cons (o := { dst := some 134, op := Go.Op.call { callee := Go.Callee.value (Go.Operand.func 90), args := #[Go.Operand.tmp 132, Go.Operand.tmp 133], argTypes := #[29, 73] }, type := 3, pos := "l34_cost.go:64", after := #[{ on := 13, ground := Go.Ground.data }, { on := 14, ground := Go.Ground.data }], guard := none }) rfl (fun K hK => ?_) AllReadyH.nil
                              go_simp
                              (first | (go_at_call 90; go_must (refine (domPriceS_any (pa, pb, pc, pd) ((x : Int), (y : Int), true) _).mono ?_; rintro e wY ⟨rfl, hbY⟩; obtain ⟨hcY, hfY, hzY⟩ := bkn hbY wd.heap.size hz; have hz := hzY; have Bw := Bw.tr hbY); (try go_wp2_with fail)) | (go_at_call 87; go_must (refine (least_u v (n + domPrice (pa, pb, pc, pd) ((x : Int), (y : Int), true)) u _ hv1 HU.out).mono ?_; rintro e wZ ⟨rfl, rfl⟩); (try go_wp2_with fail)))
                              refine hK.out _ _ ?_ (fun hHeld => ?_)
                              · (try dsimp only); go_keep
                              clear hK K
                              (try simp only [Act.put, List.setIfInBounds_toArray, List.set_cons_zero, List.set_cons_succ])
                              refine wpAnyH_take (i := 16) (oi := { dst := some 135, op := Go.Op.binOp Go.BinOp.add 3 (Go.Operand.tmp 131) (Go.Operand.tmp 134) 3, type := 3, pos := "l34_cost.go:64", after := #[{ on := 12, ground := Go.Ground.data }, { on := 15, ground := Go.Ground.data }], guard := none }) (v := ?_) rfl (by kernel_rfl) (by kernel_rfl) (by kernel_rfl) (fun _ _ _ h => h) (Or.inl ⟨by rfl, ?_⟩) (by assumption) ?_
                              rotate_left 1
                              · (intro wS hSw; (try dsimp only at hSw); go_simp; (all_goals with_reducible rfl))
                              simp only [Act.put, List.setIfInBounds_toArray, List.set_cons_zero, List.set_cons_succ]
                              refine wpAnyH_ready (rs := [17]) (by kernel_rfl) (by simp) ?_
                              refine AllReadyH.cons (o := { dst := some 136, op := Go.Op.call { callee := Go.Callee.value (Go.Operand.func 87), args := #[Go.Operand.tmp 130, Go.Operand.tmp 135], argTypes := #[3, 3] }, type := 3, pos := "l34_cost.go:64", after := #[{ on := 11, ground := Go.Ground.data }, { on := 16, ground := Go.Ground.data }, { on := 15, ground := Go.Ground.chain }], guard := none }) rfl (fun K hK => ?_) AllReadyH.nil
                              go_simp
                              (first | (go_at_call 90; go_must (refine (domPriceS_any (pa, pb, pc, pd) ((x : Int), (y : Int), true) _).mono ?_; rintro e wY ⟨rfl, hbY⟩; obtain ⟨hcY, hfY, hzY⟩ := bkn hbY wd.heap.size hz; have hz := hzY; have Bw := Bw.tr hbY); (try go_wp2_with fail)) | (go_at_call 87; go_must (refine (least_u v (n + domPrice (pa, pb, pc, pd) ((x : Int), (y : Int), true)) u _ hv1 HU.out).mono ?_; rintro e wZ ⟨rfl, rfl⟩); (try go_wp2_with fail)))
                              refine hK.out _ _ ?_ (fun hHeld => ?_)
                              · (try dsimp only); go_keep
                              clear hK K
                              (try simp only [Act.put, List.setIfInBounds_toArray, List.set_cons_zero, List.set_cons_succ])
                              refine wpAnyH_take (i := 18) (oi := { dst := some 137, op := Go.Op.indexAddr 24 (Go.Operand.tmp 119) (Go.Operand.tmp 123), type := 0, pos := "l34_cost.go:64", after := #[{ on := 0, ground := Go.Ground.data }, { on := 4, ground := Go.Ground.data }, { on := 0, ground := Go.Ground.phase }, { on := 1, ground := Go.Ground.phase }, { on := 2, ground := Go.Ground.phase }, { on := 3, ground := Go.Ground.phase }, { on := 4, ground := Go.Ground.phase }, { on := 5, ground := Go.Ground.phase }, { on := 6, ground := Go.Ground.phase }, { on := 7, ground := Go.Ground.phase }, { on := 8, ground := Go.Ground.phase }, { on := 9, ground := Go.Ground.phase }, { on := 10, ground := Go.Ground.phase }, { on := 11, ground := Go.Ground.phase }, { on := 12, ground := Go.Ground.phase }, { on := 13, ground := Go.Ground.phase }, { on := 14, ground := Go.Ground.phase }, { on := 15, ground := Go.Ground.phase }, { on := 16, ground := Go.Ground.phase }, { on := 17, ground := Go.Ground.phase }], guard := none }) (v := ?_) rfl (by kernel_rfl) (by kernel_rfl) (by kernel_rfl) (fun _ _ _ h => h) (Or.inl ⟨by rfl, ?_⟩) (by assumption) ?_
                              rotate_left 1
                              · (intro wS hSw; (try dsimp only at hSw); go_simp; (all_goals with_reducible rfl))
                              simp only [Act.put, List.setIfInBounds_toArray, List.set_cons_zero, List.set_cons_succ]
                              refine wpAnyH_ready (rs := [19]) (by kernel_rfl) (by simp) ?_
                              refine AllReadyH.cons (o := { dst := none, op := Go.Op.store 3 (Go.Operand.tmp 137) (Go.Operand.tmp 136), type := 0, pos := "l34_cost.go:64", after := #[{ on := 18, ground := Go.Ground.data }, { on := 17, ground := Go.Ground.data }, { on := 17, ground := Go.Ground.chain }, { on := 0, ground := Go.Ground.phase }, { on := 1, ground := Go.Ground.phase }, { on := 2, ground := Go.Ground.phase }, { on := 3, ground := Go.Ground.phase }, { on := 4, ground := Go.Ground.phase }, { on := 5, ground := Go.Ground.phase }, { on := 6, ground := Go.Ground.phase }, { on := 7, ground := Go.Ground.phase }, { on := 8, ground := Go.Ground.phase }, { on := 9, ground := Go.Ground.phase }, { on := 10, ground := Go.Ground.phase }, { on := 11, ground := Go.Ground.phase }, { on := 12, ground := Go.Ground.phase }, { on := 13, ground := Go.Ground.phase }, { on := 14, ground := Go.Ground.phase }, { on := 15, ground := Go.Ground.phase }, { on := 16, ground := Go.Ground.phase }, { on := 17, ground := Go.Ground.phase }], guard := none }) rfl (fun K hK => ?_) AllReadyH.nil
                              go_simp
                              refine hK.out _ _ ?_ (fun hHeld => ?_)
                              · (try dsimp only); go_keep
                              clear hK K
                              (try simp only [Act.put, List.setIfInBounds_toArray, List.set_cons_zero, List.set_cons_succ])
                              refine wpAnyH_done (by kernel_rfl) ?_ _
                              rotate_left 1
                              refine AllReadyH.cons (o := { dst := some 134, op := Go.Op.call { callee := Go.Callee.value (Go.Operand.func 90), args := #[Go.Operand.tmp 132, Go.Operand.tmp 133], argTypes := #[29, 73] }, type := 3, pos := "l34_cost.go:64", after := #[{ on := 13, ground := Go.Ground.data }, { on := 14, ground := Go.Ground.data }], guard := none }) rfl (fun K hK => ?_) AllReadyH.nil
                              go_simp
                              (first | (go_at_call 90; go_must (refine (domPriceS_any (pa, pb, pc, pd) ((x : Int), (y : Int), true) _).mono ?_; rintro e wY ⟨rfl, hbY⟩; obtain ⟨hcY, hfY, hzY⟩ := bkn hbY wd.heap.size hz; have hz := hzY; have Bw := Bw.tr hbY); (try go_wp2_with fail)) | (go_at_call 87; go_must (refine (least_u v (n + domPrice (pa, pb, pc, pd) ((x : Int), (y : Int), true)) u _ hv1 HU.out).mono ?_; rintro e wZ ⟨rfl, rfl⟩); (try go_wp2_with fail)))
                              refine hK.out _ _ ?_ (fun hHeld => ?_)
                              · (try dsimp only); go_keep
                              clear hK K
                              (try simp only [Act.put, List.setIfInBounds_toArray, List.set_cons_zero, List.set_cons_succ])
                              refine wpAnyH_take (i := 16) (oi := { dst := some 135, op := Go.Op.binOp Go.BinOp.add 3 (Go.Operand.tmp 131) (Go.Operand.tmp 134) 3, type := 3, pos := "l34_cost.go:64", after := #[{ on := 12, ground := Go.Ground.data }, { on := 15, ground := Go.Ground.data }], guard := none }) (v := ?_) rfl (by kernel_rfl) (by kernel_rfl) (by kernel_rfl) (fun _ _ _ h => h) (Or.inl ⟨by rfl, ?_⟩) (by assumption) ?_
                              rotate_left 1
                              · (intro wS hSw; (try dsimp only at hSw); go_simp; (all_goals with_reducible rfl))
                              simp only [Act.put, List.setIfInBounds_toArray, List.set_cons_zero, List.set_cons_succ]
                              refine wpAnyH_ready (rs := [11]) (by kernel_rfl) (by simp) ?_
                              refine AllReadyH.cons (o := { dst := some 130, op := Go.Op.load 3 (Go.Operand.tmp 129), type := 3, pos := "l34_cost.go:64", after := #[{ on := 10, ground := Go.Ground.data }], guard := none }) rfl (fun K hK => ?_) AllReadyH.nil
                              go_simp
                              refine hK.out _ _ ?_ (fun hHeld => ?_)
                              · (try dsimp only); go_keep
                              clear hK K
                              (try simp only [Act.put, List.setIfInBounds_toArray, List.set_cons_zero, List.set_cons_succ])
                              refine wpAnyH_ready (rs := [17]) (by kernel_rfl) (by simp) ?_
                              refine AllReadyH.cons (o := { dst := some 136, op := Go.Op.call { callee := Go.Callee.value (Go.Operand.func 87), args := #[Go.Operand.tmp 130, Go.Operand.tmp 135], argTypes := #[3, 3] }, type := 3, pos := "l34_cost.go:64", after := #[{ on := 11, ground := Go.Ground.data }, { on := 16, ground := Go.Ground.data }, { on := 15, ground := Go.Ground.chain }], guard := none }) rfl (fun K hK => ?_) AllReadyH.nil
                              go_simp
                              (first | (go_at_call 90; go_must (refine (domPriceS_any (pa, pb, pc, pd) ((x : Int), (y : Int), true) _).mono ?_; rintro e wY ⟨rfl, hbY⟩; obtain ⟨hcY, hfY, hzY⟩ := bkn hbY wd.heap.size hz; have hz := hzY; have Bw := Bw.tr hbY); (try go_wp2_with fail)) | (go_at_call 87; go_must (refine (least_u v (n + domPrice (pa, pb, pc, pd) ((x : Int), (y : Int), true)) u _ hv1 HU.out).mono ?_; rintro e wZ ⟨rfl, rfl⟩); (try go_wp2_with fail)))
                              refine hK.out _ _ ?_ (fun hHeld => ?_)
                              · (try dsimp only); go_keep
                              clear hK K
                              (try simp only [Act.put, List.setIfInBounds_toArray, List.set_cons_zero, List.set_cons_succ])
                              refine wpAnyH_take (i := 18) (oi := { dst := some 137, op := Go.Op.indexAddr 24 (Go.Operand.tmp 119) (Go.Operand.tmp 123), type := 0, pos := "l34_cost.go:64", after := #[{ on := 0, ground := Go.Ground.data }, { on := 4, ground := Go.Ground.data }, { on := 0, ground := Go.Ground.phase }, { on := 1, ground := Go.Ground.phase }, { on := 2, ground := Go.Ground.phase }, { on := 3, ground := Go.Ground.phase }, { on := 4, ground := Go.Ground.phase }, { on := 5, ground := Go.Ground.phase }, { on := 6, ground := Go.Ground.phase }, { on := 7, ground := Go.Ground.phase }, { on := 8, ground := Go.Ground.phase }, { on := 9, ground := Go.Ground.phase }, { on := 10, ground := Go.Ground.phase }, { on := 11, ground := Go.Ground.phase }, { on := 12, ground := Go.Ground.phase }, { on := 13, ground := Go.Ground.phase }, { on := 14, ground := Go.Ground.phase }, { on := 15, ground := Go.Ground.phase }, { on := 16, ground := Go.Ground.phase }, { on := 17, ground := Go.Ground.phase }], guard := none }) (v := ?_) rfl (by kernel_rfl) (by kernel_rfl) (by kernel_rfl) (fun _ _ _ h => h) (Or.inl ⟨by rfl, ?_⟩) (by assumption) ?_
                              rotate_left 1
                              · (intro wS hSw; (try dsimp only at hSw); go_simp; (all_goals with_reducible rfl))
                              simp only [Act.put, List.setIfInBounds_toArray, List.set_cons_zero, List.set_cons_succ]
                              refine wpAnyH_ready (rs := [19]) (by kernel_rfl) (by simp) ?_
                              refine AllReadyH.cons (o := { dst := none, op := Go.Op.store 3 (Go.Operand.tmp 137) (Go.Operand.tmp 136), type := 0, pos := "l34_cost.go:64", after := #[{ on := 18, ground := Go.Ground.data }, { on := 17, ground := Go.Ground.data }, { on := 17, ground := Go.Ground.chain }, { on := 0, ground := Go.Ground.phase }, { on := 1, ground := Go.Ground.phase }, { on := 2, ground := Go.Ground.phase }, { on := 3, ground := Go.Ground.phase }, { on := 4, ground := Go.Ground.phase }, { on := 5, ground := Go.Ground.phase }, { on := 6, ground := Go.Ground.phase }, { on := 7, ground := Go.Ground.phase }, { on := 8, ground := Go.Ground.phase }, { on := 9, ground := Go.Ground.phase }, { on := 10, ground := Go.Ground.phase }, { on := 11, ground := Go.Ground.phase }, { on := 12, ground := Go.Ground.phase }, { on := 13, ground := Go.Ground.phase }, { on := 14, ground := Go.Ground.phase }, { on := 15, ground := Go.Ground.phase }, { on := 16, ground := Go.Ground.phase }, { on := 17, ground := Go.Ground.phase }], guard := none }) rfl (fun K hK => ?_) AllReadyH.nil
                              go_simp
                              refine hK.out _ _ ?_ (fun hHeld => ?_)
                              · (try dsimp only); go_keep
                              clear hK K
                              (try simp only [Act.put, List.setIfInBounds_toArray, List.set_cons_zero, List.set_cons_succ])
                              refine wpAnyH_done (by kernel_rfl) ?_ _
                              all_goals
                                go_wp2_with fail
                                go_meet
                                have stZ := ((stc.bl Bw).put ((stc.bl Bw).2.1.store1 lenInt hKL (y := u) rfl) (gr_set (World.grownBy.refl _ _) _ _))
                                have e7 : nx.set (K ||| P) u = dpPut (-1) min nx (K ||| P) (n + domPrice (pa, pb, pc, pd) ((x : Int), (y : Int), true)) := by unfold dpPut; rw [HvD.out, HU.out]
                                rw [e7] at stZ
                                rw [Hnd.out]; exact stZ
                          case rest =>
                            have stR : SSt w2 g gc gn x y (cheapDp (pa, pb, pc, pd) s i) nd wc := hcut
                            have HlR : Hid ((nd : List Int).length = 256) := Lib.hid Hld.out
                            have HgR : Hid (∀ k v, (nd : List Int)[k]? = some v → GoodAt s (i + 1) k v) := Lib.hid Hgd.out
                            have zcR0 := stR.2.2.1.cell 0
                            have zcR1 := stR.2.2.1.cell 1
                            simp only [List.getElem?_toArray, List.getElem?_cons_zero, List.getElem?_cons_succ] at zcR0 zcR1
                            have bXR := bX2.bl stR.2.2.2.2
                            have zxR := bXR.c1
                            have BB := Bw2.tr stR.2.2.2.2
                            have hz : wc.heap.size + 1 ≤ (wc.alloc (.cells #[.int .i64 x, .int .i64 y, .bool false] 73)).drew.heap.size := by simp
                            have Bw : Below wc.heap.size wc (wc.alloc (.cells #[.int .i64 x, .int .i64 y, .bool false] 73)).drew := ((Below.refl _ _).al _).drew
                            have hpR1 : w.heap.size + 1 < wc.heap.size + 1 := by have := bXR.lt; omega
                            have hpR2 : wc.heap.size < wc.heap.size + 1 := by omega
                            have hqR1 : w.heap.size + 1 ≠ wc.heap.size := by have := bXR.lt; omega
                            have hlR := bXR.lt
                            by_cases hx7 : x < 7
                            · obtain ⟨c1, c2, c3, c4, c5⟩ := st_bits hlt (show x + 1 < 8 by omega)
                              obtain ⟨P2, hP2⟩ : ∃ P2, P2 = 2 ^ (x + 1) := ⟨_, rfl⟩
                              have hpp := pow_i64 (show x + 1 < 8 by omega)
                              rw [← hP2] at c1 c2 c3 c4 c5 hpp
                              obtain ⟨hpp1, hpp2⟩ := hpp
                              have hdo : domOk ((x : Int), (y : Int), false) = true := by rw [domRt_ok hx8 hy8, decide_eq_true hx7]
                              have hsec := sec_rt (x := x) (y := y) hx8
                              have HP2 := Lib.hid hP2; have Hdo := Lib.hid hdo; have Hsec := Lib.hid hsec; clear hP2 hdo hsec
                              have hq : s.testBit (8 * y + (x + 1)) = hasRt s i := by unfold hasRt; rw [decide_eq_true (by have := Hx.out; omega), Bool.true_and, show i + 1 = 8 * y + (x + 1) by have := Hi.out; omega]
                              rcases hr : hasRt s i with _ | _
                              · have Hq : Hid (s.testBit (8 * y + (x + 1)) = false) := Lib.hid (by rw [hq, hr])
                                have Heq : Hid (dpOne s (-1) min (wtC (pa, pb, pc, pd)) i nx K n = nd) := Lib.hid (by rw [Hone.out, Hdn.out]; unfold dpRt; rw [hr]; rfl)
                                clear hq hr
                                go_wp2_with fail
                                refine wp_region_held_drew (S := (fun w' => w'.cell? ⟨wc.heap.size, 0, none⟩ = some (.int .i64 x) ∧ w'.cell? ⟨wc.heap.size, 1, none⟩ = some (.int .i64 y) ∧ w'.cell? ⟨wc.heap.size, 2, none⟩ = some (.bool false) ∧ w'.cell? ⟨w.heap.size + 1, 0, none⟩ = some (.slice A rows.length c))) (by kernel_rfl) ?_ (fun hHeld => ?_)
                                · (try dsimp only); go_keep
                                refine wpAnyH_take (i := 0) (oi := { dst := some 143, op := Go.Op.load 73 (Go.Operand.tmp 19), type := 73, pos := "l34_cost.go:67", after := #[], guard := none }) (v := ?_) rfl (by kernel_rfl) (by kernel_rfl) (by kernel_rfl) (fun _ _ _ h => h) (Or.inl ⟨by rfl, ?_⟩) (by assumption) ?_
                                rotate_left 1
                                · (intro wS hSw; (try dsimp only at hSw); go_simp; (all_goals with_reducible rfl))
                                simp only [Act.put, List.setIfInBounds_toArray, List.set_cons_zero, List.set_cons_succ]
                                refine wpAnyH_ready (rs := [1]) (by kernel_rfl) (by simp) ?_
                                refine AllReadyH.cons (o := { dst := some 144, op := Go.Op.call { callee := Go.Callee.value (Go.Operand.func 88), args := #[Go.Operand.tmp 143], argTypes := #[73] }, type := 4, pos := "l34_cost.go:67", after := #[{ on := 0, ground := Go.Ground.data }], guard := none }) rfl (fun K hK => ?_) AllReadyH.nil
                                go_simp
                                (first | (go_at_call 88; go_must (refine (domOkS_any x y false _).mono ?_; rintro e wX ⟨rfl, hbX⟩; rw [Hdo.out]; obtain ⟨hcX, hfX, hzX⟩ := bkn hbX (wc.heap.size + 1) hz; have hz := hzX; have Bw := Bw.tr hbX); (try go_wp2_with fail)) | (go_at_call 89; go_must (refine (secondS_eq x y false ((x + 1) : Nat) (y : Nat) Hsec _).mono ?_; rintro e wX ⟨rfl, hbX⟩; obtain ⟨hcX, hfX, hzX⟩ := bkn hbX (wc.heap.size + 1) hz; have hz := hzX; have Bw := Bw.tr hbX); (try go_wp2_with fail)) | (go_at_call 86; go_must (refine (l03HasS_yes _ rows (x + 1) y _ (h.below RE.stays (BB.tr Bw)) Hok (by omega) (by omega)).mono ?_; rintro e wX ⟨rfl, hbX⟩; rw [← Hse.out, Hq.out]; obtain ⟨hcX, hfX, hzX⟩ := bkn hbX (wc.heap.size + 1) hz; have hz := hzX; have Bw := Bw.tr hbX); (try go_wp2_with fail)))
                                refine hK.out _ _ ?_ (fun hHeld => ?_)
                                · (try dsimp only); go_keep
                                clear hK K
                                (try simp only [Act.put, List.setIfInBounds_toArray, List.set_cons_zero, List.set_cons_succ])
                                refine wpAnyH_take (i := 2) (oi := { dst := some 145, op := Go.Op.move (Go.Operand.tmp 144), type := 4, pos := "l34_cost.go:67", after := #[{ on := 1, ground := Go.Ground.data }, { on := 1, ground := Go.Ground.chain }], guard := none }) (v := ?_) rfl (by kernel_rfl) (by kernel_rfl) (by kernel_rfl) (fun _ _ _ h => h) (Or.inl ⟨by rfl, ?_⟩) (by assumption) ?_
                                rotate_left 1
                                · (intro wS hSw; (try dsimp only at hSw); go_simp; (all_goals with_reducible rfl))
                                simp only [Act.put, List.setIfInBounds_toArray, List.set_cons_zero, List.set_cons_succ]
                                refine wpAnyH_take (i := 3) (oi := { dst := some 146, op := Go.Op.load 31 (Go.Operand.tmp 3), type := 31, pos := "l34_cost.go:67", after := #[{ on := 2, ground := Go.Ground.guard }], guard := some (2, true) }) (v := ?_) rfl (by kernel_rfl) (by kernel_rfl) (by kernel_rfl) (fun _ _ _ h => h) (Or.inl ⟨by rfl, ?_⟩) (by assumption) ?_
                                rotate_left 1
                                · (intro wS hSw; (try dsimp only at hSw); go_simp; (all_goals with_reducible rfl))
                                simp only [Act.put, List.setIfInBounds_toArray, List.set_cons_zero, List.set_cons_succ]
                                refine wpAnyH_take (i := 4) (oi := { dst := some 147, op := Go.Op.load 73 (Go.Operand.tmp 19), type := 73, pos := "l34_cost.go:67", after := #[{ on := 2, ground := Go.Ground.guard }], guard := some (2, true) }) (v := ?_) rfl (by kernel_rfl) (by kernel_rfl) (by kernel_rfl) (fun _ _ _ h => h) (Or.inl ⟨by rfl, ?_⟩) (by assumption) ?_
                                rotate_left 1
                                · (intro wS hSw; (try dsimp only at hSw); go_simp; (all_goals with_reducible rfl))
                                simp only [Act.put, List.setIfInBounds_toArray, List.set_cons_zero, List.set_cons_succ]
                                refine wpAnyH_ready (rs := [5]) (by kernel_rfl) (by simp) ?_
                                refine AllReadyH.cons (o := { dst := some 148, op := Go.Op.call { callee := Go.Callee.value (Go.Operand.func 89), args := #[Go.Operand.tmp 147], argTypes := #[73] }, type := 70, pos := "l34_cost.go:67", after := #[{ on := 4, ground := Go.Ground.data }, { on := 2, ground := Go.Ground.chain }, { on := 2, ground := Go.Ground.guard }], guard := some (2, true) }) rfl (fun K hK => ?_) AllReadyH.nil
                                go_simp
                                (first | (go_at_call 88; go_must (refine (domOkS_any x y false _).mono ?_; rintro e wX ⟨rfl, hbX⟩; rw [Hdo.out]; obtain ⟨hcX, hfX, hzX⟩ := bkn hbX (wc.heap.size + 1) hz; have hz := hzX; have Bw := Bw.tr hbX); (try go_wp2_with fail)) | (go_at_call 89; go_must (refine (secondS_eq x y false ((x + 1) : Nat) (y : Nat) Hsec _).mono ?_; rintro e wX ⟨rfl, hbX⟩; obtain ⟨hcX, hfX, hzX⟩ := bkn hbX (wc.heap.size + 1) hz; have hz := hzX; have Bw := Bw.tr hbX); (try go_wp2_with fail)) | (go_at_call 86; go_must (refine (l03HasS_yes _ rows (x + 1) y _ (h.below RE.stays (BB.tr Bw)) Hok (by omega) (by omega)).mono ?_; rintro e wX ⟨rfl, hbX⟩; rw [← Hse.out, Hq.out]; obtain ⟨hcX, hfX, hzX⟩ := bkn hbX (wc.heap.size + 1) hz; have hz := hzX; have Bw := Bw.tr hbX); (try go_wp2_with fail)))
                                refine hK.out _ _ ?_ (fun hHeld => ?_)
                                · (try dsimp only); go_keep
                                clear hK K
                                (try simp only [Act.put, List.setIfInBounds_toArray, List.set_cons_zero, List.set_cons_succ])
                                refine wpAnyH_ready (rs := [6]) (by kernel_rfl) (by simp) ?_
                                refine AllReadyH.cons (o := { dst := some 149, op := Go.Op.call { callee := Go.Callee.value (Go.Operand.func 86), args := #[Go.Operand.tmp 146, Go.Operand.tmp 148], argTypes := #[31, 70] }, type := 4, pos := "l34_cost.go:67", after := #[{ on := 3, ground := Go.Ground.data }, { on := 5, ground := Go.Ground.data }, { on := 5, ground := Go.Ground.chain }, { on := 2, ground := Go.Ground.guard }], guard := some (2, true) }) rfl (fun K hK => ?_) AllReadyH.nil
                                go_simp
                                (first | (go_at_call 88; go_must (refine (domOkS_any x y false _).mono ?_; rintro e wX ⟨rfl, hbX⟩; rw [Hdo.out]; obtain ⟨hcX, hfX, hzX⟩ := bkn hbX (wc.heap.size + 1) hz; have hz := hzX; have Bw := Bw.tr hbX); (try go_wp2_with fail)) | (go_at_call 89; go_must (refine (secondS_eq x y false ((x + 1) : Nat) (y : Nat) Hsec _).mono ?_; rintro e wX ⟨rfl, hbX⟩; obtain ⟨hcX, hfX, hzX⟩ := bkn hbX (wc.heap.size + 1) hz; have hz := hzX; have Bw := Bw.tr hbX); (try go_wp2_with fail)) | (go_at_call 86; go_must (refine (l03HasS_yes _ rows (x + 1) y _ (h.below RE.stays (BB.tr Bw)) Hok (by omega) (by omega)).mono ?_; rintro e wX ⟨rfl, hbX⟩; rw [← Hse.out, Hq.out]; obtain ⟨hcX, hfX, hzX⟩ := bkn hbX (wc.heap.size + 1) hz; have hz := hzX; have Bw := Bw.tr hbX); (try go_wp2_with fail)))
                                refine hK.out _ _ ?_ (fun hHeld => ?_)
                                · (try dsimp only); go_keep
                                clear hK K
                                (try simp only [Act.put, List.setIfInBounds_toArray, List.set_cons_zero, List.set_cons_succ])
                                refine wpAnyH_take (i := 7) (oi := { dst := some 150, op := Go.Op.pick (Go.Operand.tmp 145) (Go.Operand.tmp 149) (Go.Operand.const (Go.Value.bool false)), type := 4, pos := "l34_cost.go:67", after := #[{ on := 2, ground := Go.Ground.data }, { on := 6, ground := Go.Ground.data }], guard := none }) (v := ?_) rfl (by kernel_rfl) (by kernel_rfl) (by kernel_rfl) (fun _ _ _ h => h) (Or.inl ⟨by rfl, ?_⟩) (by assumption) ?_
                                rotate_left 1
                                · (intro wS hSw; (try dsimp only at hSw); go_simp; (all_goals with_reducible rfl))
                                simp only [Act.put, List.setIfInBounds_toArray, List.set_cons_zero, List.set_cons_succ]
                                refine wpAnyH_take (i := 8) (oi := { dst := some 151, op := Go.Op.move (Go.Operand.tmp 150), type := 4, pos := "l34_cost.go:67", after := #[{ on := 7, ground := Go.Ground.data }, { on := 6, ground := Go.Ground.chain }], guard := none }) (v := ?_) rfl (by kernel_rfl) (by kernel_rfl) (by kernel_rfl) (fun _ _ _ h => h) (Or.inl ⟨by rfl, ?_⟩) (by assumption) ?_
                                rotate_left 1
                                · (intro wS hSw; (try dsimp only at hSw); go_simp; (all_goals with_reducible rfl))
                                simp only [Act.put, List.setIfInBounds_toArray, List.set_cons_zero, List.set_cons_succ]
                                refine wpAnyH_take (i := 9) (oi := { dst := some 152, op := Go.Op.move (Go.Operand.tmp 14), type := 3, pos := "l34_cost.go:67", after := #[{ on := 8, ground := Go.Ground.guard }], guard := some (8, true) }) (v := undef) rfl (by kernel_rfl) (by kernel_rfl) (by kernel_rfl) (fun _ _ _ h => h) (Or.inr ⟨by rfl, rfl⟩) (by assumption) ?_
                                simp only [Act.put, List.setIfInBounds_toArray, List.set_cons_zero, List.set_cons_succ]
                                refine wpAnyH_take (i := 10) (oi := { dst := some 153, op := Go.Op.move (Go.Operand.tmp 9), type := 3, pos := "l34_cost.go:67", after := #[{ on := 8, ground := Go.Ground.guard }], guard := some (8, true) }) (v := undef) rfl (by kernel_rfl) (by kernel_rfl) (by kernel_rfl) (fun _ _ _ h => h) (Or.inr ⟨by rfl, rfl⟩) (by assumption) ?_
                                simp only [Act.put, List.setIfInBounds_toArray, List.set_cons_zero, List.set_cons_succ]
                                refine wpAnyH_take (i := 11) (oi := { dst := some 154, op := Go.Op.binOp Go.BinOp.add 3 (Go.Operand.tmp 153) (Go.Operand.const (Go.Value.int Go.IntKind.i64 1)) 3, type := 3, pos := "l34_cost.go:67", after := #[{ on := 10, ground := Go.Ground.data }, { on := 8, ground := Go.Ground.guard }], guard := some (8, true) }) (v := undef) rfl (by kernel_rfl) (by kernel_rfl) (by kernel_rfl) (fun _ _ _ h => h) (Or.inr ⟨by rfl, rfl⟩) (by assumption) ?_
                                simp only [Act.put, List.setIfInBounds_toArray, List.set_cons_zero, List.set_cons_succ]
                                refine wpAnyH_take (i := 12) (oi := { dst := some 155, op := Go.Op.binOp Go.BinOp.shr 3 (Go.Operand.tmp 152) (Go.Operand.tmp 154) 3, type := 3, pos := "l34_cost.go:67", after := #[{ on := 9, ground := Go.Ground.data }, { on := 11, ground := Go.Ground.data }, { on := 8, ground := Go.Ground.guard }], guard := some (8, true) }) (v := undef) rfl (by kernel_rfl) (by kernel_rfl) (by kernel_rfl) (fun _ _ _ h => h) (Or.inr ⟨by rfl, rfl⟩) (by assumption) ?_
                                simp only [Act.put, List.setIfInBounds_toArray, List.set_cons_zero, List.set_cons_succ]
                                refine wpAnyH_take (i := 13) (oi := { dst := some 156, op := Go.Op.binOp Go.BinOp.and 3 (Go.Operand.tmp 155) (Go.Operand.const (Go.Value.int Go.IntKind.i64 1)) 3, type := 3, pos := "l34_cost.go:67", after := #[{ on := 12, ground := Go.Ground.data }, { on := 8, ground := Go.Ground.guard }], guard := some (8, true) }) (v := undef) rfl (by kernel_rfl) (by kernel_rfl) (by kernel_rfl) (fun _ _ _ h => h) (Or.inr ⟨by rfl, rfl⟩) (by assumption) ?_
                                simp only [Act.put, List.setIfInBounds_toArray, List.set_cons_zero, List.set_cons_succ]
                                refine wpAnyH_take (i := 14) (oi := { dst := some 157, op := Go.Op.binOp Go.BinOp.eql 3 (Go.Operand.tmp 156) (Go.Operand.const (Go.Value.int Go.IntKind.i64 0)) 3, type := 4, pos := "l34_cost.go:67", after := #[{ on := 13, ground := Go.Ground.data }, { on := 8, ground := Go.Ground.guard }], guard := some (8, true) }) (v := undef) rfl (by kernel_rfl) (by kernel_rfl) (by kernel_rfl) (fun _ _ _ h => h) (Or.inr ⟨by rfl, rfl⟩) (by assumption) ?_
                                simp only [Act.put, List.setIfInBounds_toArray, List.set_cons_zero, List.set_cons_succ]
                                refine wpAnyH_take (i := 15) (oi := { dst := some 158, op := Go.Op.pick (Go.Operand.tmp 151) (Go.Operand.tmp 157) (Go.Operand.const (Go.Value.bool false)), type := 4, pos := "l34_cost.go:67", after := #[{ on := 8, ground := Go.Ground.data }, { on := 14, ground := Go.Ground.data }], guard := none }) (v := ?_) rfl (by kernel_rfl) (by kernel_rfl) (by kernel_rfl) (fun _ _ _ h => h) (Or.inl ⟨by rfl, ?_⟩) (by assumption) ?_
                                rotate_left 1
                                · (intro wS hSw; (try dsimp only at hSw); go_simp; (all_goals with_reducible rfl))
                                simp only [Act.put, List.setIfInBounds_toArray, List.set_cons_zero, List.set_cons_succ]
                                refine wpAnyH_done (by kernel_rfl) ?_ _
                                go_wp2
                                go_roundw
                                case rel => exact ⟨K + 1, _, by omega, by go_num, Lib.hid (by rw [dpRow_succ, ← Hnx.out, HnD.out]; exact Heq.out.symm), (stR.bl Bw)⟩
                                case measure => simp [intOf]; omega
                              · have Hq : Hid (s.testBit (8 * y + (x + 1)) = true) := Lib.hid (by rw [hq, hr])
                                have Hr := Lib.hid hr; clear hq hr
                                have t34 := i64_bit0 (r := (K : Int)) (x := x + 1) (by omega) (by omega) (by omega)
                                rw [Int.toNat_natCast, hpp1] at t34
                                have ew : IntKind.i64.wrap ((x : Int) + 1) = (x : Int) + 1 := IntWalk.i64_in _ (by omega)
                                have ex : ((x : Int) + 1).toNat = x + 1 := by omega
                                have ex0 : (0 : Int) ≤ (x : Int) + 1 := by omega
                                rcases hk1 : K.testBit (x + 1) with _ | _
                                · rw [hk1] at t34
                                  have Heq : Hid (dpOne s (-1) min (wtC (pa, pb, pc, pd)) i nx K n = dpPut (-1) min nd (K ||| P2) (n + domPrice (pa, pb, pc, pd) ((x : Int), (y : Int), false))) := Lib.hid (by
                                    rw [Hone.out, Hdn.out]; unfold dpRt; rw [Hr.out, ← Hx.out, hk1, ← HP2.out, show domRt i = ((x : Int), (y : Int), false) by unfold domRt; rw [← Hx.out, ← Hy.out]]; rfl)
                                  clear hk1
                                  go_wp2_with fail
                                  refine wp_region_held_drew (S := (fun w' => w'.cell? ⟨wc.heap.size, 0, none⟩ = some (.int .i64 x) ∧ w'.cell? ⟨wc.heap.size, 1, none⟩ = some (.int .i64 y) ∧ w'.cell? ⟨wc.heap.size, 2, none⟩ = some (.bool false) ∧ w'.cell? ⟨w.heap.size + 1, 0, none⟩ = some (.slice A rows.length c))) (by kernel_rfl) ?_ (fun hHeld => ?_)
                                  · (try dsimp only); go_keep
                                  refine wpAnyH_take (i := 0) (oi := { dst := some 143, op := Go.Op.load 73 (Go.Operand.tmp 19), type := 73, pos := "l34_cost.go:67", after := #[], guard := none }) (v := ?_) rfl (by kernel_rfl) (by kernel_rfl) (by kernel_rfl) (fun _ _ _ h => h) (Or.inl ⟨by rfl, ?_⟩) (by assumption) ?_
                                  rotate_left 1
                                  · (intro wS hSw; (try dsimp only at hSw); go_simp; (all_goals with_reducible rfl))
                                  simp only [Act.put, List.setIfInBounds_toArray, List.set_cons_zero, List.set_cons_succ]
                                  refine wpAnyH_ready (rs := [1]) (by kernel_rfl) (by simp) ?_
                                  refine AllReadyH.cons (o := { dst := some 144, op := Go.Op.call { callee := Go.Callee.value (Go.Operand.func 88), args := #[Go.Operand.tmp 143], argTypes := #[73] }, type := 4, pos := "l34_cost.go:67", after := #[{ on := 0, ground := Go.Ground.data }], guard := none }) rfl (fun K hK => ?_) AllReadyH.nil
                                  go_simp
                                  (first | (go_at_call 88; go_must (refine (domOkS_any x y false _).mono ?_; rintro e wX ⟨rfl, hbX⟩; rw [Hdo.out]; obtain ⟨hcX, hfX, hzX⟩ := bkn hbX (wc.heap.size + 1) hz; have hz := hzX; have Bw := Bw.tr hbX); (try go_wp2_with fail)) | (go_at_call 89; go_must (refine (secondS_eq x y false ((x + 1) : Nat) (y : Nat) Hsec _).mono ?_; rintro e wX ⟨rfl, hbX⟩; obtain ⟨hcX, hfX, hzX⟩ := bkn hbX (wc.heap.size + 1) hz; have hz := hzX; have Bw := Bw.tr hbX); (try go_wp2_with fail)) | (go_at_call 86; go_must (refine (l03HasS_yes _ rows (x + 1) y _ (h.below RE.stays (BB.tr Bw)) Hok (by omega) (by omega)).mono ?_; rintro e wX ⟨rfl, hbX⟩; rw [← Hse.out, Hq.out]; obtain ⟨hcX, hfX, hzX⟩ := bkn hbX (wc.heap.size + 1) hz; have hz := hzX; have Bw := Bw.tr hbX); (try go_wp2_with fail)))
                                  refine hK.out _ _ ?_ (fun hHeld => ?_)
                                  · (try dsimp only); go_keep
                                  clear hK K
                                  (try simp only [Act.put, List.setIfInBounds_toArray, List.set_cons_zero, List.set_cons_succ])
                                  refine wpAnyH_take (i := 2) (oi := { dst := some 145, op := Go.Op.move (Go.Operand.tmp 144), type := 4, pos := "l34_cost.go:67", after := #[{ on := 1, ground := Go.Ground.data }, { on := 1, ground := Go.Ground.chain }], guard := none }) (v := ?_) rfl (by kernel_rfl) (by kernel_rfl) (by kernel_rfl) (fun _ _ _ h => h) (Or.inl ⟨by rfl, ?_⟩) (by assumption) ?_
                                  rotate_left 1
                                  · (intro wS hSw; (try dsimp only at hSw); go_simp; (all_goals with_reducible rfl))
                                  simp only [Act.put, List.setIfInBounds_toArray, List.set_cons_zero, List.set_cons_succ]
                                  refine wpAnyH_take (i := 3) (oi := { dst := some 146, op := Go.Op.load 31 (Go.Operand.tmp 3), type := 31, pos := "l34_cost.go:67", after := #[{ on := 2, ground := Go.Ground.guard }], guard := some (2, true) }) (v := ?_) rfl (by kernel_rfl) (by kernel_rfl) (by kernel_rfl) (fun _ _ _ h => h) (Or.inl ⟨by rfl, ?_⟩) (by assumption) ?_
                                  rotate_left 1
                                  · (intro wS hSw; (try dsimp only at hSw); go_simp; (all_goals with_reducible rfl))
                                  simp only [Act.put, List.setIfInBounds_toArray, List.set_cons_zero, List.set_cons_succ]
                                  refine wpAnyH_take (i := 4) (oi := { dst := some 147, op := Go.Op.load 73 (Go.Operand.tmp 19), type := 73, pos := "l34_cost.go:67", after := #[{ on := 2, ground := Go.Ground.guard }], guard := some (2, true) }) (v := ?_) rfl (by kernel_rfl) (by kernel_rfl) (by kernel_rfl) (fun _ _ _ h => h) (Or.inl ⟨by rfl, ?_⟩) (by assumption) ?_
                                  rotate_left 1
                                  · (intro wS hSw; (try dsimp only at hSw); go_simp; (all_goals with_reducible rfl))
                                  simp only [Act.put, List.setIfInBounds_toArray, List.set_cons_zero, List.set_cons_succ]
                                  refine wpAnyH_ready (rs := [5]) (by kernel_rfl) (by simp) ?_
                                  refine AllReadyH.cons (o := { dst := some 148, op := Go.Op.call { callee := Go.Callee.value (Go.Operand.func 89), args := #[Go.Operand.tmp 147], argTypes := #[73] }, type := 70, pos := "l34_cost.go:67", after := #[{ on := 4, ground := Go.Ground.data }, { on := 2, ground := Go.Ground.chain }, { on := 2, ground := Go.Ground.guard }], guard := some (2, true) }) rfl (fun K hK => ?_) AllReadyH.nil
                                  go_simp
                                  (first | (go_at_call 88; go_must (refine (domOkS_any x y false _).mono ?_; rintro e wX ⟨rfl, hbX⟩; rw [Hdo.out]; obtain ⟨hcX, hfX, hzX⟩ := bkn hbX (wc.heap.size + 1) hz; have hz := hzX; have Bw := Bw.tr hbX); (try go_wp2_with fail)) | (go_at_call 89; go_must (refine (secondS_eq x y false ((x + 1) : Nat) (y : Nat) Hsec _).mono ?_; rintro e wX ⟨rfl, hbX⟩; obtain ⟨hcX, hfX, hzX⟩ := bkn hbX (wc.heap.size + 1) hz; have hz := hzX; have Bw := Bw.tr hbX); (try go_wp2_with fail)) | (go_at_call 86; go_must (refine (l03HasS_yes _ rows (x + 1) y _ (h.below RE.stays (BB.tr Bw)) Hok (by omega) (by omega)).mono ?_; rintro e wX ⟨rfl, hbX⟩; rw [← Hse.out, Hq.out]; obtain ⟨hcX, hfX, hzX⟩ := bkn hbX (wc.heap.size + 1) hz; have hz := hzX; have Bw := Bw.tr hbX); (try go_wp2_with fail)))
                                  refine hK.out _ _ ?_ (fun hHeld => ?_)
                                  · (try dsimp only); go_keep
                                  clear hK K
                                  (try simp only [Act.put, List.setIfInBounds_toArray, List.set_cons_zero, List.set_cons_succ])
                                  refine wpAnyH_ready (rs := [6]) (by kernel_rfl) (by simp) ?_
                                  refine AllReadyH.cons (o := { dst := some 149, op := Go.Op.call { callee := Go.Callee.value (Go.Operand.func 86), args := #[Go.Operand.tmp 146, Go.Operand.tmp 148], argTypes := #[31, 70] }, type := 4, pos := "l34_cost.go:67", after := #[{ on := 3, ground := Go.Ground.data }, { on := 5, ground := Go.Ground.data }, { on := 5, ground := Go.Ground.chain }, { on := 2, ground := Go.Ground.guard }], guard := some (2, true) }) rfl (fun K hK => ?_) AllReadyH.nil
                                  go_simp
                                  (first | (go_at_call 88; go_must (refine (domOkS_any x y false _).mono ?_; rintro e wX ⟨rfl, hbX⟩; rw [Hdo.out]; obtain ⟨hcX, hfX, hzX⟩ := bkn hbX (wc.heap.size + 1) hz; have hz := hzX; have Bw := Bw.tr hbX); (try go_wp2_with fail)) | (go_at_call 89; go_must (refine (secondS_eq x y false ((x + 1) : Nat) (y : Nat) Hsec _).mono ?_; rintro e wX ⟨rfl, hbX⟩; obtain ⟨hcX, hfX, hzX⟩ := bkn hbX (wc.heap.size + 1) hz; have hz := hzX; have Bw := Bw.tr hbX); (try go_wp2_with fail)) | (go_at_call 86; go_must (refine (l03HasS_yes _ rows (x + 1) y _ (h.below RE.stays (BB.tr Bw)) Hok (by omega) (by omega)).mono ?_; rintro e wX ⟨rfl, hbX⟩; rw [← Hse.out, Hq.out]; obtain ⟨hcX, hfX, hzX⟩ := bkn hbX (wc.heap.size + 1) hz; have hz := hzX; have Bw := Bw.tr hbX); (try go_wp2_with fail)))
                                  refine hK.out _ _ ?_ (fun hHeld => ?_)
                                  · (try dsimp only); go_keep
                                  clear hK K
                                  (try simp only [Act.put, List.setIfInBounds_toArray, List.set_cons_zero, List.set_cons_succ])
                                  refine wpAnyH_take (i := 7) (oi := { dst := some 150, op := Go.Op.pick (Go.Operand.tmp 145) (Go.Operand.tmp 149) (Go.Operand.const (Go.Value.bool false)), type := 4, pos := "l34_cost.go:67", after := #[{ on := 2, ground := Go.Ground.data }, { on := 6, ground := Go.Ground.data }], guard := none }) (v := ?_) rfl (by kernel_rfl) (by kernel_rfl) (by kernel_rfl) (fun _ _ _ h => h) (Or.inl ⟨by rfl, ?_⟩) (by assumption) ?_
                                  rotate_left 1
                                  · (intro wS hSw; (try dsimp only at hSw); go_simp; (all_goals with_reducible rfl))
                                  simp only [Act.put, List.setIfInBounds_toArray, List.set_cons_zero, List.set_cons_succ]
                                  refine wpAnyH_take (i := 8) (oi := { dst := some 151, op := Go.Op.move (Go.Operand.tmp 150), type := 4, pos := "l34_cost.go:67", after := #[{ on := 7, ground := Go.Ground.data }, { on := 6, ground := Go.Ground.chain }], guard := none }) (v := ?_) rfl (by kernel_rfl) (by kernel_rfl) (by kernel_rfl) (fun _ _ _ h => h) (Or.inl ⟨by rfl, ?_⟩) (by assumption) ?_
                                  rotate_left 1
                                  · (intro wS hSw; (try dsimp only at hSw); go_simp; (all_goals with_reducible rfl))
                                  simp only [Act.put, List.setIfInBounds_toArray, List.set_cons_zero, List.set_cons_succ]
                                  refine wpAnyH_take (i := 9) (oi := { dst := some 152, op := Go.Op.move (Go.Operand.tmp 14), type := 3, pos := "l34_cost.go:67", after := #[{ on := 8, ground := Go.Ground.guard }], guard := some (8, true) }) (v := ?_) rfl (by kernel_rfl) (by kernel_rfl) (by kernel_rfl) (fun _ _ _ h => h) (Or.inl ⟨by rfl, ?_⟩) (by assumption) ?_
                                  rotate_left 1
                                  · (intro wS hSw; (try dsimp only at hSw); go_simp; (all_goals with_reducible rfl))
                                  simp only [Act.put, List.setIfInBounds_toArray, List.set_cons_zero, List.set_cons_succ]
                                  refine wpAnyH_take (i := 10) (oi := { dst := some 153, op := Go.Op.move (Go.Operand.tmp 9), type := 3, pos := "l34_cost.go:67", after := #[{ on := 8, ground := Go.Ground.guard }], guard := some (8, true) }) (v := ?_) rfl (by kernel_rfl) (by kernel_rfl) (by kernel_rfl) (fun _ _ _ h => h) (Or.inl ⟨by rfl, ?_⟩) (by assumption) ?_
                                  rotate_left 1
                                  · (intro wS hSw; (try dsimp only at hSw); go_simp; (all_goals with_reducible rfl))
                                  simp only [Act.put, List.setIfInBounds_toArray, List.set_cons_zero, List.set_cons_succ]
                                  refine wpAnyH_take (i := 11) (oi := { dst := some 154, op := Go.Op.binOp Go.BinOp.add 3 (Go.Operand.tmp 153) (Go.Operand.const (Go.Value.int Go.IntKind.i64 1)) 3, type := 3, pos := "l34_cost.go:67", after := #[{ on := 10, ground := Go.Ground.data }, { on := 8, ground := Go.Ground.guard }], guard := some (8, true) }) (v := ?_) rfl (by kernel_rfl) (by kernel_rfl) (by kernel_rfl) (fun _ _ _ h => h) (Or.inl ⟨by rfl, ?_⟩) (by assumption) ?_
                                  rotate_left 1
                                  · (intro wS hSw; (try dsimp only at hSw); go_simp; (all_goals with_reducible rfl))
                                  simp only [Act.put, List.setIfInBounds_toArray, List.set_cons_zero, List.set_cons_succ]
                                  refine wpAnyH_take (i := 12) (oi := { dst := some 155, op := Go.Op.binOp Go.BinOp.shr 3 (Go.Operand.tmp 152) (Go.Operand.tmp 154) 3, type := 3, pos := "l34_cost.go:67", after := #[{ on := 9, ground := Go.Ground.data }, { on := 11, ground := Go.Ground.data }, { on := 8, ground := Go.Ground.guard }], guard := some (8, true) }) (v := ?_) rfl (by kernel_rfl) (by kernel_rfl) (by kernel_rfl) (fun _ _ _ h => h) (Or.inl ⟨by rfl, ?_⟩) (by assumption) ?_
                                  rotate_left 1
                                  · (intro wS hSw; (try dsimp only at hSw); go_simp; (all_goals with_reducible rfl))
                                  simp only [Act.put, List.setIfInBounds_toArray, List.set_cons_zero, List.set_cons_succ]
                                  refine wpAnyH_take (i := 13) (oi := { dst := some 156, op := Go.Op.binOp Go.BinOp.and 3 (Go.Operand.tmp 155) (Go.Operand.const (Go.Value.int Go.IntKind.i64 1)) 3, type := 3, pos := "l34_cost.go:67", after := #[{ on := 12, ground := Go.Ground.data }, { on := 8, ground := Go.Ground.guard }], guard := some (8, true) }) (v := ?_) rfl (by kernel_rfl) (by kernel_rfl) (by kernel_rfl) (fun _ _ _ h => h) (Or.inl ⟨by rfl, ?_⟩) (by assumption) ?_
                                  rotate_left 1
                                  · (intro wS hSw; (try dsimp only at hSw); go_simp; (all_goals with_reducible rfl))
                                  simp only [Act.put, List.setIfInBounds_toArray, List.set_cons_zero, List.set_cons_succ]
                                  refine wpAnyH_take (i := 14) (oi := { dst := some 157, op := Go.Op.binOp Go.BinOp.eql 3 (Go.Operand.tmp 156) (Go.Operand.const (Go.Value.int Go.IntKind.i64 0)) 3, type := 4, pos := "l34_cost.go:67", after := #[{ on := 13, ground := Go.Ground.data }, { on := 8, ground := Go.Ground.guard }], guard := some (8, true) }) (v := ?_) rfl (by kernel_rfl) (by kernel_rfl) (by kernel_rfl) (fun _ _ _ h => h) (Or.inl ⟨by rfl, ?_⟩) (by assumption) ?_
                                  rotate_left 1
                                  · (intro wS hSw; (try dsimp only at hSw); go_simp; (all_goals with_reducible rfl))
                                  simp only [Act.put, List.setIfInBounds_toArray, List.set_cons_zero, List.set_cons_succ]
                                  refine wpAnyH_take (i := 15) (oi := { dst := some 158, op := Go.Op.pick (Go.Operand.tmp 151) (Go.Operand.tmp 157) (Go.Operand.const (Go.Value.bool false)), type := 4, pos := "l34_cost.go:67", after := #[{ on := 8, ground := Go.Ground.data }, { on := 14, ground := Go.Ground.data }], guard := none }) (v := ?_) rfl (by kernel_rfl) (by kernel_rfl) (by kernel_rfl) (fun _ _ _ h => h) (Or.inl ⟨by rfl, ?_⟩) (by assumption) ?_
                                  rotate_left 1
                                  · (intro wS hSw; (try dsimp only at hSw); go_simp; (all_goals with_reducible rfl))
                                  simp only [Act.put, List.setIfInBounds_toArray, List.set_cons_zero, List.set_cons_succ]
                                  refine wpAnyH_done (by kernel_rfl) ?_ _
                                  have stX := stR.bl Bw
                                  have zd0 := hHeld.1
                                  have zd1 := hHeld.2.1
                                  have zd2 := hHeld.2.2.1
                                  have hgdl : wc.heap.size < wX.heap.size := by omega
                                  have hi3 : wc.heap.size ≠ gn := by have := stR.2.1.at_.2.2; omega
                                  have eP2 : IntKind.i64.wrap (P2 : Int) = (P2 : Int) := IntWalk.i64_in _ (by omega)
                                  clear hcX hfX hHeld zcR0 zcR1 zxR hz Bw BB
                                  have hKL : (K ||| P2) < (nd : List Int).length := by rw [HlR.out]; omega
                                  have zV := stX.2.1.slot lenInt Nat.one_pos hKL 0 (.int .i64 (nd : List Int)[(K ||| P2)]) rfl
                                  rw [Nat.mul_one, Nat.add_zero] at zV
                                  have hsf := stX.2.1.free
                                  have hvg := HgR.out (K ||| P2) _ (List.getElem?_eq_getElem hKL)
                                  have hvD : (nd : List Int).getD ((K ||| P2)) 0 = (nd : List Int)[(K ||| P2)] := by rw [List.getD_eq_getElem?_getD, List.getElem?_eq_getElem hKL, Option.getD_some]
                                  obtain ⟨v, hv⟩ : ∃ v, v = (nd : List Int)[(K ||| P2)] := ⟨_, rfl⟩
                                  rw [← hv] at zV hvg hvD
                                  have hv1 : -1 ≤ v := by rcases hvg with e | e <;> omega
                                  have HvD := Lib.hid hvD; clear hvg hv hvD
                                  obtain ⟨u, hu⟩ : ∃ u, u = (if v = -1 then n + domPrice (pa, pb, pc, pd) ((x : Int), (y : Int), false) else min v (n + domPrice (pa, pb, pc, pd) ((x : Int), (y : Int), false))) := ⟨_, rfl⟩
                                  have HU := Lib.hid hu; clear hu
                                  have D0 := domPrice_in (pa, pb, pc, pd) ((x : Int), (y : Int), false)
                                  have e3 : IntKind.i64.wrap (n + domPrice (pa, pb, pc, pd) ((x : Int), (y : Int), false)) = n + domPrice (pa, pb, pc, pd) ((x : Int), (y : Int), false) := IntWalk.i64_in _ (by omega)
                                  have bPX := bP2.bl stX.2.2.2.2
                                  have zp0 := bPX.cell 0
                                  have zp1 := bPX.cell 1
                                  have zp2 := bPX.cell 2
                                  have zp3 := bPX.cell 3
                                  simp only [List.getElem?_toArray, List.getElem?_cons_zero, List.getElem?_cons_succ] at zp0 zp1 zp2 zp3
                                  have hB1 := stX.2.1.at_.2.1
                                  have hB2 := bP2.lt
                                  have hB3 := stX.2.1.at_.2.2
                                  have hi1 : w.heap.size ≠ gn := by omega
                                  have hi2 : gn ≠ w.heap.size := by omega
                                  have hKI : (((K ||| P2) : Nat) : Int) < 256 := by omega
                                  have hi4 := hi3.symm
                                  have hz : wX.heap.size ≤ wX.drew.heap.size := by simp
                                  have Bw : Below wX.heap.size wX wX.drew := (Below.refl _ _).drew
                                  have hN1 : w.heap.size < wX.heap.size := by omega
                                  go_wp2_with fail
                                  refine wp_region_held_drew (S := (fun w' => w'.cell? ⟨wc.heap.size, 0, none⟩ = some (.int .i64 x) ∧ w'.cell? ⟨wc.heap.size, 1, none⟩ = some (.int .i64 y) ∧ w'.cell? ⟨wc.heap.size, 2, none⟩ = some (.bool false) ∧ w'.cell? ⟨w.heap.size, 0, none⟩ = some (.int .i64 pa) ∧ w'.cell? ⟨w.heap.size, 1, none⟩ = some (.int .i64 pb) ∧ w'.cell? ⟨w.heap.size, 2, none⟩ = some (.int .i64 pc) ∧ w'.cell? ⟨w.heap.size, 3, none⟩ = some (.int .i64 pd))) (by kernel_rfl) ?_ (fun hHeld => ?_)
                                  · (try dsimp only); go_keep
                                  refine wpAnyH_take (i := 0) (oi := { dst := some 159, op := Go.Op.move (Go.Operand.tmp 12), type := 24, pos := "l34_cost.go:68", after := #[], guard := none }) (v := ?_) rfl (by kernel_rfl) (by kernel_rfl) (by kernel_rfl) (fun _ _ _ h => h) (Or.inl ⟨by rfl, ?_⟩) (by assumption) ?_
                                  rotate_left 1
                                  · (intro wS hSw; (try dsimp only at hSw); go_simp; (all_goals with_reducible rfl))
                                  simp only [Act.put, List.setIfInBounds_toArray, List.set_cons_zero, List.set_cons_succ]
                                  refine wpAnyH_take (i := 1) (oi := { dst := some 160, op := Go.Op.move (Go.Operand.tmp 14), type := 3, pos := "l34_cost.go:68", after := #[], guard := none }) (v := ?_) rfl (by kernel_rfl) (by kernel_rfl) (by kernel_rfl) (fun _ _ _ h => h) (Or.inl ⟨by rfl, ?_⟩) (by assumption) ?_
                                  rotate_left 1
                                  · (intro wS hSw; (try dsimp only at hSw); go_simp; (all_goals with_reducible rfl))
                                  simp only [Act.put, List.setIfInBounds_toArray, List.set_cons_zero, List.set_cons_succ]
                                  refine wpAnyH_take (i := 2) (oi := { dst := some 161, op := Go.Op.move (Go.Operand.tmp 9), type := 3, pos := "l34_cost.go:68", after := #[], guard := none }) (v := ?_) rfl (by kernel_rfl) (by kernel_rfl) (by kernel_rfl) (fun _ _ _ h => h) (Or.inl ⟨by rfl, ?_⟩) (by assumption) ?_
                                  rotate_left 1
                                  · (intro wS hSw; (try dsimp only at hSw); go_simp; (all_goals with_reducible rfl))
                                  simp only [Act.put, List.setIfInBounds_toArray, List.set_cons_zero, List.set_cons_succ]
                                  refine wpAnyH_take (i := 3) (oi := { dst := some 162, op := Go.Op.binOp Go.BinOp.add 3 (Go.Operand.tmp 161) (Go.Operand.const (Go.Value.int Go.IntKind.i64 1)) 3, type := 3, pos := "l34_cost.go:68", after := #[{ on := 2, ground := Go.Ground.data }], guard := none }) (v := ?_) rfl (by kernel_rfl) (by kernel_rfl) (by kernel_rfl) (fun _ _ _ h => h) (Or.inl ⟨by rfl, ?_⟩) (by assumption) ?_
                                  rotate_left 1
                                  · (intro wS hSw; (try dsimp only at hSw); go_simp; (all_goals with_reducible rfl))
                                  simp only [Act.put, List.setIfInBounds_toArray, List.set_cons_zero, List.set_cons_succ]
                                  refine wpAnyH_take (i := 4) (oi := { dst := some 163, op := Go.Op.binOp Go.BinOp.shl 3 (Go.Operand.const (Go.Value.int Go.IntKind.i64 1)) (Go.Operand.tmp 162) 3, type := 3, pos := "l34_cost.go:68", after := #[{ on := 3, ground := Go.Ground.data }], guard := none }) (v := ?_) rfl (by kernel_rfl) (by kernel_rfl) (by kernel_rfl) (fun _ _ _ h => h) (Or.inl ⟨by rfl, ?_⟩) (by assumption) ?_
                                  rotate_left 1
                                  · (intro wS hSw; (try dsimp only at hSw); go_simp; (all_goals with_reducible rfl))
                                  simp only [Act.put, List.setIfInBounds_toArray, List.set_cons_zero, List.set_cons_succ]
                                  refine wpAnyH_take (i := 5) (oi := { dst := some 164, op := Go.Op.binOp Go.BinOp.or 3 (Go.Operand.tmp 160) (Go.Operand.tmp 163) 3, type := 3, pos := "l34_cost.go:68", after := #[{ on := 1, ground := Go.Ground.data }, { on := 4, ground := Go.Ground.data }], guard := none }) (v := ?_) rfl (by kernel_rfl) (by kernel_rfl) (by kernel_rfl) (fun _ _ _ h => h) (Or.inl ⟨by rfl, ?_⟩) (by assumption) ?_
                                  rotate_left 1
                                  · (intro wS hSw; (try dsimp only at hSw); go_simp; (all_goals with_reducible rfl))
                                  simp only [Act.put, List.setIfInBounds_toArray, List.set_cons_zero, List.set_cons_succ]
                                  refine wpAnyH_take (i := 6) (oi := { dst := some 165, op := Go.Op.move (Go.Operand.tmp 12), type := 24, pos := "l34_cost.go:68", after := #[], guard := none }) (v := ?_) rfl (by kernel_rfl) (by kernel_rfl) (by kernel_rfl) (fun _ _ _ h => h) (Or.inl ⟨by rfl, ?_⟩) (by assumption) ?_
                                  rotate_left 1
                                  · (intro wS hSw; (try dsimp only at hSw); go_simp; (all_goals with_reducible rfl))
                                  simp only [Act.put, List.setIfInBounds_toArray, List.set_cons_zero, List.set_cons_succ]
                                  refine wpAnyH_take (i := 7) (oi := { dst := some 166, op := Go.Op.move (Go.Operand.tmp 14), type := 3, pos := "l34_cost.go:68", after := #[], guard := none }) (v := ?_) rfl (by kernel_rfl) (by kernel_rfl) (by kernel_rfl) (fun _ _ _ h => h) (Or.inl ⟨by rfl, ?_⟩) (by assumption) ?_
                                  rotate_left 1
                                  · (intro wS hSw; (try dsimp only at hSw); go_simp; (all_goals with_reducible rfl))
                                  simp only [Act.put, List.setIfInBounds_toArray, List.set_cons_zero, List.set_cons_succ]
                                  refine wpAnyH_take (i := 8) (oi := { dst := some 167, op := Go.Op.move (Go.Operand.tmp 9), type := 3, pos := "l34_cost.go:68", after := #[], guard := none }) (v := ?_) rfl (by kernel_rfl) (by kernel_rfl) (by kernel_rfl) (fun _ _ _ h => h) (Or.inl ⟨by rfl, ?_⟩) (by assumption) ?_
                                  rotate_left 1
                                  · (intro wS hSw; (try dsimp only at hSw); go_simp; (all_goals with_reducible rfl))
                                  simp only [Act.put, List.setIfInBounds_toArray, List.set_cons_zero, List.set_cons_succ]
                                  refine wpAnyH_take (i := 9) (oi := { dst := some 168, op := Go.Op.binOp Go.BinOp.add 3 (Go.Operand.tmp 167) (Go.Operand.const (Go.Value.int Go.IntKind.i64 1)) 3, type := 3, pos := "l34_cost.go:68", after := #[{ on := 8, ground := Go.Ground.data }], guard := none }) (v := ?_) rfl (by kernel_rfl) (by kernel_rfl) (by kernel_rfl) (fun _ _ _ h => h) (Or.inl ⟨by rfl, ?_⟩) (by assumption) ?_
                                  rotate_left 1
                                  · (intro wS hSw; (try dsimp only at hSw); go_simp; (all_goals with_reducible rfl))
                                  simp only [Act.put, List.setIfInBounds_toArray, List.set_cons_zero, List.set_cons_succ]
                                  refine wpAnyH_take (i := 10) (oi := { dst := some 169, op := Go.Op.binOp Go.BinOp.shl 3 (Go.Operand.const (Go.Value.int Go.IntKind.i64 1)) (Go.Operand.tmp 168) 3, type := 3, pos := "l34_cost.go:68", after := #[{ on := 9, ground := Go.Ground.data }], guard := none }) (v := ?_) rfl (by kernel_rfl) (by kernel_rfl) (by kernel_rfl) (fun _ _ _ h => h) (Or.inl ⟨by rfl, ?_⟩) (by assumption) ?_
                                  rotate_left 1
                                  · (intro wS hSw; (try dsimp only at hSw); go_simp; (all_goals with_reducible rfl))
                                  simp only [Act.put, List.setIfInBounds_toArray, List.set_cons_zero, List.set_cons_succ]
                                  refine wpAnyH_take (i := 11) (oi := { dst := some 170, op := Go.Op.binOp Go.BinOp.or 3 (Go.Operand.tmp 166) (Go.Operand.tmp 169) 3, type := 3, pos := "l34_cost.go:68", after := #[{ on := 7, ground := Go.Ground.data }, { on := 10, ground := Go.Ground.data }], guard := none }) (v := ?_) rfl (by kernel_rfl) (by kernel_rfl) (by kernel_rfl) (fun _ _ _ h => h) (Or.inl ⟨by rfl, ?_⟩) (by assumption) ?_
                                  rotate_left 1
                                  · (intro wS hSw; (try dsimp only at hSw); go_simp; (all_goals with_reducible rfl))
                                  simp only [Act.put, List.setIfInBounds_toArray, List.set_cons_zero, List.set_cons_succ]
                                  refine wpAnyH_take (i := 12) (oi := { dst := some 171, op := Go.Op.indexAddr 24 (Go.Operand.tmp 165) (Go.Operand.tmp 170), type := 0, pos := "l34_cost.go:68", after := #[{ on := 6, ground := Go.Ground.data }, { on := 11, ground := Go.Ground.data }], guard := none }) (v := ?_) rfl (by kernel_rfl) (by kernel_rfl) (by kernel_rfl) (fun _ _ _ h => h) (Or.inl ⟨by rfl, ?_⟩) (by assumption) ?_
                                  rotate_left 1
                                  · (intro wS hSw; (try dsimp only at hSw); go_simp; (all_goals with_reducible rfl))
                                  simp only [Act.put, List.setIfInBounds_toArray, List.set_cons_zero, List.set_cons_succ]
                                  refine wpAnyH_take (i := 14) (oi := { dst := some 173, op := Go.Op.move (Go.Operand.tmp 15), type := 3, pos := "l34_cost.go:68", after := #[], guard := none }) (v := ?_) rfl (by kernel_rfl) (by kernel_rfl) (by kernel_rfl) (fun _ _ _ h => h) (Or.inl ⟨by rfl, ?_⟩) (by assumption) ?_
                                  rotate_left 1
                                  · (intro wS hSw; (try dsimp only at hSw); go_simp; (all_goals with_reducible rfl))
                                  simp only [Act.put, List.setIfInBounds_toArray, List.set_cons_zero, List.set_cons_succ]
                                  refine wpAnyH_take (i := 15) (oi := { dst := some 174, op := Go.Op.load 29 (Go.Operand.tmp 2), type := 29, pos := "l34_cost.go:68", after := #[], guard := none }) (v := ?_) rfl (by kernel_rfl) (by kernel_rfl) (by kernel_rfl) (fun _ _ _ h => h) (Or.inl ⟨by rfl, ?_⟩) (by assumption) ?_
                                  rotate_left 1
                                  · (intro wS hSw; (try dsimp only at hSw); go_simp; (all_goals with_reducible rfl))
                                  simp only [Act.put, List.setIfInBounds_toArray, List.set_cons_zero, List.set_cons_succ]
                                  refine wpAnyH_take (i := 16) (oi := { dst := some 175, op := Go.Op.load 73 (Go.Operand.tmp 19), type := 73, pos := "l34_cost.go:68", after := #[], guard := none }) (v := ?_) rfl (by kernel_rfl) (by kernel_rfl) (by kernel_rfl) (fun _ _ _ h => h) (Or.inl ⟨by rfl, ?_⟩) (by assumption) ?_
                                  rotate_left 1
                                  · (intro wS hSw; (try dsimp only at hSw); go_simp; (all_goals with_reducible rfl))
                                  simp only [Act.put, List.setIfInBounds_toArray, List.set_cons_zero, List.set_cons_succ]
                                  refine wpAnyH_ready (rs := [13, 17]) (by kernel_rfl) (by simp) ?_
                                  refine AllReadyH.cons (o := { dst := some 172, op := Go.Op.load 3 (Go.Operand.tmp 171), type := 3, pos := "l34_cost.go:68", after := #[{ on := 12, ground := Go.Ground.data }], guard := none }) rfl (fun K hK => ?_) ?_
                                  go_simp
                                  refine hK.out _ _ ?_ (fun hHeld => ?_)
                                  · (try dsimp only); go_keep
                                  clear hK K
                                  (try simp only [Act.put, List.setIfInBounds_toArray, List.set_cons_zero, List.set_cons_succ])
                                  refine wpAnyH_ready (rs := [17]) (by kernel_rfl) (by simp) ?_
                                  refine AllReadyH.cons (o := { dst := some 176, op := Go.Op.call { callee := Go.Callee.value (Go.Operand.func 90), args := #[Go.Operand.tmp 174, Go.Operand.tmp 175], argTypes := #[29, 73] }, type := 3, pos := "l34_cost.go:68", after := #[{ on := 15, ground := Go.Ground.data }, { on := 16, ground := Go.Ground.data }], guard := none }) rfl (fun K hK => ?_) AllReadyH.nil
                                  go_simp
                                  (first | (go_at_call 90; go_must (refine (domPriceS_any (pa, pb, pc, pd) ((x : Int), (y : Int), false) _).mono ?_; rintro e wY ⟨rfl, hbY⟩; obtain ⟨hcY, hfY, hzY⟩ := bkn hbY wX.heap.size hz; have hz := hzY; have Bw := Bw.tr hbY); (try go_wp2_with fail)) | (go_at_call 87; go_must (refine (least_u v (n + domPrice (pa, pb, pc, pd) ((x : Int), (y : Int), false)) u _ hv1 HU.out).mono ?_; rintro e wZ ⟨rfl, rfl⟩); (try go_wp2_with fail)))
                                  refine hK.out _ _ ?_ (fun hHeld => ?_)
                                  · (try dsimp only); go_keep
                                  clear hK K
                                  (try simp only [Act.put, List.setIfInBounds_toArray, List.set_cons_zero, List.set_cons_succ])
                                  refine wpAnyH_take (i := 18) (oi := { dst := some 177, op := Go.Op.binOp Go.BinOp.add 3 (Go.Operand.tmp 173) (Go.Operand.tmp 176) 3, type := 3, pos := "l34_cost.go:68", after := #[{ on := 14, ground := Go.Ground.data }, { on := 17, ground := Go.Ground.data }], guard := none }) (v := ?_) rfl (by kernel_rfl) (by kernel_rfl) (by kernel_rfl) (fun _ _ _ h => h) (Or.inl ⟨by rfl, ?_⟩) (by assumption) ?_
                                  rotate_left 1
                                  · (intro wS hSw; (try dsimp only at hSw); go_simp; (all_goals with_reducible rfl))
                                  simp only [Act.put, List.setIfInBounds_toArray, List.set_cons_zero, List.set_cons_succ]
                                  refine wpAnyH_ready (rs := [19]) (by kernel_rfl) (by simp) ?_
                                  refine AllReadyH.cons (o := { dst := some 178, op := Go.Op.call { callee := Go.Callee.value (Go.Operand.func 87), args := #[Go.Operand.tmp 172, Go.Operand.tmp 177], argTypes := #[3, 3] }, type := 3, pos := "l34_cost.go:68", after := #[{ on := 13, ground := Go.Ground.data }, { on := 18, ground := Go.Ground.data }, { on := 17, ground := Go.Ground.chain }], guard := none }) rfl (fun K hK => ?_) AllReadyH.nil
                                  go_simp
                                  (first | (go_at_call 90; go_must (refine (domPriceS_any (pa, pb, pc, pd) ((x : Int), (y : Int), false) _).mono ?_; rintro e wY ⟨rfl, hbY⟩; obtain ⟨hcY, hfY, hzY⟩ := bkn hbY wX.heap.size hz; have hz := hzY; have Bw := Bw.tr hbY); (try go_wp2_with fail)) | (go_at_call 87; go_must (refine (least_u v (n + domPrice (pa, pb, pc, pd) ((x : Int), (y : Int), false)) u _ hv1 HU.out).mono ?_; rintro e wZ ⟨rfl, rfl⟩); (try go_wp2_with fail)))
                                  refine hK.out _ _ ?_ (fun hHeld => ?_)
                                  · (try dsimp only); go_keep
                                  clear hK K
                                  (try simp only [Act.put, List.setIfInBounds_toArray, List.set_cons_zero, List.set_cons_succ])
                                  refine wpAnyH_take (i := 20) (oi := { dst := some 179, op := Go.Op.indexAddr 24 (Go.Operand.tmp 159) (Go.Operand.tmp 164), type := 0, pos := "l34_cost.go:68", after := #[{ on := 0, ground := Go.Ground.data }, { on := 5, ground := Go.Ground.data }, { on := 0, ground := Go.Ground.phase }, { on := 1, ground := Go.Ground.phase }, { on := 2, ground := Go.Ground.phase }, { on := 3, ground := Go.Ground.phase }, { on := 4, ground := Go.Ground.phase }, { on := 5, ground := Go.Ground.phase }, { on := 6, ground := Go.Ground.phase }, { on := 7, ground := Go.Ground.phase }, { on := 8, ground := Go.Ground.phase }, { on := 9, ground := Go.Ground.phase }, { on := 10, ground := Go.Ground.phase }, { on := 11, ground := Go.Ground.phase }, { on := 12, ground := Go.Ground.phase }, { on := 13, ground := Go.Ground.phase }, { on := 14, ground := Go.Ground.phase }, { on := 15, ground := Go.Ground.phase }, { on := 16, ground := Go.Ground.phase }, { on := 17, ground := Go.Ground.phase }, { on := 18, ground := Go.Ground.phase }, { on := 19, ground := Go.Ground.phase }], guard := none }) (v := ?_) rfl (by kernel_rfl) (by kernel_rfl) (by kernel_rfl) (fun _ _ _ h => h) (Or.inl ⟨by rfl, ?_⟩) (by assumption) ?_
                                  rotate_left 1
                                  · (intro wS hSw; (try dsimp only at hSw); go_simp; (all_goals with_reducible rfl))
                                  simp only [Act.put, List.setIfInBounds_toArray, List.set_cons_zero, List.set_cons_succ]
                                  refine wpAnyH_ready (rs := [21]) (by kernel_rfl) (by simp) ?_
                                  refine AllReadyH.cons (o := { dst := none, op := Go.Op.store 3 (Go.Operand.tmp 179) (Go.Operand.tmp 178), type := 0, pos := "l34_cost.go:68", after := #[{ on := 20, ground := Go.Ground.data }, { on := 19, ground := Go.Ground.data }, { on := 19, ground := Go.Ground.chain }, { on := 0, ground := Go.Ground.phase }, { on := 1, ground := Go.Ground.phase }, { on := 2, ground := Go.Ground.phase }, { on := 3, ground := Go.Ground.phase }, { on := 4, ground := Go.Ground.phase }, { on := 5, ground := Go.Ground.phase }, { on := 6, ground := Go.Ground.phase }, { on := 7, ground := Go.Ground.phase }, { on := 8, ground := Go.Ground.phase }, { on := 9, ground := Go.Ground.phase }, { on := 10, ground := Go.Ground.phase }, { on := 11, ground := Go.Ground.phase }, { on := 12, ground := Go.Ground.phase }, { on := 13, ground := Go.Ground.phase }, { on := 14, ground := Go.Ground.phase }, { on := 15, ground := Go.Ground.phase }, { on := 16, ground := Go.Ground.phase }, { on := 17, ground := Go.Ground.phase }, { on := 18, ground := Go.Ground.phase }, { on := 19, ground := Go.Ground.phase }], guard := none }) rfl (fun K hK => ?_) AllReadyH.nil
                                  go_simp
                                  refine hK.out _ _ ?_ (fun hHeld => ?_)
                                  · (try dsimp only); go_keep
                                  clear hK K
                                  (try simp only [Act.put, List.setIfInBounds_toArray, List.set_cons_zero, List.set_cons_succ])
                                  refine wpAnyH_done (by kernel_rfl) ?_ _
                                  rotate_left 1
                                  refine AllReadyH.cons (o := { dst := some 176, op := Go.Op.call { callee := Go.Callee.value (Go.Operand.func 90), args := #[Go.Operand.tmp 174, Go.Operand.tmp 175], argTypes := #[29, 73] }, type := 3, pos := "l34_cost.go:68", after := #[{ on := 15, ground := Go.Ground.data }, { on := 16, ground := Go.Ground.data }], guard := none }) rfl (fun K hK => ?_) AllReadyH.nil
                                  go_simp
                                  (first | (go_at_call 90; go_must (refine (domPriceS_any (pa, pb, pc, pd) ((x : Int), (y : Int), false) _).mono ?_; rintro e wY ⟨rfl, hbY⟩; obtain ⟨hcY, hfY, hzY⟩ := bkn hbY wX.heap.size hz; have hz := hzY; have Bw := Bw.tr hbY); (try go_wp2_with fail)) | (go_at_call 87; go_must (refine (least_u v (n + domPrice (pa, pb, pc, pd) ((x : Int), (y : Int), false)) u _ hv1 HU.out).mono ?_; rintro e wZ ⟨rfl, rfl⟩); (try go_wp2_with fail)))
                                  refine hK.out _ _ ?_ (fun hHeld => ?_)
                                  · (try dsimp only); go_keep
                                  clear hK K
                                  (try simp only [Act.put, List.setIfInBounds_toArray, List.set_cons_zero, List.set_cons_succ])
                                  refine wpAnyH_take (i := 18) (oi := { dst := some 177, op := Go.Op.binOp Go.BinOp.add 3 (Go.Operand.tmp 173) (Go.Operand.tmp 176) 3, type := 3, pos := "l34_cost.go:68", after := #[{ on := 14, ground := Go.Ground.data }, { on := 17, ground := Go.Ground.data }], guard := none }) (v := ?_) rfl (by kernel_rfl) (by kernel_rfl) (by kernel_rfl) (fun _ _ _ h => h) (Or.inl ⟨by rfl, ?_⟩) (by assumption) ?_
                                  rotate_left 1
                                  · (intro wS hSw; (try dsimp only at hSw); go_simp; (all_goals with_reducible rfl))
                                  simp only [Act.put, List.setIfInBounds_toArray, List.set_cons_zero, List.set_cons_succ]
                                  refine wpAnyH_ready (rs := [13]) (by kernel_rfl) (by simp) ?_
                                  refine AllReadyH.cons (o := { dst := some 172, op := Go.Op.load 3 (Go.Operand.tmp 171), type := 3, pos := "l34_cost.go:68", after := #[{ on := 12, ground := Go.Ground.data }], guard := none }) rfl (fun K hK => ?_) AllReadyH.nil
                                  go_simp
                                  refine hK.out _ _ ?_ (fun hHeld => ?_)
                                  · (try dsimp only); go_keep
                                  clear hK K
                                  (try simp only [Act.put, List.setIfInBounds_toArray, List.set_cons_zero, List.set_cons_succ])
                                  refine wpAnyH_ready (rs := [19]) (by kernel_rfl) (by simp) ?_
                                  refine AllReadyH.cons (o := { dst := some 178, op := Go.Op.call { callee := Go.Callee.value (Go.Operand.func 87), args := #[Go.Operand.tmp 172, Go.Operand.tmp 177], argTypes := #[3, 3] }, type := 3, pos := "l34_cost.go:68", after := #[{ on := 13, ground := Go.Ground.data }, { on := 18, ground := Go.Ground.data }, { on := 17, ground := Go.Ground.chain }], guard := none }) rfl (fun K hK => ?_) AllReadyH.nil
                                  go_simp
                                  (first | (go_at_call 90; go_must (refine (domPriceS_any (pa, pb, pc, pd) ((x : Int), (y : Int), false) _).mono ?_; rintro e wY ⟨rfl, hbY⟩; obtain ⟨hcY, hfY, hzY⟩ := bkn hbY wX.heap.size hz; have hz := hzY; have Bw := Bw.tr hbY); (try go_wp2_with fail)) | (go_at_call 87; go_must (refine (least_u v (n + domPrice (pa, pb, pc, pd) ((x : Int), (y : Int), false)) u _ hv1 HU.out).mono ?_; rintro e wZ ⟨rfl, rfl⟩); (try go_wp2_with fail)))
                                  refine hK.out _ _ ?_ (fun hHeld => ?_)
                                  · (try dsimp only); go_keep
                                  clear hK K
                                  (try simp only [Act.put, List.setIfInBounds_toArray, List.set_cons_zero, List.set_cons_succ])
                                  refine wpAnyH_take (i := 20) (oi := { dst := some 179, op := Go.Op.indexAddr 24 (Go.Operand.tmp 159) (Go.Operand.tmp 164), type := 0, pos := "l34_cost.go:68", after := #[{ on := 0, ground := Go.Ground.data }, { on := 5, ground := Go.Ground.data }, { on := 0, ground := Go.Ground.phase }, { on := 1, ground := Go.Ground.phase }, { on := 2, ground := Go.Ground.phase }, { on := 3, ground := Go.Ground.phase }, { on := 4, ground := Go.Ground.phase }, { on := 5, ground := Go.Ground.phase }, { on := 6, ground := Go.Ground.phase }, { on := 7, ground := Go.Ground.phase }, { on := 8, ground := Go.Ground.phase }, { on := 9, ground := Go.Ground.phase }, { on := 10, ground := Go.Ground.phase }, { on := 11, ground := Go.Ground.phase }, { on := 12, ground := Go.Ground.phase }, { on := 13, ground := Go.Ground.phase }, { on := 14, ground := Go.Ground.phase }, { on := 15, ground := Go.Ground.phase }, { on := 16, ground := Go.Ground.phase }, { on := 17, ground := Go.Ground.phase }, { on := 18, ground := Go.Ground.phase }, { on := 19, ground := Go.Ground.phase }], guard := none }) (v := ?_) rfl (by kernel_rfl) (by kernel_rfl) (by kernel_rfl) (fun _ _ _ h => h) (Or.inl ⟨by rfl, ?_⟩) (by assumption) ?_
                                  rotate_left 1
                                  · (intro wS hSw; (try dsimp only at hSw); go_simp; (all_goals with_reducible rfl))
                                  simp only [Act.put, List.setIfInBounds_toArray, List.set_cons_zero, List.set_cons_succ]
                                  refine wpAnyH_ready (rs := [21]) (by kernel_rfl) (by simp) ?_
                                  refine AllReadyH.cons (o := { dst := none, op := Go.Op.store 3 (Go.Operand.tmp 179) (Go.Operand.tmp 178), type := 0, pos := "l34_cost.go:68", after := #[{ on := 20, ground := Go.Ground.data }, { on := 19, ground := Go.Ground.data }, { on := 19, ground := Go.Ground.chain }, { on := 0, ground := Go.Ground.phase }, { on := 1, ground := Go.Ground.phase }, { on := 2, ground := Go.Ground.phase }, { on := 3, ground := Go.Ground.phase }, { on := 4, ground := Go.Ground.phase }, { on := 5, ground := Go.Ground.phase }, { on := 6, ground := Go.Ground.phase }, { on := 7, ground := Go.Ground.phase }, { on := 8, ground := Go.Ground.phase }, { on := 9, ground := Go.Ground.phase }, { on := 10, ground := Go.Ground.phase }, { on := 11, ground := Go.Ground.phase }, { on := 12, ground := Go.Ground.phase }, { on := 13, ground := Go.Ground.phase }, { on := 14, ground := Go.Ground.phase }, { on := 15, ground := Go.Ground.phase }, { on := 16, ground := Go.Ground.phase }, { on := 17, ground := Go.Ground.phase }, { on := 18, ground := Go.Ground.phase }, { on := 19, ground := Go.Ground.phase }], guard := none }) rfl (fun K hK => ?_) AllReadyH.nil
                                  go_simp
                                  refine hK.out _ _ ?_ (fun hHeld => ?_)
                                  · (try dsimp only); go_keep
                                  clear hK K
                                  (try simp only [Act.put, List.setIfInBounds_toArray, List.set_cons_zero, List.set_cons_succ])
                                  refine wpAnyH_done (by kernel_rfl) ?_ _
                                  all_goals
                                    have stZ := ((stX.bl Bw).put ((stX.bl Bw).2.1.store1 lenInt hKL (y := u) rfl) (gr_set (World.grownBy.refl _ _) _ _))
                                    have e7 : (nd : List Int).set (K ||| P2) u = dpPut (-1) min nd (K ||| P2) (n + domPrice (pa, pb, pc, pd) ((x : Int), (y : Int), false)) := by unfold dpPut; rw [HvD.out, HU.out]
                                    rw [e7] at stZ
                                    go_wp2
                                    go_roundw
                                    case rel => exact ⟨K + 1, _, by omega, by go_num, Lib.hid (by rw [dpRow_succ, ← Hnx.out, HnD.out]; exact Heq.out.symm), stZ⟩
                                    case measure => simp [intOf]; omega
                                · rw [hk1] at t34
                                  have Heq : Hid (dpOne s (-1) min (wtC (pa, pb, pc, pd)) i nx K n = nd) := Lib.hid (by rw [Hone.out, Hdn.out]; unfold dpRt; rw [Hr.out, ← Hx.out, hk1]; rfl)
                                  clear hk1
                                  go_wp2_with fail
                                  refine wp_region_held_drew (S := (fun w' => w'.cell? ⟨wc.heap.size, 0, none⟩ = some (.int .i64 x) ∧ w'.cell? ⟨wc.heap.size, 1, none⟩ = some (.int .i64 y) ∧ w'.cell? ⟨wc.heap.size, 2, none⟩ = some (.bool false) ∧ w'.cell? ⟨w.heap.size + 1, 0, none⟩ = some (.slice A rows.length c))) (by kernel_rfl) ?_ (fun hHeld => ?_)
                                  · (try dsimp only); go_keep
                                  refine wpAnyH_take (i := 0) (oi := { dst := some 143, op := Go.Op.load 73 (Go.Operand.tmp 19), type := 73, pos := "l34_cost.go:67", after := #[], guard := none }) (v := ?_) rfl (by kernel_rfl) (by kernel_rfl) (by kernel_rfl) (fun _ _ _ h => h) (Or.inl ⟨by rfl, ?_⟩) (by assumption) ?_
                                  rotate_left 1
                                  · (intro wS hSw; (try dsimp only at hSw); go_simp; (all_goals with_reducible rfl))
                                  simp only [Act.put, List.setIfInBounds_toArray, List.set_cons_zero, List.set_cons_succ]
                                  refine wpAnyH_ready (rs := [1]) (by kernel_rfl) (by simp) ?_
                                  refine AllReadyH.cons (o := { dst := some 144, op := Go.Op.call { callee := Go.Callee.value (Go.Operand.func 88), args := #[Go.Operand.tmp 143], argTypes := #[73] }, type := 4, pos := "l34_cost.go:67", after := #[{ on := 0, ground := Go.Ground.data }], guard := none }) rfl (fun K hK => ?_) AllReadyH.nil
                                  go_simp
                                  (first | (go_at_call 88; go_must (refine (domOkS_any x y false _).mono ?_; rintro e wX ⟨rfl, hbX⟩; rw [Hdo.out]; obtain ⟨hcX, hfX, hzX⟩ := bkn hbX (wc.heap.size + 1) hz; have hz := hzX; have Bw := Bw.tr hbX); (try go_wp2_with fail)) | (go_at_call 89; go_must (refine (secondS_eq x y false ((x + 1) : Nat) (y : Nat) Hsec _).mono ?_; rintro e wX ⟨rfl, hbX⟩; obtain ⟨hcX, hfX, hzX⟩ := bkn hbX (wc.heap.size + 1) hz; have hz := hzX; have Bw := Bw.tr hbX); (try go_wp2_with fail)) | (go_at_call 86; go_must (refine (l03HasS_yes _ rows (x + 1) y _ (h.below RE.stays (BB.tr Bw)) Hok (by omega) (by omega)).mono ?_; rintro e wX ⟨rfl, hbX⟩; rw [← Hse.out, Hq.out]; obtain ⟨hcX, hfX, hzX⟩ := bkn hbX (wc.heap.size + 1) hz; have hz := hzX; have Bw := Bw.tr hbX); (try go_wp2_with fail)))
                                  refine hK.out _ _ ?_ (fun hHeld => ?_)
                                  · (try dsimp only); go_keep
                                  clear hK K
                                  (try simp only [Act.put, List.setIfInBounds_toArray, List.set_cons_zero, List.set_cons_succ])
                                  refine wpAnyH_take (i := 2) (oi := { dst := some 145, op := Go.Op.move (Go.Operand.tmp 144), type := 4, pos := "l34_cost.go:67", after := #[{ on := 1, ground := Go.Ground.data }, { on := 1, ground := Go.Ground.chain }], guard := none }) (v := ?_) rfl (by kernel_rfl) (by kernel_rfl) (by kernel_rfl) (fun _ _ _ h => h) (Or.inl ⟨by rfl, ?_⟩) (by assumption) ?_
                                  rotate_left 1
                                  · (intro wS hSw; (try dsimp only at hSw); go_simp; (all_goals with_reducible rfl))
                                  simp only [Act.put, List.setIfInBounds_toArray, List.set_cons_zero, List.set_cons_succ]
                                  refine wpAnyH_take (i := 3) (oi := { dst := some 146, op := Go.Op.load 31 (Go.Operand.tmp 3), type := 31, pos := "l34_cost.go:67", after := #[{ on := 2, ground := Go.Ground.guard }], guard := some (2, true) }) (v := ?_) rfl (by kernel_rfl) (by kernel_rfl) (by kernel_rfl) (fun _ _ _ h => h) (Or.inl ⟨by rfl, ?_⟩) (by assumption) ?_
                                  rotate_left 1
                                  · (intro wS hSw; (try dsimp only at hSw); go_simp; (all_goals with_reducible rfl))
                                  simp only [Act.put, List.setIfInBounds_toArray, List.set_cons_zero, List.set_cons_succ]
                                  refine wpAnyH_take (i := 4) (oi := { dst := some 147, op := Go.Op.load 73 (Go.Operand.tmp 19), type := 73, pos := "l34_cost.go:67", after := #[{ on := 2, ground := Go.Ground.guard }], guard := some (2, true) }) (v := ?_) rfl (by kernel_rfl) (by kernel_rfl) (by kernel_rfl) (fun _ _ _ h => h) (Or.inl ⟨by rfl, ?_⟩) (by assumption) ?_
                                  rotate_left 1
                                  · (intro wS hSw; (try dsimp only at hSw); go_simp; (all_goals with_reducible rfl))
                                  simp only [Act.put, List.setIfInBounds_toArray, List.set_cons_zero, List.set_cons_succ]
                                  refine wpAnyH_ready (rs := [5]) (by kernel_rfl) (by simp) ?_
                                  refine AllReadyH.cons (o := { dst := some 148, op := Go.Op.call { callee := Go.Callee.value (Go.Operand.func 89), args := #[Go.Operand.tmp 147], argTypes := #[73] }, type := 70, pos := "l34_cost.go:67", after := #[{ on := 4, ground := Go.Ground.data }, { on := 2, ground := Go.Ground.chain }, { on := 2, ground := Go.Ground.guard }], guard := some (2, true) }) rfl (fun K hK => ?_) AllReadyH.nil
                                  go_simp
                                  (first | (go_at_call 88; go_must (refine (domOkS_any x y false _).mono ?_; rintro e wX ⟨rfl, hbX⟩; rw [Hdo.out]; obtain ⟨hcX, hfX, hzX⟩ := bkn hbX (wc.heap.size + 1) hz; have hz := hzX; have Bw := Bw.tr hbX); (try go_wp2_with fail)) | (go_at_call 89; go_must (refine (secondS_eq x y false ((x + 1) : Nat) (y : Nat) Hsec _).mono ?_; rintro e wX ⟨rfl, hbX⟩; obtain ⟨hcX, hfX, hzX⟩ := bkn hbX (wc.heap.size + 1) hz; have hz := hzX; have Bw := Bw.tr hbX); (try go_wp2_with fail)) | (go_at_call 86; go_must (refine (l03HasS_yes _ rows (x + 1) y _ (h.below RE.stays (BB.tr Bw)) Hok (by omega) (by omega)).mono ?_; rintro e wX ⟨rfl, hbX⟩; rw [← Hse.out, Hq.out]; obtain ⟨hcX, hfX, hzX⟩ := bkn hbX (wc.heap.size + 1) hz; have hz := hzX; have Bw := Bw.tr hbX); (try go_wp2_with fail)))
                                  refine hK.out _ _ ?_ (fun hHeld => ?_)
                                  · (try dsimp only); go_keep
                                  clear hK K
                                  (try simp only [Act.put, List.setIfInBounds_toArray, List.set_cons_zero, List.set_cons_succ])
                                  refine wpAnyH_ready (rs := [6]) (by kernel_rfl) (by simp) ?_
                                  refine AllReadyH.cons (o := { dst := some 149, op := Go.Op.call { callee := Go.Callee.value (Go.Operand.func 86), args := #[Go.Operand.tmp 146, Go.Operand.tmp 148], argTypes := #[31, 70] }, type := 4, pos := "l34_cost.go:67", after := #[{ on := 3, ground := Go.Ground.data }, { on := 5, ground := Go.Ground.data }, { on := 5, ground := Go.Ground.chain }, { on := 2, ground := Go.Ground.guard }], guard := some (2, true) }) rfl (fun K hK => ?_) AllReadyH.nil
                                  go_simp
                                  (first | (go_at_call 88; go_must (refine (domOkS_any x y false _).mono ?_; rintro e wX ⟨rfl, hbX⟩; rw [Hdo.out]; obtain ⟨hcX, hfX, hzX⟩ := bkn hbX (wc.heap.size + 1) hz; have hz := hzX; have Bw := Bw.tr hbX); (try go_wp2_with fail)) | (go_at_call 89; go_must (refine (secondS_eq x y false ((x + 1) : Nat) (y : Nat) Hsec _).mono ?_; rintro e wX ⟨rfl, hbX⟩; obtain ⟨hcX, hfX, hzX⟩ := bkn hbX (wc.heap.size + 1) hz; have hz := hzX; have Bw := Bw.tr hbX); (try go_wp2_with fail)) | (go_at_call 86; go_must (refine (l03HasS_yes _ rows (x + 1) y _ (h.below RE.stays (BB.tr Bw)) Hok (by omega) (by omega)).mono ?_; rintro e wX ⟨rfl, hbX⟩; rw [← Hse.out, Hq.out]; obtain ⟨hcX, hfX, hzX⟩ := bkn hbX (wc.heap.size + 1) hz; have hz := hzX; have Bw := Bw.tr hbX); (try go_wp2_with fail)))
                                  refine hK.out _ _ ?_ (fun hHeld => ?_)
                                  · (try dsimp only); go_keep
                                  clear hK K
                                  (try simp only [Act.put, List.setIfInBounds_toArray, List.set_cons_zero, List.set_cons_succ])
                                  refine wpAnyH_take (i := 7) (oi := { dst := some 150, op := Go.Op.pick (Go.Operand.tmp 145) (Go.Operand.tmp 149) (Go.Operand.const (Go.Value.bool false)), type := 4, pos := "l34_cost.go:67", after := #[{ on := 2, ground := Go.Ground.data }, { on := 6, ground := Go.Ground.data }], guard := none }) (v := ?_) rfl (by kernel_rfl) (by kernel_rfl) (by kernel_rfl) (fun _ _ _ h => h) (Or.inl ⟨by rfl, ?_⟩) (by assumption) ?_
                                  rotate_left 1
                                  · (intro wS hSw; (try dsimp only at hSw); go_simp; (all_goals with_reducible rfl))
                                  simp only [Act.put, List.setIfInBounds_toArray, List.set_cons_zero, List.set_cons_succ]
                                  refine wpAnyH_take (i := 8) (oi := { dst := some 151, op := Go.Op.move (Go.Operand.tmp 150), type := 4, pos := "l34_cost.go:67", after := #[{ on := 7, ground := Go.Ground.data }, { on := 6, ground := Go.Ground.chain }], guard := none }) (v := ?_) rfl (by kernel_rfl) (by kernel_rfl) (by kernel_rfl) (fun _ _ _ h => h) (Or.inl ⟨by rfl, ?_⟩) (by assumption) ?_
                                  rotate_left 1
                                  · (intro wS hSw; (try dsimp only at hSw); go_simp; (all_goals with_reducible rfl))
                                  simp only [Act.put, List.setIfInBounds_toArray, List.set_cons_zero, List.set_cons_succ]
                                  refine wpAnyH_take (i := 9) (oi := { dst := some 152, op := Go.Op.move (Go.Operand.tmp 14), type := 3, pos := "l34_cost.go:67", after := #[{ on := 8, ground := Go.Ground.guard }], guard := some (8, true) }) (v := ?_) rfl (by kernel_rfl) (by kernel_rfl) (by kernel_rfl) (fun _ _ _ h => h) (Or.inl ⟨by rfl, ?_⟩) (by assumption) ?_
                                  rotate_left 1
                                  · (intro wS hSw; (try dsimp only at hSw); go_simp; (all_goals with_reducible rfl))
                                  simp only [Act.put, List.setIfInBounds_toArray, List.set_cons_zero, List.set_cons_succ]
                                  refine wpAnyH_take (i := 10) (oi := { dst := some 153, op := Go.Op.move (Go.Operand.tmp 9), type := 3, pos := "l34_cost.go:67", after := #[{ on := 8, ground := Go.Ground.guard }], guard := some (8, true) }) (v := ?_) rfl (by kernel_rfl) (by kernel_rfl) (by kernel_rfl) (fun _ _ _ h => h) (Or.inl ⟨by rfl, ?_⟩) (by assumption) ?_
                                  rotate_left 1
                                  · (intro wS hSw; (try dsimp only at hSw); go_simp; (all_goals with_reducible rfl))
                                  simp only [Act.put, List.setIfInBounds_toArray, List.set_cons_zero, List.set_cons_succ]
                                  refine wpAnyH_take (i := 11) (oi := { dst := some 154, op := Go.Op.binOp Go.BinOp.add 3 (Go.Operand.tmp 153) (Go.Operand.const (Go.Value.int Go.IntKind.i64 1)) 3, type := 3, pos := "l34_cost.go:67", after := #[{ on := 10, ground := Go.Ground.data }, { on := 8, ground := Go.Ground.guard }], guard := some (8, true) }) (v := ?_) rfl (by kernel_rfl) (by kernel_rfl) (by kernel_rfl) (fun _ _ _ h => h) (Or.inl ⟨by rfl, ?_⟩) (by assumption) ?_
                                  rotate_left 1
                                  · (intro wS hSw; (try dsimp only at hSw); go_simp; (all_goals with_reducible rfl))
                                  simp only [Act.put, List.setIfInBounds_toArray, List.set_cons_zero, List.set_cons_succ]
                                  refine wpAnyH_take (i := 12) (oi := { dst := some 155, op := Go.Op.binOp Go.BinOp.shr 3 (Go.Operand.tmp 152) (Go.Operand.tmp 154) 3, type := 3, pos := "l34_cost.go:67", after := #[{ on := 9, ground := Go.Ground.data }, { on := 11, ground := Go.Ground.data }, { on := 8, ground := Go.Ground.guard }], guard := some (8, true) }) (v := ?_) rfl (by kernel_rfl) (by kernel_rfl) (by kernel_rfl) (fun _ _ _ h => h) (Or.inl ⟨by rfl, ?_⟩) (by assumption) ?_
                                  rotate_left 1
                                  · (intro wS hSw; (try dsimp only at hSw); go_simp; (all_goals with_reducible rfl))
                                  simp only [Act.put, List.setIfInBounds_toArray, List.set_cons_zero, List.set_cons_succ]
                                  refine wpAnyH_take (i := 13) (oi := { dst := some 156, op := Go.Op.binOp Go.BinOp.and 3 (Go.Operand.tmp 155) (Go.Operand.const (Go.Value.int Go.IntKind.i64 1)) 3, type := 3, pos := "l34_cost.go:67", after := #[{ on := 12, ground := Go.Ground.data }, { on := 8, ground := Go.Ground.guard }], guard := some (8, true) }) (v := ?_) rfl (by kernel_rfl) (by kernel_rfl) (by kernel_rfl) (fun _ _ _ h => h) (Or.inl ⟨by rfl, ?_⟩) (by assumption) ?_
                                  rotate_left 1
                                  · (intro wS hSw; (try dsimp only at hSw); go_simp; (all_goals with_reducible rfl))
                                  simp only [Act.put, List.setIfInBounds_toArray, List.set_cons_zero, List.set_cons_succ]
                                  refine wpAnyH_take (i := 14) (oi := { dst := some 157, op := Go.Op.binOp Go.BinOp.eql 3 (Go.Operand.tmp 156) (Go.Operand.const (Go.Value.int Go.IntKind.i64 0)) 3, type := 4, pos := "l34_cost.go:67", after := #[{ on := 13, ground := Go.Ground.data }, { on := 8, ground := Go.Ground.guard }], guard := some (8, true) }) (v := ?_) rfl (by kernel_rfl) (by kernel_rfl) (by kernel_rfl) (fun _ _ _ h => h) (Or.inl ⟨by rfl, ?_⟩) (by assumption) ?_
                                  rotate_left 1
                                  · (intro wS hSw; (try dsimp only at hSw); go_simp; (all_goals with_reducible rfl))
                                  simp only [Act.put, List.setIfInBounds_toArray, List.set_cons_zero, List.set_cons_succ]
                                  refine wpAnyH_take (i := 15) (oi := { dst := some 158, op := Go.Op.pick (Go.Operand.tmp 151) (Go.Operand.tmp 157) (Go.Operand.const (Go.Value.bool false)), type := 4, pos := "l34_cost.go:67", after := #[{ on := 8, ground := Go.Ground.data }, { on := 14, ground := Go.Ground.data }], guard := none }) (v := ?_) rfl (by kernel_rfl) (by kernel_rfl) (by kernel_rfl) (fun _ _ _ h => h) (Or.inl ⟨by rfl, ?_⟩) (by assumption) ?_
                                  rotate_left 1
                                  · (intro wS hSw; (try dsimp only at hSw); go_simp; (all_goals with_reducible rfl))
                                  simp only [Act.put, List.setIfInBounds_toArray, List.set_cons_zero, List.set_cons_succ]
                                  refine wpAnyH_done (by kernel_rfl) ?_ _
                                  go_wp2
                                  go_roundw
                                  case rel => exact ⟨K + 1, _, by omega, by go_num, Lib.hid (by rw [dpRow_succ, ← Hnx.out, HnD.out]; exact Heq.out.symm), (stR.bl Bw)⟩
                                  case measure => simp [intOf]; omega
                            · have Hdo : Hid (domOk ((x : Int), (y : Int), false) = false) := Lib.hid (by rw [domRt_ok hx8 hy8, decide_eq_false hx7])
                              have Heq : Hid (dpOne s (-1) min (wtC (pa, pb, pc, pd)) i nx K n = nd) := Lib.hid (by rw [Hone.out, Hdn.out]; unfold dpRt hasRt; rw [decide_eq_false (by have := Hx.out; omega)]; rfl)
                              go_wp2_with fail
                              refine wp_region_held_drew (S := (fun w' => w'.cell? ⟨wc.heap.size, 0, none⟩ = some (.int .i64 x) ∧ w'.cell? ⟨wc.heap.size, 1, none⟩ = some (.int .i64 y) ∧ w'.cell? ⟨wc.heap.size, 2, none⟩ = some (.bool false) ∧ w'.cell? ⟨w.heap.size + 1, 0, none⟩ = some (.slice A rows.length c))) (by kernel_rfl) ?_ (fun hHeld => ?_)
                              · (try dsimp only); go_keep
                              refine wpAnyH_take (i := 0) (oi := { dst := some 143, op := Go.Op.load 73 (Go.Operand.tmp 19), type := 73, pos := "l34_cost.go:67", after := #[], guard := none }) (v := ?_) rfl (by kernel_rfl) (by kernel_rfl) (by kernel_rfl) (fun _ _ _ h => h) (Or.inl ⟨by rfl, ?_⟩) (by assumption) ?_
                              rotate_left 1
                              · (intro wS hSw; (try dsimp only at hSw); go_simp; (all_goals with_reducible rfl))
                              simp only [Act.put, List.setIfInBounds_toArray, List.set_cons_zero, List.set_cons_succ]
                              refine wpAnyH_ready (rs := [1]) (by kernel_rfl) (by simp) ?_
                              refine AllReadyH.cons (o := { dst := some 144, op := Go.Op.call { callee := Go.Callee.value (Go.Operand.func 88), args := #[Go.Operand.tmp 143], argTypes := #[73] }, type := 4, pos := "l34_cost.go:67", after := #[{ on := 0, ground := Go.Ground.data }], guard := none }) rfl (fun K hK => ?_) AllReadyH.nil
                              go_simp
                              (first | (go_at_call 88; go_must (refine (domOkS_any x y false _).mono ?_; rintro e wX ⟨rfl, hbX⟩; rw [Hdo.out]; obtain ⟨hcX, hfX, hzX⟩ := bkn hbX (wc.heap.size + 1) hz; have hz := hzX; have Bw := Bw.tr hbX); (try go_wp2_with fail)))
                              refine hK.out _ _ ?_ (fun hHeld => ?_)
                              · (try dsimp only); go_keep
                              clear hK K
                              (try simp only [Act.put, List.setIfInBounds_toArray, List.set_cons_zero, List.set_cons_succ])
                              refine wpAnyH_take (i := 2) (oi := { dst := some 145, op := Go.Op.move (Go.Operand.tmp 144), type := 4, pos := "l34_cost.go:67", after := #[{ on := 1, ground := Go.Ground.data }, { on := 1, ground := Go.Ground.chain }], guard := none }) (v := ?_) rfl (by kernel_rfl) (by kernel_rfl) (by kernel_rfl) (fun _ _ _ h => h) (Or.inl ⟨by rfl, ?_⟩) (by assumption) ?_
                              rotate_left 1
                              · (intro wS hSw; (try dsimp only at hSw); go_simp; (all_goals with_reducible rfl))
                              simp only [Act.put, List.setIfInBounds_toArray, List.set_cons_zero, List.set_cons_succ]
                              refine wpAnyH_take (i := 3) (oi := { dst := some 146, op := Go.Op.load 31 (Go.Operand.tmp 3), type := 31, pos := "l34_cost.go:67", after := #[{ on := 2, ground := Go.Ground.guard }], guard := some (2, true) }) (v := undef) rfl (by kernel_rfl) (by kernel_rfl) (by kernel_rfl) (fun _ _ _ h => h) (Or.inr ⟨by rfl, rfl⟩) (by assumption) ?_
                              simp only [Act.put, List.setIfInBounds_toArray, List.set_cons_zero, List.set_cons_succ]
                              refine wpAnyH_take (i := 4) (oi := { dst := some 147, op := Go.Op.load 73 (Go.Operand.tmp 19), type := 73, pos := "l34_cost.go:67", after := #[{ on := 2, ground := Go.Ground.guard }], guard := some (2, true) }) (v := undef) rfl (by kernel_rfl) (by kernel_rfl) (by kernel_rfl) (fun _ _ _ h => h) (Or.inr ⟨by rfl, rfl⟩) (by assumption) ?_
                              simp only [Act.put, List.setIfInBounds_toArray, List.set_cons_zero, List.set_cons_succ]
                              refine wpAnyH_take (i := 5) (oi := { dst := some 148, op := Go.Op.call { callee := Go.Callee.value (Go.Operand.func 89), args := #[Go.Operand.tmp 147], argTypes := #[73] }, type := 70, pos := "l34_cost.go:67", after := #[{ on := 4, ground := Go.Ground.data }, { on := 2, ground := Go.Ground.chain }, { on := 2, ground := Go.Ground.guard }], guard := some (2, true) }) (v := undef) rfl (by kernel_rfl) (by kernel_rfl) (by kernel_rfl) (fun _ _ _ h => h) (Or.inr ⟨by rfl, rfl⟩) (by assumption) ?_
                              simp only [Act.put, List.setIfInBounds_toArray, List.set_cons_zero, List.set_cons_succ]
                              refine wpAnyH_take (i := 6) (oi := { dst := some 149, op := Go.Op.call { callee := Go.Callee.value (Go.Operand.func 86), args := #[Go.Operand.tmp 146, Go.Operand.tmp 148], argTypes := #[31, 70] }, type := 4, pos := "l34_cost.go:67", after := #[{ on := 3, ground := Go.Ground.data }, { on := 5, ground := Go.Ground.data }, { on := 5, ground := Go.Ground.chain }, { on := 2, ground := Go.Ground.guard }], guard := some (2, true) }) (v := undef) rfl (by kernel_rfl) (by kernel_rfl) (by kernel_rfl) (fun _ _ _ h => h) (Or.inr ⟨by rfl, rfl⟩) (by assumption) ?_
                              simp only [Act.put, List.setIfInBounds_toArray, List.set_cons_zero, List.set_cons_succ]
                              refine wpAnyH_take (i := 7) (oi := { dst := some 150, op := Go.Op.pick (Go.Operand.tmp 145) (Go.Operand.tmp 149) (Go.Operand.const (Go.Value.bool false)), type := 4, pos := "l34_cost.go:67", after := #[{ on := 2, ground := Go.Ground.data }, { on := 6, ground := Go.Ground.data }], guard := none }) (v := ?_) rfl (by kernel_rfl) (by kernel_rfl) (by kernel_rfl) (fun _ _ _ h => h) (Or.inl ⟨by rfl, ?_⟩) (by assumption) ?_
                              rotate_left 1
                              · (intro wS hSw; (try dsimp only at hSw); go_simp; (all_goals with_reducible rfl))
                              simp only [Act.put, List.setIfInBounds_toArray, List.set_cons_zero, List.set_cons_succ]
                              refine wpAnyH_take (i := 8) (oi := { dst := some 151, op := Go.Op.move (Go.Operand.tmp 150), type := 4, pos := "l34_cost.go:67", after := #[{ on := 7, ground := Go.Ground.data }, { on := 6, ground := Go.Ground.chain }], guard := none }) (v := ?_) rfl (by kernel_rfl) (by kernel_rfl) (by kernel_rfl) (fun _ _ _ h => h) (Or.inl ⟨by rfl, ?_⟩) (by assumption) ?_
                              rotate_left 1
                              · (intro wS hSw; (try dsimp only at hSw); go_simp; (all_goals with_reducible rfl))
                              simp only [Act.put, List.setIfInBounds_toArray, List.set_cons_zero, List.set_cons_succ]
                              refine wpAnyH_take (i := 9) (oi := { dst := some 152, op := Go.Op.move (Go.Operand.tmp 14), type := 3, pos := "l34_cost.go:67", after := #[{ on := 8, ground := Go.Ground.guard }], guard := some (8, true) }) (v := undef) rfl (by kernel_rfl) (by kernel_rfl) (by kernel_rfl) (fun _ _ _ h => h) (Or.inr ⟨by rfl, rfl⟩) (by assumption) ?_
                              simp only [Act.put, List.setIfInBounds_toArray, List.set_cons_zero, List.set_cons_succ]
                              refine wpAnyH_take (i := 10) (oi := { dst := some 153, op := Go.Op.move (Go.Operand.tmp 9), type := 3, pos := "l34_cost.go:67", after := #[{ on := 8, ground := Go.Ground.guard }], guard := some (8, true) }) (v := undef) rfl (by kernel_rfl) (by kernel_rfl) (by kernel_rfl) (fun _ _ _ h => h) (Or.inr ⟨by rfl, rfl⟩) (by assumption) ?_
                              simp only [Act.put, List.setIfInBounds_toArray, List.set_cons_zero, List.set_cons_succ]
                              refine wpAnyH_take (i := 11) (oi := { dst := some 154, op := Go.Op.binOp Go.BinOp.add 3 (Go.Operand.tmp 153) (Go.Operand.const (Go.Value.int Go.IntKind.i64 1)) 3, type := 3, pos := "l34_cost.go:67", after := #[{ on := 10, ground := Go.Ground.data }, { on := 8, ground := Go.Ground.guard }], guard := some (8, true) }) (v := undef) rfl (by kernel_rfl) (by kernel_rfl) (by kernel_rfl) (fun _ _ _ h => h) (Or.inr ⟨by rfl, rfl⟩) (by assumption) ?_
                              simp only [Act.put, List.setIfInBounds_toArray, List.set_cons_zero, List.set_cons_succ]
                              refine wpAnyH_take (i := 12) (oi := { dst := some 155, op := Go.Op.binOp Go.BinOp.shr 3 (Go.Operand.tmp 152) (Go.Operand.tmp 154) 3, type := 3, pos := "l34_cost.go:67", after := #[{ on := 9, ground := Go.Ground.data }, { on := 11, ground := Go.Ground.data }, { on := 8, ground := Go.Ground.guard }], guard := some (8, true) }) (v := undef) rfl (by kernel_rfl) (by kernel_rfl) (by kernel_rfl) (fun _ _ _ h => h) (Or.inr ⟨by rfl, rfl⟩) (by assumption) ?_
                              simp only [Act.put, List.setIfInBounds_toArray, List.set_cons_zero, List.set_cons_succ]
                              refine wpAnyH_take (i := 13) (oi := { dst := some 156, op := Go.Op.binOp Go.BinOp.and 3 (Go.Operand.tmp 155) (Go.Operand.const (Go.Value.int Go.IntKind.i64 1)) 3, type := 3, pos := "l34_cost.go:67", after := #[{ on := 12, ground := Go.Ground.data }, { on := 8, ground := Go.Ground.guard }], guard := some (8, true) }) (v := undef) rfl (by kernel_rfl) (by kernel_rfl) (by kernel_rfl) (fun _ _ _ h => h) (Or.inr ⟨by rfl, rfl⟩) (by assumption) ?_
                              simp only [Act.put, List.setIfInBounds_toArray, List.set_cons_zero, List.set_cons_succ]
                              refine wpAnyH_take (i := 14) (oi := { dst := some 157, op := Go.Op.binOp Go.BinOp.eql 3 (Go.Operand.tmp 156) (Go.Operand.const (Go.Value.int Go.IntKind.i64 0)) 3, type := 4, pos := "l34_cost.go:67", after := #[{ on := 13, ground := Go.Ground.data }, { on := 8, ground := Go.Ground.guard }], guard := some (8, true) }) (v := undef) rfl (by kernel_rfl) (by kernel_rfl) (by kernel_rfl) (fun _ _ _ h => h) (Or.inr ⟨by rfl, rfl⟩) (by assumption) ?_
                              simp only [Act.put, List.setIfInBounds_toArray, List.set_cons_zero, List.set_cons_succ]
                              refine wpAnyH_take (i := 15) (oi := { dst := some 158, op := Go.Op.pick (Go.Operand.tmp 151) (Go.Operand.tmp 157) (Go.Operand.const (Go.Value.bool false)), type := 4, pos := "l34_cost.go:67", after := #[{ on := 8, ground := Go.Ground.data }, { on := 14, ground := Go.Ground.data }], guard := none }) (v := ?_) rfl (by kernel_rfl) (by kernel_rfl) (by kernel_rfl) (fun _ _ _ h => h) (Or.inl ⟨by rfl, ?_⟩) (by assumption) ?_
                              rotate_left 1
                              · (intro wS hSw; (try dsimp only at hSw); go_simp; (all_goals with_reducible rfl))
                              simp only [Act.put, List.setIfInBounds_toArray, List.set_cons_zero, List.set_cons_succ]
                              refine wpAnyH_done (by kernel_rfl) ?_ _
                              go_wp2
                              go_roundw
                              case rel => exact ⟨K + 1, _, by omega, by go_num, Lib.hid (by rw [dpRow_succ, ← Hnx.out, HnD.out]; exact Heq.out.symm), (stR.bl Bw)⟩
                              case measure => simp [intOf]; omega
                    · have hB := hover hbk
                      rw [hB, hbk] at hone
                      rw [hbk] at t16
                      obtain ⟨k1, k2, _⟩ := sub_bits K hlt x hx8 hbk
                      rw [← HP.out] at k1 k2
                      have hsub : (K : Int) - (P : Int) = ((K - P : Nat) : Int) := by omega
                      have Hone := Lib.hid hone; have HB := Lib.hid hB; have Hbk := Lib.hid hbk; clear hone hB hbk hover
                      have Heq : Hid (dpOne s (-1) min (wtC (pa, pb, pc, pd)) i nx K n = dpPut (-1) min nx (K - P) n) := Lib.hid (by rw [Hone.out]; rfl)
                      have hKL : (K - P) < (nx : List Int).length := by rw [Hnl.out]; omega
                      have zV := hst.2.1.slot lenInt Nat.one_pos hKL 0 (.int .i64 (nx : List Int)[(K - P)]) rfl
                      rw [Nat.mul_one, Nat.add_zero] at zV
                      have hsf := hst.2.1.free
                      have hvg := Hng.out (K - P) _ (List.getElem?_eq_getElem hKL)
                      have hvD : (nx : List Int).getD ((K - P)) 0 = (nx : List Int)[(K - P)] := by rw [List.getD_eq_getElem?_getD, List.getElem?_eq_getElem hKL, Option.getD_some]
                      obtain ⟨v, hv⟩ : ∃ v, v = (nx : List Int)[(K - P)] := ⟨_, rfl⟩
                      rw [← hv] at zV hvg hvD
                      have hv1 : -1 ≤ v := by rcases hvg with e | e <;> omega
                      have HvD := Lib.hid hvD; clear hvg hv hvD
                      have hKI : ((K - P : Nat) : Int) < 256 := by omega
                      go_wp2_with fail
                      refine (least_put v n _ hv1).mono ?_
                      rintro e w7 ⟨rfl, rfl⟩
                      have own7 := hst.2.1.store1 lenInt hKL (y := if v = -1 then n else min v n) rfl
                      have e7 : nx.set (K - P) (if v = -1 then n else min v n) = dpPut (-1) min nx (K - P) n := by unfold dpPut; rw [HvD.out]
                      rw [e7] at own7
                      go_wp2
                      go_roundw
                      case rel => exact ⟨K + 1, _, by omega, by go_num, Lib.hid (by rw [dpRow_succ, ← Hnx.out, HnD.out]; exact Heq.out.symm), hst.put own7 (gr_set (World.grownBy.refl _ _) _ _)⟩
                      case measure => simp [intOf]; omega
                · obtain rfl : K = 256 := by omega
                  have e1 : cheapDp (pa, pb, pc, pd) s (i + 1) = nx := by rw [cheapDp_succ]; exact Hnx.out.symm
                  have E1 := Lib.hid e1; clear e1
                  go_wp2
                  go_roundw
                  case rel => exact ⟨i + 1, gn, by omega, by go_num, rfl, by rw [E1.out]; exact hst.2.1, hst.2.2.2.2⟩
                  case measure => simp [intOf]; omega
        · obtain rfl : i = 64 := by omega
          have hil : 0 < (cheapDp (pa, pb, pc, pd) s 64).length := by unfold cheapDp; rw [dp_len]; decide
          have zK := hnow.slot lenInt Nat.one_pos hil 0 (.int .i64 (cheapDp (pa, pb, pc, pd) s 64)[0]) rfl
          rw [Nat.mul_one, Nat.add_zero] at zK
          have hgD : R = (cheapDp (pa, pb, pc, pd) s 64)[0] := by rw [HR.out, List.getD_eq_getElem?_getD, List.getElem?_eq_getElem hil, Option.getD_some]
          rw [← hgD] at zK
          clear hgD
          go_wp2
          go_ret
          exact ⟨rfl, Bw2.tr hbel2⟩
end Go.Proofs.Ytkbndchgmokabaa
