/- FloorLines of the reference: the walk. No conditions but sizes. -/
import Derived.Test.YtkbndchgmokabaaFloorI
namespace Go.Proofs.Ytkbndchgmokabaa
open Go.ChangeShapes Go.WideShapes Go.ChangeAt Go.RowKit
set_option linter.unusedVariables false
set_option linter.unusedSimpArgs false

set_option maxHeartbeats 4000000 in
set_option maxRecDepth 100000 in
theorem floorLinesS_any (v u : Value) (rows : List Int) (l : List Dm) (w : World) (h : Rd 1 RInt w v rows) (h2 : Rd 3 RDom w u l) : Calls Try.prog 31 #[.agg #[v], u] w (RetOwn 9 1 eStr (floorLines rows l) w) := by
  obtain ⟨A, c, rfl, hc, hm⟩ := h.form
  obtain ⟨A2, c2, rfl, hc2, hm2⟩ := h2.form
  have hA := ((Below.refl w.heap.size w).al (.cells #[.slice A rows.length c] 31)).al (.cells #[] 9)
  have hx := (Blk.new_ w 31 #[.slice A rows.length c]).alloc (.cells #[] 9)
  have hn0 : w.heap.size ≠ w.heap.size + 1 := by omega
  rcases hp : isPartial rows l with _ | _
  · have e : floorLines rows l = [] := by unfold floorLines; rw [hp]; rfl
    rw [e]
    go_enter Try.func31, Try.ntmps31
    go_wp2_with fail
    refine (partS_any _ _ rows l _ (h.below RE.stays hA) (h2.below RE.stays hA)).mono ?_
    rintro e w1 ⟨rfl, hb1⟩
    obtain ⟨hc1, hf1, hz1⟩ := bk hb1
    (try simp at hz1)
    have hy1_0 : w.heap.size < w1.heap.size := by omega
    rw [hp]
    have own1 := (own_mt (w.alloc (.cells #[.slice A rows.length c] 31)) (E := 9) (size := 1) (enc := eStr) (w.heap.size + 1) (by simp) w.heap.size (by simp)).below hb1
    go_wp2
    go_ret
    exact ⟨some ⟨w.heap.size + 1, 0, none⟩, 0, rfl, own1, hA.tr hb1⟩
  · have e : floorLines rows l = fText (setOf rows) l rows.length := by unfold floorLines; rw [hp]; rfl
    rw [e]
    obtain ⟨hok, _⟩ := isPartial_ok hp
    have h8 := hok.1
    have hs := setOf_lt hok
    have hcov := fun (c : Cl) (d : Dm) (hd : covOf l c = some d) => cov_has hp hd
    have Hp := Lib.hid hp; have Hok := Lib.hid hok; have Hcov := Lib.hid hcov; clear hp hok hcov e
    go_enter Try.func31, Try.ntmps31
    go_wp2_with fail
    refine (partS_any _ _ rows l _ (h.below RE.stays hA) (h2.below RE.stays hA)).mono ?_
    rintro e w1 ⟨rfl, hb1⟩
    obtain ⟨hc1, hf1, hz1⟩ := bk hb1
    (try simp at hz1)
    have hy1_0 : w.heap.size < w1.heap.size := by omega
    rw [Hp.out]
    have own1 := (own_mt (w.alloc (.cells #[.slice A rows.length c] 31)) (E := 9) (size := 1) (enc := eStr) (w.heap.size + 1) (by simp) w.heap.size (by simp)).below hb1
    have hx1 := hx.bl hb1
    have B1 := hA.tr hb1
    clear hc1 hf1
    go_wp2
    obtain ⟨s, hse⟩ : ∃ s, s = setOf rows := ⟨_, rfl⟩
    rw [← hse] at hs ⊢
    have Hse := Lib.hid hse; clear hse
    go_loopw [5, 6] (fun s5 s25 wr => ∃ (y : Nat) (D : Option Addr) (d : Nat), y ≤ rows.length ∧ s25 = .int .i64 y ∧ s5 = .slice D y d ∧ OwnL 9 1 eStr w.heap.size wr (.slice D y d) (fText s l y) ∧ Blk wr w.heap.size 31 #[.slice A rows.length c] ∧ Below w.heap.size w wr) (fun _ i _ => rows.length - (intOf i).toNat)
    case atStart => exact ⟨0, _, _, by omega, rfl, rfl, own1, hx1, B1⟩
    case round =>
      obtain ⟨y, D, d, hy, rfl, rfl, hown, hR, hbel⟩ := hrel
      clear own1 hx1 B1 hb1 hx
      have z1 := hR.c1
      have hRl := hR.lt
      by_cases hlt : y < rows.length
      · have hy8 : y < 8 := by omega
        go_wp2
        obtain ⟨wo, rfl⟩ : ∃ wo : World, wo = wr := ⟨_, rfl⟩
        go_loopw [7, 8] (fun s8 s29 wr => ∃ (k : Nat), k ≤ 8 ∧ s29 = .int .i64 k ∧ s8 = .string (fStr s l y k) ∧ Below wo.heap.size wo wr) (fun _ i _ => 8 - (intOf i).toNat)
        case atStart => exact ⟨0, by omega, rfl, rfl, Below.refl _ _⟩
        case round =>
          obtain ⟨k, hk, rfl, rfl, hbk⟩ := hrel
          have hR2 := hR.bl hbk
          have z2 := hR2.c1
          have hR2l := hR2.lt
          clear z1
          by_cases hk8 : k < 8
          · obtain ⟨hck, hix⟩ := ix_xy hk8 hy8
            have hsz := fStr_size s l y k
            have hszl : (fStr s l y k).size ≤ 8 := by omega
            have Hsc := Lib.hid (fStr_push s l y k)
            have hBl := (hbel.tr hbk).al (.cells #[.int .i64 k, .int .i64 y] 70)
            have hcA := Hcov.out ((k : Int), (y : Int))
            have hbits : ∀ d, covOf l ((k : Int), (y : Int)) = some d → s.testBit (8 * y + k) = true := fun d hd => by
              have := (hcA d hd).2.2; rw [hix, ← Hse.out] at this; exact this
            have Hck := Lib.hid hck; have Hix := Lib.hid hix; have Hbits := Lib.hid hbits; have HcA := Lib.hid hcA
            clear hck hix hbits hcA hsz
            rcases hbit : s.testBit (8 * y + k) with _ | _
            · have Hsg : Hid (sgn s l k y = 46) := Lib.hid (sgn_out hbit)
              have Hbit := Lib.hid hbit; clear hbit
              obtain ⟨D0, hD0⟩ : ∃ D0, D0 = domAt l ((k : Int), (y : Int)) := ⟨_, rfl⟩
              have HD : Hid (domAt l ((k : Int), (y : Int)) = D0) := Lib.hid hD0.symm
              clear hD0
              go_wp2_with fail
              refine (domAtS_any _ l k y _ (h2.below RE.stays hBl)).mono ?_
              rintro e w5 ⟨rfl, hb5⟩
              obtain ⟨hc5, hf5, hz5⟩ := bk hb5
              (try simp at hz5)
              have hy5_0 : wr.heap.size < w5.heap.size := by omega
              have hy5_1 : w.heap.size < w5.heap.size := by omega
              rw [HD.out]
              have hnR : w.heap.size ≠ wr.heap.size := by omega
              go_wp2_with fail
              refine (l03HasS_yes _ rows k y _ (h.below RE.stays (hBl.tr hb5)) Hok hk8 hy8).mono ?_
              rintro e w6 ⟨rfl, hb6⟩
              obtain ⟨hc6, hf6, hz6⟩ := bk hb6
              (try simp at hz6)
              have hy6_0 : wr.heap.size < w6.heap.size := by omega
              have hy6_1 : w.heap.size < w6.heap.size := by omega
              rw [← Hse.out, Hbit.out]
              have B6 := ((hbk.al (.cells #[.int .i64 k, .int .i64 y] 70)).tr hb5).tr hb6
              go_wp2
              go_roundw
              case rel => exact ⟨k + 1, by omega, by go_num, by rw [← Hsc.out, Hsg.out], B6⟩
              case measure => simp [intOf]; omega
            · rcases domAt_spec l ((k : Int), (y : Int)) with ⟨hD, hC⟩ | ⟨j, hj, hD, hC⟩
              · have Hsg : Hid (sgn s l k y = 63) := Lib.hid (sgn_none hbit hC)
                have HD := Lib.hid hD; have Hbit := Lib.hid hbit; clear hbit hD hC
                go_wp2_with fail
                refine (domAtS_any _ l k y _ (h2.below RE.stays hBl)).mono ?_
                rintro e w5 ⟨rfl, hb5⟩
                obtain ⟨hc5, hf5, hz5⟩ := bk hb5
                (try simp at hz5)
                have hy5_0 : wr.heap.size < w5.heap.size := by omega
                have hy5_1 : w.heap.size < w5.heap.size := by omega
                rw [HD.out]
                have hnR : w.heap.size ≠ wr.heap.size := by omega
                go_wp2_with fail
                refine (l03HasS_yes _ rows k y _ (h.below RE.stays (hBl.tr hb5)) Hok hk8 hy8).mono ?_
                rintro e w6 ⟨rfl, hb6⟩
                obtain ⟨hc6, hf6, hz6⟩ := bk hb6
                (try simp at hz6)
                have hy6_0 : wr.heap.size < w6.heap.size := by omega
                have hy6_1 : w.heap.size < w6.heap.size := by omega
                rw [← Hse.out, Hbit.out]
                have B6 := ((hbk.al (.cells #[.int .i64 k, .int .i64 y] 70)).tr hb5).tr hb6
                go_wp2
                go_roundw
                case rel => exact ⟨k + 1, by omega, by go_num, by rw [← Hsc.out, Hsg.out], B6⟩
                case measure => simp [intOf]; omega
              · have hsg := sgn_some hbit hC
                obtain ⟨b, off, rfl, hb, q1, q2, q3⟩ := (h2.below RE.stays (hbel.tr hbk)).atDom hj
                obtain ⟨d, hd⟩ : ∃ d, d = l[j] := ⟨_, rfl⟩
                rw [← hd] at q1 q2 q3 hsg
                obtain ⟨dx, dy, dn⟩ := d
                simp only at q1 q2 q3
                have hj0 : (0 : Int) ≤ (j : Int) := by omega
                have hjI : (j : Int) < (l.length : Int) := by omega
                have hnb : b ≠ wr.heap.size := by omega
                have HD := Lib.hid hD; have Hbit := Lib.hid hbit; have Hd := Lib.hid hd; clear hD hC hbit hd
                by_cases hdx : dx = (k : Int)
                · subst hdx
                  by_cases hdy : dy = (y : Int)
                  · subst hdy
                    rcases dn with _ | _
                    · have Hsg : Hid (sgn s l k y = 60) := Lib.hid (by rw [hsg]; simp [markOf])
                      clear hsg
                      go_wp2_with fail
                      refine (domAtS_any _ l k y _ (h2.below RE.stays hBl)).mono ?_
                      rintro e w5 ⟨rfl, hb5⟩
                      obtain ⟨hc5, hf5, hz5⟩ := bk hb5
                      (try simp at hz5)
                      have hy5_0 : wr.heap.size < w5.heap.size := by omega
                      have hy5_1 : w.heap.size < w5.heap.size := by omega
                      have hy5_2 : b < w5.heap.size := by omega
                      rw [HD.out]
                      have hnR : w.heap.size ≠ wr.heap.size := by omega
                      go_wp2_with fail
                      refine (l03HasS_yes _ rows k y _ (h.below RE.stays (hBl.tr hb5)) Hok hk8 hy8).mono ?_
                      rintro e w6 ⟨rfl, hb6⟩
                      obtain ⟨hc6, hf6, hz6⟩ := bk hb6
                      (try simp at hz6)
                      have hy6_0 : wr.heap.size < w6.heap.size := by omega
                      have hy6_1 : w.heap.size < w6.heap.size := by omega
                      have hy6_2 : b < w6.heap.size := by omega
                      rw [← Hse.out, Hbit.out]
                      have B6 := ((hbk.al (.cells #[.int .i64 k, .int .i64 y] 70)).tr hb5).tr hb6
                      go_wp2
                      go_roundw
                      case rel => exact ⟨k + 1, by omega, by go_num, by rw [← Hsc.out, Hsg.out], B6⟩
                      case measure => simp [intOf]; omega
                    · have Hsg : Hid (sgn s l k y = 94) := Lib.hid (by rw [hsg]; simp [markOf])
                      clear hsg
                      go_wp2_with fail
                      refine (domAtS_any _ l k y _ (h2.below RE.stays hBl)).mono ?_
                      rintro e w5 ⟨rfl, hb5⟩
                      obtain ⟨hc5, hf5, hz5⟩ := bk hb5
                      (try simp at hz5)
                      have hy5_0 : wr.heap.size < w5.heap.size := by omega
                      have hy5_1 : w.heap.size < w5.heap.size := by omega
                      have hy5_2 : b < w5.heap.size := by omega
                      rw [HD.out]
                      have hnR : w.heap.size ≠ wr.heap.size := by omega
                      go_wp2_with fail
                      refine (l03HasS_yes _ rows k y _ (h.below RE.stays (hBl.tr hb5)) Hok hk8 hy8).mono ?_
                      rintro e w6 ⟨rfl, hb6⟩
                      obtain ⟨hc6, hf6, hz6⟩ := bk hb6
                      (try simp at hz6)
                      have hy6_0 : wr.heap.size < w6.heap.size := by omega
                      have hy6_1 : w.heap.size < w6.heap.size := by omega
                      have hy6_2 : b < w6.heap.size := by omega
                      rw [← Hse.out, Hbit.out]
                      have B6 := ((hbk.al (.cells #[.int .i64 k, .int .i64 y] 70)).tr hb5).tr hb6
                      go_wp2
                      go_roundw
                      case rel => exact ⟨k + 1, by omega, by go_num, by rw [← Hsc.out, Hsg.out], B6⟩
                      case measure => simp [intOf]; omega
                  · rcases dn with _ | _
                    · have Hsg : Hid (sgn s l k y = 62) := Lib.hid (by rw [hsg]; simp [markOf, hdy])
                      clear hsg
                      go_wp2_with fail
                      refine (domAtS_any _ l k y _ (h2.below RE.stays hBl)).mono ?_
                      rintro e w5 ⟨rfl, hb5⟩
                      obtain ⟨hc5, hf5, hz5⟩ := bk hb5
                      (try simp at hz5)
                      have hy5_0 : wr.heap.size < w5.heap.size := by omega
                      have hy5_1 : w.heap.size < w5.heap.size := by omega
                      have hy5_2 : b < w5.heap.size := by omega
                      rw [HD.out]
                      have hnR : w.heap.size ≠ wr.heap.size := by omega
                      go_wp2_with fail
                      refine (l03HasS_yes _ rows k y _ (h.below RE.stays (hBl.tr hb5)) Hok hk8 hy8).mono ?_
                      rintro e w6 ⟨rfl, hb6⟩
                      obtain ⟨hc6, hf6, hz6⟩ := bk hb6
                      (try simp at hz6)
                      have hy6_0 : wr.heap.size < w6.heap.size := by omega
                      have hy6_1 : w.heap.size < w6.heap.size := by omega
                      have hy6_2 : b < w6.heap.size := by omega
                      rw [← Hse.out, Hbit.out]
                      have B6 := ((hbk.al (.cells #[.int .i64 k, .int .i64 y] 70)).tr hb5).tr hb6
                      go_wp2
                      go_roundw
                      case rel => exact ⟨k + 1, by omega, by go_num, by rw [← Hsc.out, Hsg.out], B6⟩
                      case measure => simp [intOf]; omega
                    · have Hsg : Hid (sgn s l k y = 118) := Lib.hid (by rw [hsg]; simp [markOf, hdy])
                      clear hsg
                      go_wp2_with fail
                      refine (domAtS_any _ l k y _ (h2.below RE.stays hBl)).mono ?_
                      rintro e w5 ⟨rfl, hb5⟩
                      obtain ⟨hc5, hf5, hz5⟩ := bk hb5
                      (try simp at hz5)
                      have hy5_0 : wr.heap.size < w5.heap.size := by omega
                      have hy5_1 : w.heap.size < w5.heap.size := by omega
                      have hy5_2 : b < w5.heap.size := by omega
                      rw [HD.out]
                      have hnR : w.heap.size ≠ wr.heap.size := by omega
                      go_wp2_with fail
                      refine (l03HasS_yes _ rows k y _ (h.below RE.stays (hBl.tr hb5)) Hok hk8 hy8).mono ?_
                      rintro e w6 ⟨rfl, hb6⟩
                      obtain ⟨hc6, hf6, hz6⟩ := bk hb6
                      (try simp at hz6)
                      have hy6_0 : wr.heap.size < w6.heap.size := by omega
                      have hy6_1 : w.heap.size < w6.heap.size := by omega
                      have hy6_2 : b < w6.heap.size := by omega
                      rw [← Hse.out, Hbit.out]
                      have B6 := ((hbk.al (.cells #[.int .i64 k, .int .i64 y] 70)).tr hb5).tr hb6
                      go_wp2
                      go_roundw
                      case rel => exact ⟨k + 1, by omega, by go_num, by rw [← Hsc.out, Hsg.out], B6⟩
                      case measure => simp [intOf]; omega
                · rcases dn with _ | _
                  · have Hsg : Hid (sgn s l k y = 62) := Lib.hid (by rw [hsg]; simp [markOf, hdx])
                    clear hsg
                    go_wp2_with fail
                    refine (domAtS_any _ l k y _ (h2.below RE.stays hBl)).mono ?_
                    rintro e w5 ⟨rfl, hb5⟩
                    obtain ⟨hc5, hf5, hz5⟩ := bk hb5
                    (try simp at hz5)
                    have hy5_0 : wr.heap.size < w5.heap.size := by omega
                    have hy5_1 : w.heap.size < w5.heap.size := by omega
                    have hy5_2 : b < w5.heap.size := by omega
                    rw [HD.out]
                    have hnR : w.heap.size ≠ wr.heap.size := by omega
                    go_wp2_with fail
                    refine (l03HasS_yes _ rows k y _ (h.below RE.stays (hBl.tr hb5)) Hok hk8 hy8).mono ?_
                    rintro e w6 ⟨rfl, hb6⟩
                    obtain ⟨hc6, hf6, hz6⟩ := bk hb6
                    (try simp at hz6)
                    have hy6_0 : wr.heap.size < w6.heap.size := by omega
                    have hy6_1 : w.heap.size < w6.heap.size := by omega
                    have hy6_2 : b < w6.heap.size := by omega
                    rw [← Hse.out, Hbit.out]
                    have B6 := ((hbk.al (.cells #[.int .i64 k, .int .i64 y] 70)).tr hb5).tr hb6
                    go_wp2
                    go_roundw
                    case rel => exact ⟨k + 1, by omega, by go_num, by rw [← Hsc.out, Hsg.out], B6⟩
                    case measure => simp [intOf]; omega
                  · have Hsg : Hid (sgn s l k y = 118) := Lib.hid (by rw [hsg]; simp [markOf, hdx])
                    clear hsg
                    go_wp2_with fail
                    refine (domAtS_any _ l k y _ (h2.below RE.stays hBl)).mono ?_
                    rintro e w5 ⟨rfl, hb5⟩
                    obtain ⟨hc5, hf5, hz5⟩ := bk hb5
                    (try simp at hz5)
                    have hy5_0 : wr.heap.size < w5.heap.size := by omega
                    have hy5_1 : w.heap.size < w5.heap.size := by omega
                    have hy5_2 : b < w5.heap.size := by omega
                    rw [HD.out]
                    have hnR : w.heap.size ≠ wr.heap.size := by omega
                    go_wp2_with fail
                    refine (l03HasS_yes _ rows k y _ (h.below RE.stays (hBl.tr hb5)) Hok hk8 hy8).mono ?_
                    rintro e w6 ⟨rfl, hb6⟩
                    obtain ⟨hc6, hf6, hz6⟩ := bk hb6
                    (try simp at hz6)
                    have hy6_0 : wr.heap.size < w6.heap.size := by omega
                    have hy6_1 : w.heap.size < w6.heap.size := by omega
                    have hy6_2 : b < w6.heap.size := by omega
                    rw [← Hse.out, Hbit.out]
                    have B6 := ((hbk.al (.cells #[.int .i64 k, .int .i64 y] 70)).tr hb5).tr hb6
                    go_wp2
                    go_roundw
                    case rel => exact ⟨k + 1, by omega, by go_num, by rw [← Hsc.out, Hsg.out], B6⟩
                    case measure => simp [intOf]; omega
          · obtain rfl : k = 8 := by omega
            have own2 := hown.below hbk
            have B2 := hbel.tr hbk
            have H8 : Hid (((fText s l y).length + 1) * 16 ≤ 140737488355328) := Lib.hid (by rw [fText_len]; omega)
            have HM : Hid ((fText s l y).length + 1 ≤ maxLen) := Lib.hid (by rw [fText_len]; unfold maxLen; omega)
            have Hsc := Lib.hid (fText_succ s l y)
            have Htl := Lib.hid (fText_len s l y)
            have hne := own2.apart hR2 (by decide)
            go_wp2_with (at_builtin; go_must (refine wpList_app1g (enc := eStr) rowStr lenStr oneStr B2 own2 (fStr s l y 8) H8.out HM.out (by simp) rfl _ _ rfl rfl rfl ?_); intro v4 w4 own4 hb4 hg4 hd4; obtain ⟨A4, c4, rfl, hc4, hm4⟩ := own4.form)
            have hR5 := (hR2.alloc _).grown hg4 (fun e => hne e.symm)
            go_roundw
            case rel => exact ⟨y + 1, A4, c4, by omega, by go_num, by simp [Htl.out], by have e : (fText s l y ++ [fStr s l y 8]).length = y + 1 := (by rw [List.length_append, Htl.out]; rfl); rw [Hsc.out, ← e]; exact own4, hR5, hb4⟩
            case measure => simp [intOf]; omega
      · obtain rfl : y = rows.length := by omega
        go_wp2
        go_ret
        have htl : (fText (setOf rows) l rows.length).length = rows.length := fText_len _ _ _
        rw [Hse.out] at hown
        refine ⟨D, d, by rw [htl]; rfl, ?_, hbel⟩
        rw [htl]; exact hown
end Go.Proofs.Ytkbndchgmokabaa
