/- CanFlip of the program: the walk. No conditions but sizes. -/
import Derived.Test.YtkbndchgmokabaaFlipP
namespace Go.Proofs.Ytkbndchgmokabaa
open Go.ChangeShapes Go.WideShapes Go.ChangeAt Go.RowKit
set_option linter.unusedVariables false
set_option linter.unusedSimpArgs false

theorem inFlip_b (x y : Int) : inFlip (x, y) = (inB x 0 6 && inB y 0 6) := by
  unfold inFlip inB
  rw [Bool.eq_iff_iff]
  simp only [Bool.and_eq_true, decide_eq_true_eq]
theorem kind_out {l : List Dm} {c : Cl} (h : inFlip c = false) : kindOf l c = 0 := by unfold kindOf; rw [h]; rfl
theorem kind_bools {l : List Dm} {x y : Int} (h : inFlip (x, y) = true) : decide (kindOf l (x, y) ≠ 0) = ((l.contains (x, y, false) && l.contains (x, y + 1, false)) || (l.contains (x, y, true) && l.contains (x + 1, y, true))) := by
  unfold kindOf hasBoth accOf dwnOf
  rw [h, if_pos rfl]
  simp only
  rcases l.contains (x, y, false) && l.contains (x, y + 1, false) with _ | _
  · rcases l.contains (x, y, true) && l.contains (x + 1, y, true) with _ | _ <;> rfl
  · rfl
set_option maxHeartbeats 4000000 in
set_option maxRecDepth 100000 in
theorem canFlipI_any (v : Value) (l : List Dm) (x y : Int) (w : World) (h : Rd 3 RDom w v l) : Calls Try.prog 183 #[v, .agg #[.int .i64 x, .int .i64 y]] w (Ret (.bool (decide (kindOf l (x, y) ≠ 0))) w) := by
  obtain ⟨A, c, rfl, hc, hm⟩ := h.form
  have hA := (Below.refl w.heap.size w).al (.cells #[.int .i64 x, .int .i64 y] 70)
  have hin := inFlip_b x y
  rcases hx : inB x 0 6 with _ | _
  · have e : decide (kindOf l (x, y) ≠ 0) = false := by rw [kind_out (by rw [hin, hx]; rfl)]; rfl
    rw [e]
    have Hx := Lib.hid hx; clear hx hin e
    go_enter Try.func183, Try.ntmps183
    go_wp2_with fail
    refine (within_any _ _ _ _).mono ?_
    rintro e w1 ⟨rfl, rfl⟩
    rw [Hx.out]
    go_wp2
    go_ret
    exact ⟨rfl, hA⟩
  · rcases hy : inB y 0 6 with _ | _
    · have e : decide (kindOf l (x, y) ≠ 0) = false := by rw [kind_out (by rw [hin, hx, hy]; rfl)]; rfl
      rw [e]
      have Hx := Lib.hid hx; have Hy := Lib.hid hy; clear hx hy hin e
      go_enter Try.func183, Try.ntmps183
      go_wp2_with fail
      refine (within_any _ _ _ _).mono ?_
      rintro e w1 ⟨rfl, rfl⟩
      rw [Hx.out]
      go_wp2_with fail
      refine (within_any _ _ _ _).mono ?_
      rintro e w2 ⟨rfl, rfl⟩
      rw [Hy.out]
      go_wp2
      go_ret
      exact ⟨rfl, hA⟩
    · have hinf : inFlip (x, y) = true := by rw [hin, hx, hy]; rfl
      have hk := kind_bools (l := l) hinf
      obtain ⟨R, hR⟩ : ∃ R, R = decide (kindOf l (x, y) ≠ 0) := ⟨_, rfl⟩
      rw [← hR] at hk ⊢
      have HA : ∃ b, b = l.contains (x, y, false) := ⟨_, rfl⟩
      obtain ⟨a1, ha1⟩ := HA
      obtain ⟨a2, ha2⟩ : ∃ b, b = l.contains (x, y + 1, false) := ⟨_, rfl⟩
      obtain ⟨d1, hd1⟩ : ∃ b, b = l.contains (x, y, true) := ⟨_, rfl⟩
      obtain ⟨d2, hd2⟩ : ∃ b, b = l.contains (x + 1, y, true) := ⟨_, rfl⟩
      rw [← ha1, ← ha2, ← hd1, ← hd2] at hk
      have Hx := Lib.hid hx; have Hy := Lib.hid hy; have Hinf := Lib.hid hinf; have Ha1 := Lib.hid ha1.symm; have Ha2 := Lib.hid ha2.symm; have Hd1 := Lib.hid hd1.symm; have Hd2 := Lib.hid hd2.symm; have Hk := Lib.hid hk
      clear hx hy hin hinf ha1 ha2 hd1 hd2 hR hk
      go_enter Try.func183, Try.ntmps183
      go_wp2_with fail
      refine (within_any _ _ _ _).mono ?_
      rintro e w1 ⟨rfl, rfl⟩
      rw [Hx.out]
      go_wp2_with fail
      refine (within_any _ _ _ _).mono ?_
      rintro e w2 ⟨rfl, rfl⟩
      rw [Hy.out]
      go_wp2_with fail
      refine (pairsI_yes x y _ Hinf.out).mono ?_
      rintro e w3 ⟨rfl, hb3⟩
      have B3 := ((hA.tr hb3).al (.cells #[.int .i64 x, .int .i64 y, .bool false, .int .i64 x, .int .i64 (y + 1), .bool false] 181)).al (.cells #[.int .i64 x, .int .i64 y, .bool true, .int .i64 (x + 1), .int .i64 y, .bool true] 181)
      have b1' := (Blk.new_ w3 181 #[.int .i64 x, .int .i64 y, .bool false, .int .i64 x, .int .i64 (y + 1), .bool false]).alloc (.cells #[.int .i64 x, .int .i64 y, .bool true, .int .i64 (x + 1), .int .i64 y, .bool true] 181)
      have b2' := Blk.new2 (w3.alloc (.cells #[.int .i64 x, .int .i64 y, .bool false, .int .i64 x, .int .i64 (y + 1), .bool false] 181)) 181 #[.int .i64 x, .int .i64 y, .bool true, .int .i64 (x + 1), .int .i64 y, .bool true] (w3.heap.size + 1) (by simp)
      have u_0 := b1'.cell 0
      have u_1 := b1'.cell 1
      have u_2 := b1'.cell 2
      have u_3 := b1'.cell 3
      have u_4 := b1'.cell 4
      have u_5 := b1'.cell 5
      simp only [List.getElem?_toArray, List.getElem?_cons_zero, List.getElem?_cons_succ] at u_0 u_1 u_2 u_3 u_4 u_5
      have t_0 := b2'.cell 0
      have t_1 := b2'.cell 1
      have t_2 := b2'.cell 2
      have t_3 := b2'.cell 3
      have t_4 := b2'.cell 4
      have t_5 := b2'.cell 5
      simp only [List.getElem?_toArray, List.getElem?_cons_zero, List.getElem?_cons_succ] at t_0 t_1 t_2 t_3 t_4 t_5
      go_wp2_with fail
      refine (hasDomI_any _ l x y false _ (h.below RE.stays B3)).mono ?_
      rintro e w4 ⟨rfl, hb4⟩
      rw [Ha1.out]
      have B4 := B3.tr hb4
      clear u_0 u_1 u_2 u_3 u_4 u_5 t_0 t_1 t_2 t_3 t_4 t_5
      have b1' := b1'.bl hb4
      have b2' := b2'.bl hb4
      have u_0 := b1'.cell 0
      have u_1 := b1'.cell 1
      have u_2 := b1'.cell 2
      have u_3 := b1'.cell 3
      have u_4 := b1'.cell 4
      have u_5 := b1'.cell 5
      simp only [List.getElem?_toArray, List.getElem?_cons_zero, List.getElem?_cons_succ] at u_0 u_1 u_2 u_3 u_4 u_5
      have t_0 := b2'.cell 0
      have t_1 := b2'.cell 1
      have t_2 := b2'.cell 2
      have t_3 := b2'.cell 3
      have t_4 := b2'.cell 4
      have t_5 := b2'.cell 5
      simp only [List.getElem?_toArray, List.getElem?_cons_zero, List.getElem?_cons_succ] at t_0 t_1 t_2 t_3 t_4 t_5
      rcases a1 with _ | _
      · skip
        go_wp2_with fail
        refine (hasDomI_any _ l x y true _ (h.below RE.stays B4)).mono ?_
        rintro e w5 ⟨rfl, hb5⟩
        rw [Hd1.out]
        have B5 := B4.tr hb5
        clear u_0 u_1 u_2 u_3 u_4 u_5 t_0 t_1 t_2 t_3 t_4 t_5
        have b1' := b1'.bl hb5
        have b2' := b2'.bl hb5
        have u_0 := b1'.cell 0
        have u_1 := b1'.cell 1
        have u_2 := b1'.cell 2
        have u_3 := b1'.cell 3
        have u_4 := b1'.cell 4
        have u_5 := b1'.cell 5
        simp only [List.getElem?_toArray, List.getElem?_cons_zero, List.getElem?_cons_succ] at u_0 u_1 u_2 u_3 u_4 u_5
        have t_0 := b2'.cell 0
        have t_1 := b2'.cell 1
        have t_2 := b2'.cell 2
        have t_3 := b2'.cell 3
        have t_4 := b2'.cell 4
        have t_5 := b2'.cell 5
        simp only [List.getElem?_toArray, List.getElem?_cons_zero, List.getElem?_cons_succ] at t_0 t_1 t_2 t_3 t_4 t_5
        rcases d1 with _ | _
        · have HR := Lib.hid (show false = R by rw [Hk.out]; cases a2 <;> cases d2 <;> rfl)
          go_wp2
          go_ret
          exact ⟨retB HR.out, B5⟩
        · skip
          go_wp2_with fail
          refine (hasDomI_any _ l (x + 1) y true _ (h.below RE.stays B5)).mono ?_
          rintro e w6 ⟨rfl, hb6⟩
          rw [Hd2.out]
          have B6 := B5.tr hb6
          clear u_0 u_1 u_2 u_3 u_4 u_5 t_0 t_1 t_2 t_3 t_4 t_5
          have b1' := b1'.bl hb6
          have b2' := b2'.bl hb6
          have u_0 := b1'.cell 0
          have u_1 := b1'.cell 1
          have u_2 := b1'.cell 2
          have u_3 := b1'.cell 3
          have u_4 := b1'.cell 4
          have u_5 := b1'.cell 5
          simp only [List.getElem?_toArray, List.getElem?_cons_zero, List.getElem?_cons_succ] at u_0 u_1 u_2 u_3 u_4 u_5
          have t_0 := b2'.cell 0
          have t_1 := b2'.cell 1
          have t_2 := b2'.cell 2
          have t_3 := b2'.cell 3
          have t_4 := b2'.cell 4
          have t_5 := b2'.cell 5
          simp only [List.getElem?_toArray, List.getElem?_cons_zero, List.getElem?_cons_succ] at t_0 t_1 t_2 t_3 t_4 t_5
          have HR := Lib.hid (show d2 = R by rw [Hk.out]; cases a2 <;> cases d2 <;> rfl)
          go_wp2
          go_ret
          exact ⟨retB HR.out, B6⟩
      · skip
        go_wp2_with fail
        refine (hasDomI_any _ l x (y + 1) false _ (h.below RE.stays B4)).mono ?_
        rintro e w5 ⟨rfl, hb5⟩
        rw [Ha2.out]
        have B5 := B4.tr hb5
        clear u_0 u_1 u_2 u_3 u_4 u_5 t_0 t_1 t_2 t_3 t_4 t_5
        have b1' := b1'.bl hb5
        have b2' := b2'.bl hb5
        have u_0 := b1'.cell 0
        have u_1 := b1'.cell 1
        have u_2 := b1'.cell 2
        have u_3 := b1'.cell 3
        have u_4 := b1'.cell 4
        have u_5 := b1'.cell 5
        simp only [List.getElem?_toArray, List.getElem?_cons_zero, List.getElem?_cons_succ] at u_0 u_1 u_2 u_3 u_4 u_5
        have t_0 := b2'.cell 0
        have t_1 := b2'.cell 1
        have t_2 := b2'.cell 2
        have t_3 := b2'.cell 3
        have t_4 := b2'.cell 4
        have t_5 := b2'.cell 5
        simp only [List.getElem?_toArray, List.getElem?_cons_zero, List.getElem?_cons_succ] at t_0 t_1 t_2 t_3 t_4 t_5
        rcases a2 with _ | _
        · skip
          go_wp2_with fail
          refine (hasDomI_any _ l x y true _ (h.below RE.stays B5)).mono ?_
          rintro e w6 ⟨rfl, hb6⟩
          rw [Hd1.out]
          have B6 := B5.tr hb6
          clear u_0 u_1 u_2 u_3 u_4 u_5 t_0 t_1 t_2 t_3 t_4 t_5
          have b1' := b1'.bl hb6
          have b2' := b2'.bl hb6
          have u_0 := b1'.cell 0
          have u_1 := b1'.cell 1
          have u_2 := b1'.cell 2
          have u_3 := b1'.cell 3
          have u_4 := b1'.cell 4
          have u_5 := b1'.cell 5
          simp only [List.getElem?_toArray, List.getElem?_cons_zero, List.getElem?_cons_succ] at u_0 u_1 u_2 u_3 u_4 u_5
          have t_0 := b2'.cell 0
          have t_1 := b2'.cell 1
          have t_2 := b2'.cell 2
          have t_3 := b2'.cell 3
          have t_4 := b2'.cell 4
          have t_5 := b2'.cell 5
          simp only [List.getElem?_toArray, List.getElem?_cons_zero, List.getElem?_cons_succ] at t_0 t_1 t_2 t_3 t_4 t_5
          rcases d1 with _ | _
          · have HR := Lib.hid (show false = R by rw [Hk.out]; cases d2 <;> rfl)
            go_wp2
            go_ret
            exact ⟨retB HR.out, B6⟩
          · skip
            go_wp2_with fail
            refine (hasDomI_any _ l (x + 1) y true _ (h.below RE.stays B6)).mono ?_
            rintro e w7 ⟨rfl, hb7⟩
            rw [Hd2.out]
            have B7 := B6.tr hb7
            clear u_0 u_1 u_2 u_3 u_4 u_5 t_0 t_1 t_2 t_3 t_4 t_5
            have b1' := b1'.bl hb7
            have b2' := b2'.bl hb7
            have u_0 := b1'.cell 0
            have u_1 := b1'.cell 1
            have u_2 := b1'.cell 2
            have u_3 := b1'.cell 3
            have u_4 := b1'.cell 4
            have u_5 := b1'.cell 5
            simp only [List.getElem?_toArray, List.getElem?_cons_zero, List.getElem?_cons_succ] at u_0 u_1 u_2 u_3 u_4 u_5
            have t_0 := b2'.cell 0
            have t_1 := b2'.cell 1
            have t_2 := b2'.cell 2
            have t_3 := b2'.cell 3
            have t_4 := b2'.cell 4
            have t_5 := b2'.cell 5
            simp only [List.getElem?_toArray, List.getElem?_cons_zero, List.getElem?_cons_succ] at t_0 t_1 t_2 t_3 t_4 t_5
            have HR := Lib.hid (show d2 = R by rw [Hk.out]; cases d2 <;> rfl)
            go_wp2
            go_ret
            exact ⟨retB HR.out, B7⟩
        · have HR := Lib.hid (show true = R by rw [Hk.out]; cases d1 <;> cases d2 <;> rfl)
          go_wp2
          go_ret
          exact ⟨retB HR.out, B5⟩
end Go.Proofs.Ytkbndchgmokabaa
