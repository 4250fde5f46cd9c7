/- ChooseBoxes of both sides, for all arguments, and the law FnExactChooseBoxes. No conditions. -/
import Derived.Test.YtkljkkonhkakgaaChooseS
import Derived.Test.YtkljkkonhkakgaaDraw
namespace Go.Proofs.Ytkljkkonhkakgaa
open Go.ChangeShapes Go.WideShapes Go.ChangeAt Go.RowKit
set_option linter.unusedVariables false

theorem cheapest_lp {l : List (Int × Int)} (hok : boxesOk l l.length = true) {n : Nat} (hn : n ≤ 500) : cheapest l n = lp l n := by
  rw [cheapest_ok hok hn]; unfold lp; rw [List.getD_eq_getElem?_getD, List.getElem?_eq_getElem (by rw [least_len]; omega)]; rfl
theorem chosen_yes {l : List (Int × Int)} (hok : boxesOk l l.length = true) {n : Nat} (hn : n ≤ 500) : chosen l n = choose l n (lp l n) := by
  obtain ⟨hall, h1, h5⟩ := boxesOk_all _ _ hok
  have hne : l ≠ [] := by rintro rfl; simp at h1
  have := lp_nonneg hall hne n
  unfold chosen; rw [cheapest_lp hok hn, if_pos this, Int.toNat_natCast]
theorem cheapest_no {l : List (Int × Int)} {n : Int} (h : (boxesOk l l.length && inB n 0 500) = false) : cheapest l n = -1 := by
  unfold cheapest; rw [h]; rfl
theorem chosen_no {l : List (Int × Int)} {n : Int} (h : (boxesOk l l.length && inB n 0 500) = false) : chosen l n = [] := by
  unfold chosen; rw [cheapest_no h]; rfl
theorem chosen_len {l : List (Int × Int)} {n : Int} : (chosen l n).length ≤ l.length := by
  unfold chosen; split
  · rw [choose_len]; exact Nat.le_refl _
  · simp
theorem chooseI_any (v : Value) (l : List (Int × Int)) (n : Int) (w : World) (h : Rd 2 RPair w v l) :
    Calls Try.prog 18 #[v, .int .i64 n] w (RetOwn 3 1 eInt (chosen l n) w) := by
  rcases hc : (boxesOk l l.length && inB n 0 500) with _ | _
  · rw [chosen_no hc]
    have hch := cheapest_no hc
    have Hch := Lib.hid hch; clear hch hc
    go_enter Try.func18, Try.ntmps18
    go_wp2_with fail
    refine (cheapI_any _ l n _ h).mono ?_
    rintro e w1 ⟨rfl, hb1⟩
    rw [Hch.out]
    go_wp2
    go_ret
    exact ⟨none, 0, rfl, own_nil _, hb1⟩
  · rw [Bool.and_eq_true] at hc
    have hn0 : 0 ≤ n ∧ n ≤ 500 := by simpa [inB] using hc.2
    obtain ⟨n, rfl⟩ := Int.eq_ofNat_of_zero_le hn0.1
    rw [chosen_yes hc.1 (by omega)]
    exact chooseI_yes v l n w h hc.1 (by omega)
theorem chooseS_any (v : Value) (l : List (Int × Int)) (n : Int) (w : World) (h : Rd 2 RPair w v l) :
    Calls Try.prog 35 #[v, .int .i64 n] w (RetOwn 3 1 eInt (chosen l n) w) := by
  rcases hc : (boxesOk l l.length && inB n 0 500) with _ | _
  · rw [chosen_no hc]
    have hch := cheapest_no hc
    have Hch := Lib.hid hch; clear hch hc
    go_enter Try.func35, Try.ntmps35
    go_wp2_with fail
    refine (cheapS_any _ l n _ h).mono ?_
    rintro e w1 ⟨rfl, hb1⟩
    rw [Hch.out]
    go_wp2
    go_ret
    exact ⟨some ⟨w1.heap.size, 0, none⟩, 0, rfl, own_mt _ _ rfl _ hb1.size, hb1.al _⟩
  · rw [Bool.and_eq_true] at hc
    have hn0 : 0 ≤ n ∧ n ≤ 500 := by simpa [inB] using hc.2
    obtain ⟨n, rfl⟩ := Int.eq_ofNat_of_zero_le hn0.1
    rw [chosen_yes hc.1 (by omega)]
    exact chooseS_yes v l n w h hc.1 (by omega)

theorem eqInts_same (u v : Value) (l : List Int) (w : World) (h : Rd 1 RInt w u l) (h' : Rd 1 RInt w v l) : Calls Try.prog 37 #[u, v] w (Ret (.bool true) w) := by
  have := eqInts_any u v l l w h h'; rw [beq_self_eq_true] at this; exact this
theorem eqBoxs_same (u v : Value) (l : List (Int × Int)) (w : World) (h : Rd 2 RPair w u l) (h' : Rd 2 RPair w v l) : Calls Try.prog 38 #[u, v] w (Ret (.bool true) w) := by
  have := eqBoxs_any u v l l w h h'; rw [beq_self_eq_true] at this; exact this

set_option maxHeartbeats 4000000 in
set_option maxRecDepth 100000 in
theorem FnExactChooseBoxes_walk (w : World) (v : Value) (l : List (Int × Int)) (h : Rd 2 RPair w v l) (okl : AllOk (fun x => I64 x.1 ∧ I64 x.2) l) (n : Int) (okn : I64 n) :
    Calls Try.prog 5 #[v, .int .i64 n] w (Ret (.bool true) w) := by
  by_cases hsz : l.length ≤ 1048576
  · obtain ⟨cs, hcs⟩ : ∃ cs, cs = chosen l n := ⟨_, rfl⟩
    have hcl : cs.length ≤ 1048576 := by rw [hcs]; exact Nat.le_trans chosen_len hsz
    have CS : ∀ (v : Value) (w : World), Rd 2 RPair w v l → Calls Try.prog 35 #[v, .int .i64 n] w (RetOwn 3 1 eInt cs w) := fun v w h => by rw [hcs]; exact chooseS_any v l n w h
    have CI : ∀ (v : Value) (w : World), Rd 2 RPair w v l → Calls Try.prog 18 #[v, .int .i64 n] w (RetOwn 3 1 eInt cs w) := fun v w h => by rw [hcs]; exact chooseI_any v l n w h
    clear hcs
    have HCS := Lib.hid CS; have HCI := Lib.hid CI; clear CS CI
    have hk1 : ¬ ((1 : Int) + 2 * (l.length : Int) < 0) := by omega
    have hk2 : ¬ ((1 : Int) + (cs.length : Int) < 0) := by omega
    go_enter Try.func5, Try.ntmps5
    go_wp2_with fail
    refine (szBoxs_any _ l _ _ h (by decide) (by decide)).mono ?_
    rintro e w0 ⟨rfl, rfl⟩
    rw [szOf_ok (by omega)]
    go_wp2_with fail
    refine (toBoxs_any _ l _ h hsz).mono ?_
    rintro e w1 ⟨A1, c1, rfl, own1, hb1⟩
    go_wp2_with fail
    refine (HCS.out _ _ (own1.rd lenBox (by decide))).mono ?_
    rintro e w2 ⟨A2, c2, rfl, own2, hb2⟩
    have B2 := hb1.tr hb2
    go_wp2_with fail
    refine (toBoxs_any _ l _ (h.below RE.stays B2) hsz).mono ?_
    rintro e w3 ⟨A3, c3, rfl, own3, hb3⟩
    have B3 := B2.tr hb3
    go_wp2_with fail
    refine (HCI.out _ _ (own3.rd lenBox (by decide))).mono ?_
    rintro e w4 ⟨A4, c4, rfl, own4, hb4⟩
    have B4 := B3.tr hb4
    have o2 := (own2.below hb3).below hb4
    have o3 := own3.below hb4
    go_wp2_with fail
    refine (eqInts_same _ _ cs _ (own4.rd lenInt (by decide)) (o2.rd lenInt (by decide))).mono ?_
    rintro e w5 ⟨rfl, hb5⟩
    have B5 := B4.tr hb5
    go_wp2_with fail
    refine (toBoxs_any _ l _ (h.below RE.stays B5) hsz).mono ?_
    rintro e w6 ⟨A6, c6, rfl, own6, hb6⟩
    have B6 := B5.tr hb6
    have o36 := (o3.below hb5).below hb6
    go_wp2_with fail
    refine (eqBoxs_same _ _ l _ (o36.rd lenBox (by decide)) (own6.rd lenBox (by decide))).mono ?_
    rintro e w7 ⟨rfl, hb7⟩
    have B7 := B6.tr hb7
    have o37 := o36.below hb7
    have o27 := ((o2.below hb5).below hb6).below hb7
    have o47 := ((own4.below hb5).below hb6).below hb7
    go_wp2_with fail
    refine (markBoxs_any _ l 1 _ _ o37 (by decide) (by decide) hsz).mono ?_
    rintro e w8 ⟨rfl, own8, hg8⟩
    have B8 := below_mark B7 own3 B2.size hg8
    have o28 := own2.kept_ own3 (Nat.le_refl _) o27 hg8
    have o48 := own4.kept' own3 (Nat.le_refl _) o47 hg8
    go_wp2_with fail
    refine (eqInts_same _ _ cs _ (o48.rd lenInt (by decide)) (o28.rd lenInt (by decide))).mono ?_
    rintro e w9 ⟨rfl, hb9⟩
    have B9 := B8.tr hb9
    have o29 := o28.below hb9
    have o49 := o48.below hb9
    go_wp2_with fail
    refine (markInts_any _ cs 1 _ _ o49 (by decide) (by decide) hcl).mono ?_
    rintro e w10 ⟨rfl, own10, hg10⟩
    have B10 := below_mark B9 own4 B3.size hg10
    have o210 := own2.kept_ own4 (Nat.le_trans hb3.size (Nat.le_refl _)) o29 hg10
    go_wp2_with fail
    refine (heldInts_any _ 1 cs.length _ (own10.rd lenInt (by decide)) (by decide) (by decide) hcl).mono ?_
    rintro e w11 ⟨rfl, rfl⟩
    go_wp2_with fail
    refine (toBoxs_any _ l _ (h.below RE.stays B10) hsz).mono ?_
    rintro e w12 ⟨A12, c12, rfl, own12, hb12⟩
    have B12 := B10.tr hb12
    go_wp2_with fail
    refine (HCI.out _ _ (own12.rd lenBox (by decide))).mono ?_
    rintro e w13 ⟨A13, c13, rfl, own13, hb13⟩
    have B13 := B12.tr hb13
    go_wp2_with fail
    refine (eqInts_same _ _ cs _ (own13.rd lenInt (by decide)) (((o210.below hb12).below hb13).rd lenInt (by decide))).mono ?_
    rintro e w14 ⟨rfl, hb14⟩
    have B14 := B13.tr hb14
    go_wp2_with fail
    refine (heldInts_any _ 1 cs.length _ ((((own10.below hb12).below hb13).below hb14).rd lenInt (by decide)) (by decide) (by decide) hcl).mono ?_
    rintro e w15 ⟨rfl, rfl⟩
    go_wp2
    go_ret
    exact ⟨rfl, B14⟩
  · go_enter Try.func5, Try.ntmps5
    go_wp2_with fail
    refine (szBoxs_any _ l _ _ h (by decide) (by decide)).mono ?_
    rintro e w0 ⟨rfl, rfl⟩
    rw [szOf_no (by omega)]
    go_wp2
    go_ret
    exact ⟨rfl, Below.refl _ _⟩
end Go.Proofs.Ytkljkkonhkakgaa
