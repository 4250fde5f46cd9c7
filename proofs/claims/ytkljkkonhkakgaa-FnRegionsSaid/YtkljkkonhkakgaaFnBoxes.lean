/- FnBoxes: for all bytes the law returns true. No conditions. -/
import Derived.Test.YtkljkkonhkakgaaBoxPlain2
import Derived.Test.YtkljkkonhkakgaaDrawB
import Derived.Deep.DeepCutAuto
import Derived.Deep.RegionHeld3
namespace Go.Proofs.Ytkljkkonhkakgaa
open Go.ChangeShapes Go.WideShapes Go.ChangeAt Go.RowKit
set_option linter.unusedVariables false

theorem big_any (v : Value) (l : List Int) (w : World) (h : Rd 1 RByte w v l) : Calls Try.prog 15 #[v] w (Pure (.bool (decide (1048576 < l.length))) w) := by
  obtain ⟨A, c, rfl, hc, hm⟩ := h.form
  go_enter Try.func15, Try.ntmps15
  go_wp2
  all_goals go_ret
  all_goals exact ⟨by simp_all <;> omega, rfl⟩
/-- A number from the bytes. -/
def AtPost (w : World) (e : Ending) (w' : World) : Prop := ∃ x, 0 ≤ x ∧ x ≤ 255 ∧ e = .returned (.int .i64 x) ∧ w = w'
set_option maxRecDepth 100000 in
theorem at_any (v : Value) (l : List Int) (i : Int) (w : World) (h : Rd 1 RByte w v l) (ok : AllOk (fun x => 0 ≤ x ∧ x ≤ 255) l) (hl : l.length ≤ 1048576) (hi0 : 0 ≤ i) (hi : i ≤ 1000) :
    Calls Try.prog 17 #[v, .int .i64 i] w (AtPost w) := by
  obtain ⟨A, c, rfl, hc, hm⟩ := h.form
  rcases Classical.em (l.length = 0) with h0 | h0
  · have t1 : ((l.length : Int) == 0) = true := by simpa using h0
    clear h0
    go_enter Try.func17, Try.ntmps17
    go_wp2
    go_ret
    exact ⟨0, by omega, by omega, rfl, rfl⟩
  · have t1 : ((l.length : Int) == 0) = false := by simpa using h0
    obtain ⟨j, hj⟩ : ∃ j : Nat, (j : Int) = (i * 5 + 1) % l.length := ⟨((i * 5 + 1) % l.length).toNat, Int.toNat_of_nonneg (Int.emod_nonneg _ (by omega))⟩
    have hjl : (j : Int) < l.length := by rw [hj]; exact Int.emod_lt_of_pos _ (by omega)
    have hjn : j < l.length := by omega
    obtain ⟨b, off, rfl, hb, h1⟩ := h.atByte hjn
    have hbyte := ok l[j] (List.getElem_mem hjn)
    obtain ⟨y, hy⟩ : ∃ y, y = l[j] := ⟨_, rfl⟩
    rw [← hy] at h1 hbyte
    have hy1 := hbyte.1
    have hy2 := hbyte.2
    have e1 : (i * 5 + 1) % l.length = j := hj.symm
    have e2 : ((i * 5 + 1) % (l.length : Int)).toNat = j := by omega
    have hlp : (1 : Int) ≤ l.length := by omega
    have Hy := Lib.hid hy; clear hy hj hbyte h0
    go_enter Try.func17, Try.ntmps17
    go_wp2
    go_ret
    exact ⟨y, hy1, hy2, rfl, rfl⟩

set_option maxHeartbeats 4000000 in
set_option maxRecDepth 100000 in
theorem FnBoxes_walk (w : World) (v : Value) (l : List Int) (h : Rd 1 RByte w v l) (ok : AllOk (fun x => 0 ≤ x ∧ x ≤ 255) l) :
    Calls Try.prog 3 #[v] w (Ret (.bool true) w) := by
  by_cases hsz : 1048576 < l.length
  · have hd : decide (1048576 < l.length) = true := by simpa using hsz
    have Hd := Lib.hid hd; clear hd
    go_enter Try.func3, Try.ntmps3
    go_wp2_with fail
    refine (big_any _ l _ h).mono ?_
    rintro e w0 ⟨rfl, rfl⟩
    rw [Hd.out]
    go_wp2
    go_ret
    exact ⟨rfl, Below.refl _ _⟩
  · have hd : decide (1048576 < l.length) = false := by simpa using hsz
    have Hd := Lib.hid hd; clear hd
    have hl : l.length ≤ 1048576 := by omega
    have Hok := Lib.hid ok; clear ok
    go_enter Try.func3, Try.ntmps3
    go_wp2_with fail
    refine (big_any _ l _ h).mono ?_
    rintro e w0 ⟨rfl, rfl⟩
    rw [Hd.out]
    go_wp2_with fail
    refine (drawBoxes_any _ l _ h Hok.out hl).mono ?_
    rintro e w1 ⟨bs, hb1, hb4, hsm, A1, c1, rfl, own1, hbe1⟩
    have hF : Fine bs := fun x hx => (hsm x hx).fine
    have hbok : boxesOk bs bs.length = true := boxesOk_of hF _ (by omega) (by omega)
    have hne : bs ≠ [] := by rintro rfl; simp at hb1
    have HF := Lib.hid hF; have Hbok := Lib.hid hbok; have Hne := Lib.hid hne; clear hF hbok hne hsm
    go_wp2_with fail
    refine (at_any _ l 0 _ (h.below RE.stays hbe1) Hok.out hl (by decide) (by decide)).mono ?_
    rintro e w2 ⟨a0, ha1, ha2, rfl, rfl⟩
    obtain ⟨N, hN⟩ : ∃ N : Nat, a0 % 60 = (N : Int) := ⟨(a0 % 60).toNat, by omega⟩
    have hN60 : N < 60 := by omega
    go_wp2_with fail
    refine (at_any _ l 1 _ (h.below RE.stays hbe1) Hok.out hl (by decide) (by decide)).mono ?_
    rintro e w3 ⟨a1, hc1, hc2, rfl, rfl⟩
    obtain ⟨M, hM⟩ : ∃ M : Nat, a1 % 60 = (M : Int) := ⟨(a1 % 60).toNat, by omega⟩
    have hM60 : M < 60 := by omega
    have r1 := own1.rd lenBox (by decide)
    obtain ⟨cs, hcs⟩ : ∃ cs, cs = chosen bs N := ⟨_, rfl⟩
    have hcl : cs.length = bs.length := by rw [hcs, chosen_yes Hbok.out (by omega), choose_len]
    obtain ⟨X, hX⟩ : ∃ X, X = lp bs N := ⟨_, rfl⟩
    have hXc : cheapest bs N = X := by rw [hX, cheapest_lp Hbok.out (by omega)]
    have hhold := hold_chosen Hbok.out (show N ≤ 500 by omega)
    rw [← hcs, hXc] at hhold
    obtain ⟨T, hT⟩ : ∃ T, T = (hold bs cs).1 := ⟨_, rfl⟩
    rw [← hT] at hhold
    obtain ⟨hT1, hP⟩ := hhold
    obtain ⟨K, hK⟩ : ∃ K, K = bestGo bs bs 0 0 := ⟨_, rfl⟩
    have hKs := bestGo_spec HF.out (by omega)
    rw [← hK] at hKs
    obtain ⟨hKl, hKa⟩ := hKs
    have Hcs := Lib.hid hcs; have Hcl := Lib.hid hcl; have HX := Lib.hid hX; have HXc := Lib.hid hXc; have HT := Lib.hid hT; have HP := Lib.hid hP; have HK := Lib.hid hK; have HKa := Lib.hid hKa
    clear hcs hcl hX hXc hT hP hK hKa
    go_wp2_with fail
    refine (chooseI_any _ bs _ _ r1).mono ?_
    rintro e w4 ⟨A4, c4, rfl, own4, hbe4⟩
    rw [← Hcs.out] at own4 ⊢
    have B4 := hbe1.tr hbe4
    have r4 := r1.below RE.stays hbe4
    go_wp2_with fail
    refine (holdI_any _ _ bs cs _ r4 (own4.rd lenInt (by decide))).mono ?_
    rintro e w5 ⟨rfl, hbe5⟩
    rw [← HT.out, HP.out]
    have B5 := B4.tr hbe5
    have r5 := r4.below RE.stays hbe5
    go_wp2_with fail
    refine (cheapI_any _ bs _ _ r5).mono ?_
    rintro e w6 ⟨rfl, hbe6⟩
    rw [HXc.out]
    have B6 := B5.tr hbe6
    have r6 := r5.below RE.stays hbe6
    go_wp2_with fail
    refine (bestI_any _ bs _ r6 Hbok.out).mono ?_
    rintro e w7 ⟨rfl, hbe7⟩
    rw [← HK.out]
    have B7 := B6.tr hbe7
    have r7 := r6.below RE.stays hbe7
    have hd1 : decide ((K : Int) < 0) = false := by simp
    have hd2 : decide (bs.length ≤ K) = false := by simp; omega
    go_wp2
    clear hd1 hd2
    have hsK := bS_pos HF.out hKl
    have hpK := bP_pos HF.out hKl
    obtain ⟨b, off, rfl, hbk, k1, k2⟩ := r7.atPair hKl
    rw [← bS_at hKl] at k1; rw [← bP_at hKl] at k2
    obtain ⟨s, hs⟩ : ∃ s, s = bS bs K := ⟨_, rfl⟩
    obtain ⟨p, hp⟩ : ∃ p, p = bP bs K := ⟨_, rfl⟩
    rw [← hs] at hsK k1; rw [← hp] at hpK k2
    have Hs := Lib.hid hs; have Hp := Lib.hid hp; clear hs hp
    have hs1 := hsK.1; have hs2 := hsK.2; have hp1 := hpK.1; have hp2 := hpK.2
    clear hsK hpK
    have hKI : (K : Int) < bs.length := by omega
    go_loopw [11] (fun s11 wr => ∃ i q : Nat, i ≤ bs.length ∧ s11 = .int .i64 i ∧ wr = w7.drewN q) (fun i _ => bs.length - (intOf i).toNat)
    case atStart => exact ⟨0, 0, Nat.zero_le _, rfl, rfl⟩
    case round =>
      obtain ⟨i, q, hi, rfl, rfl⟩ := hrel
      by_cases hlt : i < bs.length
      · obtain ⟨b', off', e, hb', q1, q2⟩ := r7.atPair hlt
        injection e with e; injection e with e1 e2 e3; subst e1; subst e2
        rw [← bS_at hlt] at q1; rw [← bP_at hlt] at q2
        have m1 := bS_pos HF.out hlt
        have m2 := bP_pos HF.out hlt
        have hle := HKa.out i hlt
        rw [← Hs.out, ← Hp.out] at hle
        obtain ⟨si, hsi⟩ : ∃ si, si = bS bs i := ⟨_, rfl⟩
        obtain ⟨pi, hpi⟩ : ∃ pi, pi = bP bs i := ⟨_, rfl⟩
        rw [← hsi] at m1 q1 hle; rw [← hpi] at m2 q2 hle
        have n1 := prod_in (a := pi) (b := s) (by omega) (by omega) (by omega) (by omega)
        have n2 := prod_in (a := p) (b := si) (by omega) (by omega) (by omega) (by omega)
        have e1 : IntKind.i64.wrap (pi * s) = pi * s := IntWalk.i64_in _ (by omega)
        have e2 : IntKind.i64.wrap (p * si) = p * si := IntWalk.i64_in _ (by omega)
        have hltI : (i : Int) < bs.length := by omega
        have hnn : ¬ pi * s < p * si := by omega
        have Hsi := Lib.hid hsi; have Hpi := Lib.hid hpi; clear hsi hpi hle
        go_wp2_with fail
        go_quiet (fail)
        clear e1 e2
        go_wp2
        go_roundw
        case rel => exact ⟨i + 1, _, by omega, by go_num, rfl⟩
        case measure => simp [intOf]; omega
      · have g1 : ((cs.length : Int) == (bs.length : Int)) = true := by rw [Hcl.out, beq_self_eq_true]
        have g2 : decide ((N : Int) ≤ T) = true := by simpa using hT1
        have hXb := lp_bound HF.out N
        have hX0 := lp_nonneg HF.out Hne.out N
        have hXM := lp_bound HF.out M
        have hXM0 := lp_nonneg HF.out Hne.out M
        have hXa := lp_add HF.out Hne.out N M
        have hXm := lp_mono HF.out Hne.out N (N + 1) (by omega)
        have hXp := fun h => lp_pos HF.out Hne.out (n := N) h
        have hbest := lp_best HF.out Hne.out (s := s) (p := p) hs1 hp1 (fun x hx => by
          obtain ⟨i, hi, rfl⟩ := List.getElem_of_mem hx
          have := HKa.out i hi
          rw [← Hs.out, ← Hp.out, bS_at hi, bP_at hi] at this
          exact this) N
        have hz0 := lp_zero bs
        rw [← HX.out] at hXb hX0 hXa hXm hXp hbest
        obtain ⟨Y, hY⟩ : ∃ Y, Y = cheapest bs M := ⟨_, rfl⟩
        have hY' : Y = lp bs M := by rw [hY, cheapest_lp Hbok.out (by omega)]
        obtain ⟨Z, hZ⟩ : ∃ Z, Z = cheapest bs ((N : Int) + M) := ⟨_, rfl⟩
        have hZ' : Z = lp bs (N + M) := by rw [hZ, ← cheapest_lp Hbok.out (by omega)]; simp
        obtain ⟨V, hV⟩ : ∃ V, V = cheapest bs ((N : Int) + 1) := ⟨_, rfl⟩
        have hV' : V = lp bs (N + 1) := by rw [hV, ← cheapest_lp Hbok.out (by omega)]; simp
        rw [← hY'] at hXM hXM0 hXa; rw [← hZ'] at hXa; rw [← hV'] at hXm
        have x1 : 0 ≤ X := hX0
        have x2 : X ≤ 60000 := by have := hXb.2; omega
        have y1 : 0 ≤ Y := hXM0
        have y2 : Y ≤ 60000 := by have := hXM.2; omega
        have hpr1 : 0 ≤ X * s ∧ X * s ≤ 60000 * 50 := ⟨Int.mul_nonneg (by omega) (by omega), Int.mul_le_mul x2 hs2 (by omega) (by omega)⟩
        have hpr2 : 0 ≤ (N : Int) * p ∧ (N : Int) * p ≤ 60 * 1000 := ⟨Int.mul_nonneg (by omega) (by omega), Int.mul_le_mul (by omega) hp2 (by omega) (by omega)⟩
        have e1 : IntKind.i64.wrap (X * s) = X * s := IntWalk.i64_in _ (by omega)
        have e2 : IntKind.i64.wrap ((N : Int) * p) = N * p := IntWalk.i64_in _ (by omega)
        have e3 : IntKind.i64.wrap ((N : Int) + M) = N + M := IntWalk.i64_in _ (by omega)
        have e4 : IntKind.i64.wrap ((N : Int) + 1) = N + 1 := IntWalk.i64_in _ (by omega)
        have e5 : IntKind.i64.wrap (X + Y) = X + Y := IntWalk.i64_in _ (by omega)
        have g4 : decide (0 ≤ X) = true := by simpa using x1
        have g6 : decide ((N : Int) * p ≤ X * s) = true := by simpa using hbest
        have g7 : decide (Z ≤ X + Y) = true := by simpa using hXa
        have g8 : decide (X ≤ V) = true := by simpa using hXm
        have g5 : (((N : Int) == 0) == (X == 0)) = true := by
          rcases Nat.eq_zero_or_pos N with h0 | h0
          · rw [HX.out, h0, hz0]; rfl
          · have := hXp h0
            rw [beq_eq_false_iff_ne.2 (show (N : Int) ≠ 0 by omega), beq_eq_false_iff_ne.2 (show X ≠ 0 by omega)]; rfl
        have HY := Lib.hid hY; have HZ := Lib.hid hZ; have HV := Lib.hid hV
        clear hY hZ hV hY' hZ' hV' hXp hz0 hXb hX0 hXM hXM0 hXa hXm hbest hpr1 hpr2
        have Bacc : Below w7.heap.size w7 (w7.drewN q) := below_drewN (Below.refl _ _) q
        have hsz7 : w7.heap.size ≤ w7.heap.size := Nat.le_refl _
        have hR := Lib.hid r7
        go_wp2_with fail
        simp only [List.append]
        go_region_held3 (fun w' => w'.cell? ⟨b, off + K * 2, none⟩ = some (.int .i64 s) ∧ w'.cell? ⟨b, off + K * 2 + 1, none⟩ = some (.int .i64 p)) (go_keep) (first | (go_at_call 20; go_must (refine (cheapI_any _ bs _ _ (hR.out.below RE.stays (by first | exact Bacc.drew | exact Bacc))).mono ?_; rintro e w8 ⟨rfl, hb8⟩; (try rw [← HY.out]); (try rw [← HZ.out]); (try rw [← HV.out]); obtain ⟨hc8, hf8, hz8⟩ := bkn hb8 w7.heap.size (by first | exact hsz7 | (simp; done)); have hsz7 := hz8; have Bacc := (by first | exact Bacc.drew.tr hb8 | exact Bacc.tr hb8))) | (go_at_call 22; go_must (refine (boxesOkI_any _ bs _ (hR.out.below RE.stays Bacc)).mono ?_; rintro e w9 ⟨rfl, hb9⟩; rw [Hbok.out]; obtain ⟨hc9, hf9, hz9⟩ := bkn hb9 w7.heap.size (by first | exact hsz7 | (simp; done)); have Bacc := (by first | exact Bacc.drew.tr hb9 | exact Bacc.tr hb9))))
        go_wp2
        go_ret
        exact ⟨rfl, B7.tr Bacc⟩
end Go.Proofs.Ytkljkkonhkakgaa
