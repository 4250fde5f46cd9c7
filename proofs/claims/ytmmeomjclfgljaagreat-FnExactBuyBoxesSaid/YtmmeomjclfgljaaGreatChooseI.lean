/- ChooseBoxes of the program: the walk. No conditions. -/
import Derived.Test.YtmmeomjclfgljaaGreatK2
import Derived.Test.YtmmeomjclfgljaaGreatBoxPlain
namespace Go.Proofs.YtmmeomjclfgljaaGreat
open Go.ChangeShapes Go.WideShapes Go.ChangeAt Go.RowKit
set_option linter.unusedVariables false

theorem Fine.hall {l : List (Int × Int)} (h : Fine l) : ∀ x ∈ l, BoxFine x := h

set_option maxHeartbeats 4000000 in
set_option maxRecDepth 100000 in
theorem chooseI_yes (v : Value) (l : List (Int × Int)) (n : Nat) (w : World) (h : Rd 2 RPair w v l) (hok : boxesOk l l.length = true) (hn : n ≤ 500) :
    Calls Tryz.prog 27 #[v, .int .i64 n] w (RetOwn 3 1 eInt (choose l n (lp l n)) w) := by
  obtain ⟨A, c, rfl, hc, hm⟩ := h.form
  obtain ⟨hall, h1, h5⟩ := boxesOk_all _ _ hok
  have hl5 : l.length ≤ 5 := by omega
  have hF : Fine l := hall
  have hne : l ≠ [] := by rintro rfl; simp at h1
  have hcc := cheapest_ok hok hn
  have hlpn : cheapest l n = lp l n := by rw [hcc]; unfold lp; rw [List.getD_eq_getElem?_getD, List.getElem?_eq_getElem (by rw [least_len]; omega)]; rfl
  have hp0 := lp_nonneg hF hne n
  obtain ⟨L, hL⟩ : ∃ L, L = lp l n := ⟨_, rfl⟩
  rw [← hL] at hp0 hlpn ⊢
  have HL := Lib.hid hL; have HF := Lib.hid hF; have Hlp := Lib.hid hlpn; have Hne := Lib.hid hne; clear hL hF hlpn hcc hne hall hok
  go_enter Tryz.func27, Tryz.ntmps27
  go_wp2_with fail
  refine (cheapI_any _ l n _ h).mono ?_
  rintro e w1 ⟨rfl, hb1⟩
  rw [Hlp.out]
  go_wp2
  go_loopw [1, 5, 6, 20] (fun s1 s5 s6 s20 wr => ∃ (k m : Nat) (out : List Int) (A' : Option Addr) (c' : Nat), k ≤ l.length ∧ m ≤ 500 ∧ s20 = .int .i64 k ∧ s1 = .int .i64 m ∧ s5 = .int .i64 (lp (l.drop k) m) ∧ s6 = .slice A' k c' ∧ Hid (out.length = k ∧ out ++ choose (l.drop k) m (lp (l.drop k) m) = choose l n L ∧ 0 ≤ lp (l.drop k) m) ∧ OwnL 3 1 eInt w.heap.size wr (.slice A' k c') out ∧ Below w.heap.size w wr) (fun _ _ _ i _ => l.length - (intOf i).toNat)
  case atStart => exact ⟨0, n, [], some ⟨w1.heap.size, 0, none⟩, 0, Nat.zero_le _, hn, rfl, rfl, (by rw [HL.out]; rfl), rfl, Lib.hid ⟨rfl, by rw [HL.out]; rfl, by have := HL.out; show 0 ≤ lp l n; omega⟩, World.ownsRow_lit w1 #[] 0 hb1.size (by simp [maxLen]) rfl, hb1.al _⟩
  case round =>
    obtain ⟨k, m, out, A', c', hk, hm5, rfl, rfl, rfl, rfl, Hg, hown, hbel⟩ := hrel
    clear hb1
    by_cases hlt : k < l.length
    · obtain ⟨b, off, rfl, hb, q1, q2⟩ := (h.below RE.stays hbel).atPair hlt
      have hrd := (h.below RE.stays hbel).below RE.stays ((Below.refl _ _).al (.cells #[.int .i64 l[k].1, .int .i64 l[k].2] 59))
      obtain ⟨s, hs⟩ : ∃ s, s = l[k].1 := ⟨_, rfl⟩
      obtain ⟨p, hp⟩ : ∃ p, p = l[k].2 := ⟨_, rfl⟩
      obtain ⟨r, hr⟩ : ∃ r, r = l.drop (k + 1) := ⟨_, rfl⟩
      have hrl : r.length = l.length - (k + 1) := by rw [hr]; simp
      have hd : l.drop k = (s, p) :: r := by rw [List.drop_eq_getElem_cons hlt, hs, hp, hr]
      have hFd : Fine ((s, p) :: r) := by rw [← hd]; exact fun x hx => HF.out x (List.mem_of_mem_drop hx)
      have F := hFd (s, p) List.mem_cons_self
      unfold BoxFine at F
      obtain ⟨f1, f2, f3, f4⟩ := F
      simp only at f1 f2 f3 f4
      rw [hd] at Hg ⊢
      obtain ⟨lf, hlf⟩ : ∃ lf, lf = lp ((s, p) :: r) m := ⟨_, rfl⟩
      have hlfb := lp_bound hFd m
      obtain ⟨K, hK⟩ : ∃ K, K = kOf r m (s, p) lf := ⟨_, rfl⟩
      have hKs := kOf_spec hFd m
      rw [← hlf, ← hK] at hKs
      obtain ⟨hKm, hKf, hKn⟩ := hKs
      rw [← hlf] at Hg hlfb ⊢
      obtain ⟨g1, g2, g3⟩ := Hg.out
      rw [choose] at g2
      simp only [← hK] at g2
      have HG := Lib.hid g2
      have Hout := Lib.hid g1
      rw [← hs] at q1; rw [← hp] at q2; rw [← hs, ← hp] at hrd
      have Hs := Lib.hid hs; have Hp := Lib.hid hp; have Hr := Lib.hid hr; have Hd := Lib.hid hd; have HFd := Lib.hid hFd; have Hlf := Lib.hid hlf; have HK := Lib.hid hK; have HKf := Lib.hid hKf; have HKn := Lib.hid hKn; have Hrd := Lib.hid hrd; have Hrl := Lib.hid hrl
      clear hs hp hr hd hFd hlf hK hKf hKn g1 g2 hrl hrd Hg
      have hr5 : r.length ≤ 1048576 := by have := Hrl.out; omega
      have HJ : Hid ((k : Int) + 1 = ((k + 1 : Nat) : Int)) := Lib.hid (by omega)
      have HK1 : Hid (k + 1 ≤ l.length) := Lib.hid hlt
      go_wp2_with ((with_reducible refine wpList_tail rowBox Hrd.out (k + 1) HK1.out HJ.out rfl _ _ rfl rfl rfl ?_); intro A5 c5 hr6; rw [← Hr.out] at hr6)
      refine (leastI_any _ r m _ hr6 (Lib.hid HFd.out.tail) (by omega) hr5).mono ?_
      rintro e w2 ⟨A2, c2, rfl, own2, hb2⟩
      have hRl := least_len r m
      obtain ⟨R, hR⟩ : ∃ R, R = least r m := ⟨_, rfl⟩
      have hRat : ∀ i, (hi : i < R.length) → R[i] = lp r i := fun i hi => by
        have hi' : i < (least r m).length := by rw [← hR]; exact hi
        have := least_at r m i (by rw [least_len] at hi'; omega)
        rw [List.getD_eq_getElem?_getD, List.getElem?_eq_getElem hi'] at this
        rw [← this]; simp [hR]
      rw [← hR] at own2 hRl ⊢
      have hmR : m < R.length := by omega
      have hmI : (m : Int) < R.length := by omega
      have hmI1 : (R.length : Int) = m + 1 := by omega
      obtain ⟨g, rfl, hB, hg⟩ := own2.split hmR
      have own1 := (hown.alloc (.cells #[.int .i64 s, .int .i64 p] 59)).below hb2
      have hbel2 := (hbel.al (.cells #[.int .i64 s, .int .i64 p] 59)).tr hb2
      have hx0 := Blk.new_ wr 59 #[.int .i64 s, .int .i64 p]
      have hx := hx0.below hb2 hx0.lt
      clear hx0
      have hcell := own2.slot lenInt Nat.one_pos hmR 0 (.int .i64 (lp r m)) (by rw [hRat]; rfl)
      rw [Nat.mul_one, Nat.add_zero] at hcell
      have HRat := Lib.hid hRat; have HR := Lib.hid hR; have HRl := Lib.hid hRl; have HmI1 := Lib.hid hmI1; clear hRat hR hRl hb2 hmI1
      obtain ⟨bx, hbx⟩ : ∃ bx, bx = wr.heap.size := ⟨_, rfl⟩
      have hBx : w.heap.size ≤ bx := by have := hbel.size; omega
      rw [← hbx] at hx ⊢
      have Hbx := Lib.hid hbx; clear hbx
      go_wp2
      have x0 := hx.cell 0
      have x1 := hx.cell 1
      simp only [List.getElem?_toArray, List.getElem?_cons_zero, List.getElem?_cons_succ] at x0 x1
      have xl := hx.lt
      go_loop [10, 11] (fun s10 s11 => ∃ j : Nat, j ≤ K ∧ s10 = .int .i64 j ∧ s11 = .int .i64 (lp r (nd m (j * s)))) (fun i _ => K - (intOf i).toNat)
      case atStart => exact ⟨0, Nat.zero_le _, rfl, by rw [nd_zero]⟩
      case round =>
        obtain ⟨j, hj, rfl, rfl⟩ := hrel
        have mj := mul_in (a := j) (b := p) (m := 1000) (by omega) (by omega) f3 f4
        obtain ⟨q, hq⟩ : ∃ q, q = lp r (nd m (j * s)) := ⟨_, rfl⟩
        have hqb := lp_bound HFd.out.tail (nd m (j * s))
        have ms := mul_in (a := j) (b := s) (m := 50) (by omega) (by omega) f1 f2
        have hqn : nd m (j * s) ≤ m := nd_le m (by omega)
        rw [← hq] at hqb ⊢
        have hq1 : -1 ≤ q := hqb.1
        have hq2 : q ≤ 500000 := by have := hqb.2; omega
        by_cases hjK : j = K
        · subst hjK
          have hf := HKf.out
          obtain ⟨hf1, hf2⟩ := fits_left hf
          simp only at hf1 hf2
          rw [← hq] at hf1 hf2
          have hd1 : decide (q < 0) = false := by simp; omega
          have hd2 : (q + (j : Int) * p != lf) = false := by simp; omega
          have hqlf : q = lf - j * p := by omega
          have Hq := Lib.hid hq; have Hqlf := Lib.hid hqlf; clear hq hqb hf hf1 hf2 hqlf
          have hdiff : -9223372036854775808 ≤ lf - (j : Int) * p ∧ lf - (j : Int) * p ≤ 9223372036854775807 := by omega
          have own1K : OwnL 3 1 eInt w.heap.size w2 (.slice A' k c') out := own1
          have hne1 := own1.apart hx (by decide)
          have H8 : Hid ((out.length + 1) * 8 ≤ 140737488355328) := Lib.hid (by rw [Hout.out]; omega)
          have HM : Hid (out.length + 1 ≤ maxLen) := Lib.hid (by rw [Hout.out]; unfold maxLen; omega)
          go_wp2_with (at_builtin; go_must (refine wpList_app1 (enc := eInt) rowInt lenInt oneInt hbel2 own1 j H8.out HM.out rfl _ _ rfl rfl rfl ?_); intro v3 w3 own3 hb3 hg3 hd3; obtain ⟨A3, c3, rfl, hc3, hm3⟩ := own3.form; have hx3 := (hx.alloc (.cells #[.int .i64 j] 3)).grown hg3 (fun e => hne1 e.symm); have y0 := hx3.cell 0; have y1 := hx3.cell 1; simp only [List.getElem?_toArray, List.getElem?_cons_zero, List.getElem?_cons_succ] at y0 y1; have yl := hx3.lt)
          all_goals
            have hnd : nd m ((j : Int) * s) = ((m : Int) - (j : Int) * s).toNat := rfl
            have HG2 : Hid ((out ++ [(j : Int)]).length = k + 1 ∧ (out ++ [(j : Int)]) ++ choose (l.drop (k + 1)) (nd m ((j : Int) * s)) (lp (l.drop (k + 1)) (nd m ((j : Int) * s))) = choose l n L ∧ 0 ≤ lp (l.drop (k + 1)) (nd m ((j : Int) * s))) := by
              rw [← Hr.out]
              refine Lib.hid ⟨by simp [Hout.out], ?_, ?_⟩
              · have := HG.out; rw [← Hqlf.out, Hq.out] at this; simpa using this
              · have := Hq.out; rw [← this]; have := of_decide_eq_false hd1; omega
            have hlpq : lp (l.drop (k + 1)) (nd m ((j : Int) * s)) = lf - j * p := by rw [← Hr.out, ← Hq.out, Hqlf.out]
            have own4 : OwnL 3 1 eInt w.heap.size w3 (.slice A3 (k + 1) c3) (out ++ [(j : Int)]) := by
              have e : (out ++ [(j : Int)]).length = k + 1 := by simp [Hout.out]
              rw [← e]; exact own3
            clear own3 hg3 hd3 hx hx3 own1 own1K own2 hcell x0 x1 xl
            go_roundw
            case rel => exact ⟨k + 1, nd m ((j : Int) * s), out ++ [(j : Int)], A3, c3, by omega, by omega, by go_num, (by rw [show (if (m : Int) - (j : Int) * s < 0 then (0 : Int) else (m : Int) - (j : Int) * s) = (nd m ((j : Int) * s) : Nat) by split <;> omega]), by rw [hlpq], by rw [Hout.out], HG2, own4, hb3⟩
            case measure => simp [intOf]; omega
        · have hf := HKn.out j (by omega)
          have hcond : q < 0 ∨ (0 ≤ q ∧ q + j * p ≠ lf) := by
            unfold fits at hf
            simp only [← hq, Bool.and_eq_false_iff, decide_eq_false_iff_not] at hf
            omega
          have hexp : ((j : Int) + 1) * s = j * s + s := by rw [Int.add_mul, Int.one_mul]
          have ms2 : 0 ≤ ((j : Int) + 1) * s ∧ ((j : Int) + 1) * s ≤ 25050 := by omega
          have Hq := Lib.hid hq; clear hq hqb hf hexp
          have hnd : nd m (((j + 1 : Nat) : Int) * s) = ((m : Int) - ((j : Int) + 1) * s).toNat := by unfold nd; rw [Int.natCast_add]; rfl
          by_cases hneg : (m : Int) - ((j : Int) + 1) * s < 0
          · have hc0 := own2.slot lenInt Nat.one_pos (k := 0) (by omega) 0 (.int .i64 (lp r (nd m (((j + 1 : Nat) : Int) * s)))) (by rw [HRat.out, hnd, show ((m : Int) - ((j : Int) + 1) * s).toNat = 0 by omega]; rfl)
            rw [Nat.mul_one, Nat.add_zero] at hc0
            have HN := Lib.hid hnd; clear hnd
            rcases hcond with hd0 | ⟨hd0, hd1⟩
            · go_wp2
              go_round
              case rel => exact ⟨j + 1, by omega, by go_num, rfl⟩
              case measure => simp [intOf]; omega
            · have hd2 : (q + (j : Int) * p != lf) = true := by simpa using hd1
              clear hd1
              go_wp2
              go_round
              case rel => exact ⟨j + 1, by omega, by go_num, rfl⟩
              case measure => simp [intOf]; omega
          · have hc0 := own2.slot lenInt Nat.one_pos (k := ((m : Int) - ((j : Int) + 1) * s).toNat) (by omega) 0 (.int .i64 (lp r (nd m (((j + 1 : Nat) : Int) * s)))) (by rw [HRat.out, hnd]; rfl)
            rw [Nat.mul_one, Nat.add_zero] at hc0
            have HN := Lib.hid hnd; clear hnd
            have hin : (m : Int) - ((j : Int) + 1) * s < R.length := by omega
            rcases hcond with hd0 | ⟨hd0, hd1⟩
            · go_wp2
              go_round
              case rel => exact ⟨j + 1, by omega, by go_num, rfl⟩
              case measure => simp [intOf]; omega
            · have hd2 : (q + (j : Int) * p != lf) = true := by simpa using hd1
              clear hd1
              go_wp2
              go_round
              case rel => exact ⟨j + 1, by omega, by go_num, rfl⟩
              case measure => simp [intOf]; omega
    · go_wp2
      go_ret
      obtain rfl : k = l.length := by omega
      obtain ⟨g1, g2, g3⟩ := Hg.out
      rw [List.drop_length, choose, List.append_nil] at g2
      subst g2
      rw [← g1] at hown ⊢
      exact ⟨_, _, rfl, hown, hbel⟩

/-- What ChooseBoxes returns. -/
def chosen (l : List (Int × Int)) (n : Int) : List Int := if 0 ≤ cheapest l n then choose l n.toNat (cheapest l n) else []
end Go.Proofs.YtmmeomjclfgljaaGreat
