/- l35Least of the reference: it returns the list that leastPrices returns. Conditions: valid boxes, at most 500 tiles. -/
import Derived.Test.YtkljkkonhkakgaaLeast
namespace Go.Proofs.Ytkljkkonhkakgaa
open Go.ChangeShapes Go.WideShapes Go.ChangeAt Go.RowKit
set_option linter.unusedVariables false

set_option maxRecDepth 100000 in
theorem leastS_any (v : Value) (l : List (Int × Int)) (n : Nat) (w : World) (h : Rd 2 RPair w v l) (Hall : Hid (∀ x ∈ l, BoxFine x)) (hn : n ≤ 500) (hl5 : l.length ≤ 1048576) :
    Calls Try.prog 109 #[v, .int .i64 n] w (RetOwn 3 1 eInt (least l n) w) := by
  obtain ⟨A, c, rfl, hc, hm⟩ := h.form
  go_enter Try.func109, Try.ntmps109
  have hn1 : 8 * (n + 1) ≤ 281474976710656 := by omega
  have hn2 : n + 1 ≤ maxLen := by unfold maxLen; omega
  have hL : (n : Int) + 1 = ((n + 1 : Nat) : Int) := by omega
  have Hn1 := Lib.hid hn1; have Hn2 := Lib.hid hn2; have HL := Lib.hid hL; clear hn1 hn2 hL
  go_wp2_with (at_make; go_must (refine wpList_mk' (enc := eInt) (z0 := (0 : Int)) rowInt rfl (Below.refl _ w) (n + 1) Hn1.out Hn2.out _ HL.out rfl _ _ rfl rfl rfl ?_); intro w1 hown1 hb1 hg1)
  go_loopw [6] (fun i wr => ∃ (x : Nat) (arr : List Int), 1 ≤ x ∧ x ≤ n + 1 ∧ i = .int .i64 x ∧ arr.length = n + 1 ∧ Hid (Priced (arr.take x)) ∧ Hid (leastGo l (n + 1 - x) (arr.take x) = least l n) ∧ OwnL 3 1 eInt w.heap.size wr (.slice (some ⟨w.heap.size, 0, none⟩) (n + 1) (n + 1)) arr ∧ Below w.heap.size w wr) (fun i _ => n + 1 - (intOf i).toNat)
  case atStart => exact ⟨1, List.replicate (n + 1) 0, by decide, by omega, rfl, by simp, Lib.hid (by simpa using priced_start), Lib.hid (by simp [least]), hown1, hb1⟩
  case round =>
    obtain ⟨x, arr, hx1, hx2, rfl, hal, Hp, Hg, hown, hbel⟩ := hrel
    have Hal := Lib.hid hal; clear hal hown1 hb1 hg1
    by_cases hlt : x ≤ n
    · have hltI : (x : Int) ≤ n := by omega
      obtain ⟨u, hs1⟩ := hown.slot1 lenInt (k := x) (by rw [Hal.out]; omega)
      have hsf := hown.free
      go_wp2
      obtain ⟨wo, rfl⟩ : ∃ wo : World, wo = wr := ⟨_, rfl⟩
      have hown0 := hown.store1 lenInt (k := x) (y := -1) (by rw [Hal.out]; omega) rfl
      have hbel0 := hbel.st ⟨w.heap.size, x, none⟩ (.int .i64 (-1)) (Nat.le_refl _)
      go_loopw [7] (fun i wi => ∃ (k : Nat) (best : Int), k ≤ l.length ∧ i = .int .i64 k ∧ -1 ≤ best ∧ best ≤ 1000 * x ∧ Hid (bestOf (arr.take x) x (l.drop k) best = bestOf (arr.take x) x l (-1)) ∧ OwnL 3 1 eInt w.heap.size wi (.slice (some ⟨w.heap.size, 0, none⟩) (n + 1) (n + 1)) (arr.set x best) ∧ Below w.heap.size w wi) (fun i _ => l.length - (intOf i).toNat)
      case atStart => exact ⟨0, -1, Nat.zero_le _, rfl, by omega, by omega, Lib.hid rfl, hown0, hbel0⟩
      case round =>
        clear hown hbel hs1 hsf hown0 hbel0
        obtain ⟨k, best, hk, rfl, hb1, hb2, Hb, hown, hbel⟩ := hrel
        have hal : (arr.set x best).length = n + 1 := by rw [List.length_set]; exact Hal.out
        by_cases hkl : k < l.length
        · obtain ⟨b, off, rfl, hb, h1, h2⟩ := (h.below RE.stays hbel).atPair hkl
          have F := Hall.out l[k] (List.getElem_mem hkl)
          have F1 := F.1; have F2 := F.2.1; have F3 := F.2.2.1; have F4 := F.2.2.2
          clear F
          obtain ⟨s, hs⟩ : ∃ s, s = l[k].1 := ⟨_, rfl⟩
          obtain ⟨p, hp⟩ : ∃ p, p = l[k].2 := ⟨_, rfl⟩
          rw [← hs] at h1 F1 F2; rw [← hp] at h2 F3 F4
          obtain ⟨i, hi⟩ : ∃ i : Nat, i = ((x : Int) - s).toNat := ⟨_, rfl⟩
          have hix : i < x := by omega
          have hio : i < arr.length := by rw [Hal.out]; omega
          obtain ⟨q, hq⟩ : ∃ q, q = arr[i] := ⟨_, rfl⟩
          have hqt : (arr.take x)[i]? = some q := by rw [List.getElem?_take_of_lt hix, hq]; exact List.getElem?_eq_getElem hio
          have hq2 := Hp.out i q hqt
          have hq3 : -1 ≤ q := hq2.1
          have hq4 : q + 1000 ≤ 1000 * x := by have := hq2.2; omega
          have hcell := hown.slot lenInt Nat.one_pos (k := i) (by omega) 0 (.int .i64 q) (by rw [List.getElem_set_ne (by omega), ← hq]; rfl)
          have hcellx := hown.slot lenInt Nat.one_pos (k := x) (by omega) 0 (.int .i64 best) (by rw [List.getElem_set_self]; rfl)
          have hfx := hown.free
          rw [Nat.mul_one, Nat.add_zero] at hcell hcellx
          have hG := bestOf_go Hb hkl
          rw [← hs, ← hp, ← hi, List.getD_eq_getElem?_getD, hqt, Option.getD_some, Int.add_comm q p] at hG
          have Hs := Lib.hid hs; have Hpp := Lib.hid hp; have Hi := Lib.hid hi; have Hq := Lib.hid hq; have Hhal := Lib.hid hal
          clear hs hp hi hq hq2 hqt hal
          have e2 : (if (0 : Int) < IntKind.i64.wrap ((x : Int) - s) then IntKind.i64.wrap ((x : Int) - s) else (0 : Int)) = (i : Int) := by
            rw [IntWalk.i64_in _ (by omega)]; have := Hi.out; split <;> omega
          have e2' : (if IntKind.i64.wrap ((x : Int) - s) < (0 : Int) then (0 : Int) else IntKind.i64.wrap ((x : Int) - s)) = (i : Int) := by
            rw [IntWalk.i64_in _ (by omega)]; have := Hi.out; split <;> omega
          have e2'' : (if IntKind.i64.wrap ((x : Int) - s) ≤ (0 : Int) then (0 : Int) else IntKind.i64.wrap ((x : Int) - s)) = (i : Int) := by
            rw [IntWalk.i64_in _ (by omega)]; have := Hi.out; split <;> omega
          have e3 : IntKind.i64.wrap (p + q) = p + q := IntWalk.i64_in _ (by omega)
          have hioI : (i : Int) < n + 1 := by omega
          go_wp2_with fail
          go_quiet (fail)
          clear e2 e2' e2'' e3
          go_wp2
          all_goals
            go_roundw
            case rel =>
              first
              | exact ⟨k + 1, p + q, by omega, by go_num, by omega, by omega, by rw [if_pos (by omega)] at hG; exact hG, (hown.drewN _).store1' lenInt (by rw [Hal.out]; omega) rfl, Below.st (below_drewN hbel _) _ _ (Nat.le_refl _)⟩
              | exact ⟨k + 1, best, by omega, by go_num, by omega, by omega, by rw [if_neg (by omega)] at hG; exact hG, hown.drewN _, below_drewN hbel _⟩
            case measure => simp [intOf]; omega
        · have hbe := bestOf_end Hb (by omega)
          have hxl : x < arr.length := by rw [Hal.out]; omega
          have htk : (arr.take x).length = x := by rw [List.length_take]; omega
          have HG : Hid (leastGo l (n + 1 - (x + 1)) ((arr.set x best).take (x + 1)) = least l n) := by
            have := Hg.out
            rw [show n + 1 - x = (n + 1 - (x + 1)) + 1 by omega, leastGo, htk, hbe, ← take_set _ hxl] at this
            exact this
          have HP : Hid (Priced ((arr.set x best).take (x + 1))) := Lib.hid (by rw [take_set _ hxl]; exact Hp.out.push hb1 (by rw [htk]; exact hb2))
          clear hbe Hb hxl htk
          go_wp2
          go_roundw
          case rel => exact ⟨x + 1, arr.set x best, by omega, by omega, by go_num, hal, HP, HG, hown, hbel⟩
          case measure => simp [intOf]; omega
    · go_wp2
      go_ret
      have G := Hg.out
      rw [show n + 1 - x = 0 by omega, leastGo, List.take_of_length_le (by rw [Hal.out]; omega)] at G
      rw [← G]
      have e : arr.length = n + 1 := Hal.out
      rw [← e] at hown ⊢
      exact ⟨_, _, rfl, hown, hbel⟩
end Go.Proofs.Ytkljkkonhkakgaa
