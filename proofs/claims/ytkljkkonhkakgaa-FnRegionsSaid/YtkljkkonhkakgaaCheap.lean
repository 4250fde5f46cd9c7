/- CheapestBoxes and BoxesHold: the walks and the laws. For all arguments the laws return true. No conditions. -/
import Derived.Test.YtkljkkonhkakgaaLeastS
namespace Go.Proofs.Ytkljkkonhkakgaa
open Go.ChangeShapes Go.WideShapes Go.ChangeAt Go.RowKit
set_option linter.unusedVariables false

def cheapest (l : List (Int × Int)) (n : Int) : Int := if boxesOk l l.length && inB n 0 500 then (least l n.toNat).getD n.toNat 0 else -1
theorem cheapest_ok {l : List (Int × Int)} (h : boxesOk l l.length = true) {n : Nat} (hn : n ≤ 500) : cheapest l n = (least l n)[n]'(by rw [least_len]; omega) := by
  have hi : inB (n : Int) 0 500 = true := by simp [inB]; omega
  unfold cheapest
  rw [h, hi, if_pos (by rfl), Int.toNat_natCast, List.getD_eq_getElem?_getD, List.getElem?_eq_getElem (by rw [least_len]; omega)]; rfl

theorem cheapI_any (v : Value) (l : List (Int × Int)) (n : Int) (w : World) (h : Rd 2 RPair w v l) : Calls Try.prog 20 #[v, .int .i64 n] w (Ret (.int .i64 (cheapest l n)) w) := by
  rcases hok : boxesOk l l.length with _ | _
  · have hr : cheapest l n = -1 := by unfold cheapest; rw [hok]; rfl
    rw [hr]
    go_enter Try.func20, Try.ntmps20
    go_wp2_with fail
    refine (boxesOkI_any _ l _ h).mono ?_
    rintro e w1 ⟨rfl, hb1⟩
    rw [hok]
    go_wp2
    go_ret
    exact ⟨rfl, hb1⟩
  · rcases hin : inB n 0 500 with _ | _
    · have hr : cheapest l n = -1 := by unfold cheapest; rw [hok, hin]; rfl
      rw [hr]
      go_enter Try.func20, Try.ntmps20
      go_wp2_with fail
      refine (boxesOkI_any _ l _ h).mono ?_
      rintro e w1 ⟨rfl, hb1⟩
      rw [hok]
      go_wp2_with fail
      refine (within_any _ _ _ _).mono ?_
      rintro e w2 ⟨rfl, rfl⟩
      rw [hin]
      go_wp2
      go_ret
      exact ⟨rfl, hb1⟩
    · obtain ⟨hall, h1, h5⟩ := boxesOk_all _ _ hok
      have hn0 : 0 ≤ n ∧ n ≤ 500 := by simpa [inB] using hin
      obtain ⟨n, rfl⟩ := Int.eq_ofNat_of_zero_le hn0.1
      have hn : n ≤ 500 := by omega
      have hl5 : l.length ≤ 1048576 := by omega
      have hnl : n < (least l n).length := by rw [least_len]; omega
      have hnI : (n : Int) < (least l n).length := by omega
      obtain ⟨r, hr⟩ : ∃ r, r = (least l n)[n] := ⟨_, rfl⟩
      have hc : cheapest l n = r := by rw [cheapest_ok hok hn, hr]
      rw [hc]
      have Hr := Lib.hid hr; have Hall := Lib.hid hall; clear hc hr hall
      go_enter Try.func20, Try.ntmps20
      go_wp2_with fail
      refine (boxesOkI_any _ l _ h).mono ?_
      rintro e w1 ⟨rfl, hb1⟩
      rw [hok]
      go_wp2_with fail
      refine (within_any _ _ _ _).mono ?_
      rintro e w2 ⟨rfl, rfl⟩
      rw [hin]
      go_wp2_with fail
      refine (leastI_any _ l n _ (h.below RE.stays hb1) Hall hn hl5).mono ?_
      rintro e w3 ⟨A3, c3, rfl, own3, hb3⟩
      obtain ⟨g, rfl, hB, hg⟩ := own3.split hnl
      have hcell := own3.slot lenInt Nat.one_pos hnl 0 (.int .i64 r) (by rw [Hr.out]; rfl)
      rw [Nat.mul_one, Nat.add_zero] at hcell
      go_wp2
      go_ret
      exact ⟨rfl, Below.tr (hb1) hb3⟩

theorem cheapS_any (v : Value) (l : List (Int × Int)) (n : Int) (w : World) (h : Rd 2 RPair w v l) : Calls Try.prog 108 #[v, .int .i64 n] w (Ret (.int .i64 (cheapest l n)) w) := by
  rcases hok : boxesOk l l.length with _ | _
  · have hr : cheapest l n = -1 := by unfold cheapest; rw [hok]; rfl
    rw [hr]
    go_enter Try.func108, Try.ntmps108
    go_wp2_with fail
    refine (boxesOkS_any _ l _ h).mono ?_
    rintro e w1 ⟨rfl, rfl⟩
    rw [hok]
    go_wp2
    go_ret
    exact ⟨rfl, Below.refl _ _⟩
  · rcases hin : inB n 0 500 with _ | _
    · have hr : cheapest l n = -1 := by unfold cheapest; rw [hok, hin]; rfl
      rw [hr]
      go_enter Try.func108, Try.ntmps108
      go_wp2_with fail
      refine (boxesOkS_any _ l _ h).mono ?_
      rintro e w1 ⟨rfl, rfl⟩
      rw [hok]
      go_wp2_with fail
      refine (in_any _ _ _ _).mono ?_
      rintro e w2 ⟨rfl, rfl⟩
      rw [hin]
      go_wp2
      go_ret
      exact ⟨rfl, Below.refl _ _⟩
    · obtain ⟨hall, h1, h5⟩ := boxesOk_all _ _ hok
      have hn0 : 0 ≤ n ∧ n ≤ 500 := by simpa [inB] using hin
      obtain ⟨n, rfl⟩ := Int.eq_ofNat_of_zero_le hn0.1
      have hn : n ≤ 500 := by omega
      have hl5 : l.length ≤ 1048576 := by omega
      have hnl : n < (least l n).length := by rw [least_len]; omega
      have hnI : (n : Int) < (least l n).length := by omega
      obtain ⟨r, hr⟩ : ∃ r, r = (least l n)[n] := ⟨_, rfl⟩
      have hc : cheapest l n = r := by rw [cheapest_ok hok hn, hr]
      rw [hc]
      have Hr := Lib.hid hr; have Hall := Lib.hid hall; clear hc hr hall
      go_enter Try.func108, Try.ntmps108
      go_wp2_with fail
      refine (boxesOkS_any _ l _ h).mono ?_
      rintro e w1 ⟨rfl, rfl⟩
      rw [hok]
      go_wp2_with fail
      refine (in_any _ _ _ _).mono ?_
      rintro e w2 ⟨rfl, rfl⟩
      rw [hin]
      go_wp2_with fail
      refine (leastS_any _ l n _ h Hall hn hl5).mono ?_
      rintro e w3 ⟨A3, c3, rfl, own3, hb3⟩
      obtain ⟨g, rfl, hB, hg⟩ := own3.split hnl
      have hcell := own3.slot lenInt Nat.one_pos hnl 0 (.int .i64 r) (by rw [Hr.out]; rfl)
      rw [Nat.mul_one, Nat.add_zero] at hcell
      go_wp2
      go_ret
      exact ⟨rfl, Below.tr (Below.refl _ _) hb3⟩

end Go.Proofs.Ytkljkkonhkakgaa
