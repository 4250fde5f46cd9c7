/- Prices of the reference. -/
import Derived.Test.YtkbndchgmokabaaPrice
import Derived.Test.YtkbndchgmokabaaDom2
namespace Go.Proofs.Ytkbndchgmokabaa
open Go.ChangeShapes Go.WideShapes Go.ChangeAt Go.RowKit
set_option linter.unusedVariables false

set_option maxRecDepth 100000 in
theorem domPriceS_any (p : Pr) (d : Dm) (w : World) : Calls Try.prog 90 #[aPr p, aDom d] w (Ret (.int .i64 (domPrice p d)) w) := by
  obtain ⟨pa, pb, pc, pd⟩ := p
  obtain ⟨x, y, d⟩ := d
  rcases hp : pricesOk (pa, pb, pc, pd) with _ | _
  · have e : domPrice (pa, pb, pc, pd) (x, y, d) = 0 := by unfold domPrice; rw [hp]; rfl
    rw [e]
    go_enter Try.func90, Try.ntmps90
    go_wp2_with fail
    refine (pricesOkS_any _ _ _ _ _).mono ?_
    rintro e w1 ⟨rfl, hb1⟩
    rw [hp]
    go_wp2
    go_ret
    exact ⟨rfl, (((Below.refl _ _).al _).al _).tr hb1⟩
  · rcases hd : domOk (x, y, d) with _ | _
    · have e : domPrice (pa, pb, pc, pd) (x, y, d) = 0 := by unfold domPrice; rw [hp, hd]; rfl
      rw [e]
      go_enter Try.func90, Try.ntmps90
      go_wp2_with fail
      refine (pricesOkS_any _ _ _ _ _).mono ?_
      rintro e w1 ⟨rfl, hb1⟩
      obtain ⟨hc1, hf1, hz1⟩ := bk hb1
      (try simp at hz1)
      have hy1_0 : w.heap.size < w1.heap.size := by omega
      have hy1_1 : w.heap.size + 1 < w1.heap.size := by omega
      rw [hp]
      go_wp2_with fail
      refine (domOkS_any x y d _).mono ?_
      rintro e w2 ⟨rfl, hb2⟩
      rw [hd]
      go_wp2
      go_ret
      exact ⟨rfl, ((((Below.refl _ _).al _).al _).tr hb1).tr hb2⟩
    · have P := pricesOk_iff.1 hp
      have D1 := domOk_fst hd
      have D2 := domOk_sec hd
      obtain ⟨⟨a1, a2⟩, ⟨b1, b2⟩, ⟨c1, c2⟩, d1, d2⟩ := P
      have e : domPrice (pa, pb, pc, pd) (x, y, d) = (if d then pb else pa) + (if x % pd = 0 ∨ (sec (x, y, d)).1 % pd = 0 then pc else 0) := by unfold domPrice; rw [hp, hd]; rfl
      rw [e]
      simp only at a1 a2 b1 b2 c1 c2 d1 d2 D1 D2
      obtain ⟨s, hs⟩ : ∃ s, s = sec (x, y, d) := ⟨_, rfl⟩
      rw [← hs] at D2 ⊢
      obtain ⟨r, hr⟩ : ∃ r, r = (if d = true then pb else pa) + (if x % pd = 0 ∨ s.1 % pd = 0 then pc else 0) := ⟨_, rfl⟩
      rw [← hr]
      have Hs := Lib.hid hs; have Hr := Lib.hid hr; clear hs e hr
      obtain ⟨⟨x1, x2⟩, y1, y2⟩ := D1
      obtain ⟨⟨s1, s2⟩, t1, t2⟩ := D2
      rcases d with _ | _
      all_goals
        go_enter Try.func90, Try.ntmps90
        go_wp2_with fail
        refine (pricesOkS_any _ _ _ _ _).mono ?_
        rintro e w1 ⟨rfl, hb1⟩
        obtain ⟨hc1, hf1, hz1⟩ := bk hb1
        (try simp at hz1)
        have hy1_0 : w.heap.size < w1.heap.size := by omega
        have hy1_1 : w.heap.size + 1 < w1.heap.size := by omega
        rw [hp]
        go_wp2_with fail
        refine (domOkS_any x y _ _).mono ?_
        rintro e w2 ⟨rfl, hb2⟩
        obtain ⟨hc2, hf2, hz2⟩ := bk hb2
        (try simp at hz2)
        have hy2_0 : w.heap.size < w2.heap.size := by omega
        have hy2_1 : w.heap.size + 1 < w2.heap.size := by omega
        rw [hd]
        go_wp2_with fail
        refine (underS_any x y _ _ hd).mono ?_
        rintro e w3 ⟨rfl, hb3⟩
        obtain ⟨hc3, hf3, hz3⟩ := bk hb3
        (try simp at hz3)
        have hy3_0 : w.heap.size < w3.heap.size := by omega
        have hy3_1 : w.heap.size + 1 < w3.heap.size := by omega
        rw [← Hs.out]
        go_wp2
        all_goals go_ret
        all_goals exact ⟨retI (by rw [Hr.out]; simp_all), (((((((Below.refl _ _).al _).al _).tr hb1).tr hb2).tr hb3).al _).al _⟩
end Go.Proofs.Ytkbndchgmokabaa
