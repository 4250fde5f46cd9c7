/- Prices of dominoes and floors: the walks and the law FnExactFloorPrice. No conditions. -/
import Derived.Test.YtkbndchgmokabaaDom
namespace Go.Proofs.Ytkbndchgmokabaa
open Go.ChangeShapes Go.WideShapes Go.ChangeAt Go.RowKit
set_option linter.unusedVariables false

abbrev Pr := Int × Int × Int × Int
abbrev aPr (p : Pr) : Value := .agg #[.int .i64 p.1, .int .i64 p.2.1, .int .i64 p.2.2.1, .int .i64 p.2.2.2]
def pricesOk (p : Pr) : Bool := inB p.1 0 1000 && inB p.2.1 0 1000 && inB p.2.2.1 0 1000 && inB p.2.2.2 1 8

theorem toPrices_any (p : Pr) (w : World) : Calls Try.prog 17 #[aPr p] w (Ret (aPr p) w) := by
  go_enter Try.func17, Try.ntmps17
  go_wp2
  refine bodyPost_ret (v := aPr p) (by simp [results, Try.results17, go_sem]) rfl ⟨rfl, ?_⟩
  exact (((Below.refl _ _).al _).al _).al _

theorem pricesOkS_any (a b c d : Int) (w : World) : Calls Try.prog 83 #[.agg #[.int .i64 a, .int .i64 b, .int .i64 c, .int .i64 d]] w (Ret (.bool (pricesOk (a, b, c, d))) w) := by
  go_enter Try.func83, Try.ntmps83
  go_wp2_with (go_at_call 128; (with_reducible refine (in_any _ _ _ _).mono ?_); rintro e w' ⟨rfl, rfl⟩)
  all_goals go_ret
  all_goals exact ⟨by simp_all [pricesOk], (Below.refl _ _).al _⟩

theorem rd_lit3 (w : World) {E : TypeId} (g : Nat) (hg : g = w.heap.size) (a b c : Int) : Rd 1 RInt (w.alloc (.cells #[.int .i64 a, .int .i64 b, .int .i64 c] E)) (.slice (some ⟨g, 0, none⟩) 3 3) [a, b, c] := by
  subst hg
  exact OwnL.rd (E := E) (B := w.heap.size) (World.ownsRow_lit w _ 3 (Nat.le_refl _) (by simp [maxLen]) rfl) lenInt (by decide)

set_option maxRecDepth 100000 in
theorem pricesOkI_any (a b c d : Int) (w : World) : Calls Try.prog 67 #[.agg #[.int .i64 a, .int .i64 b, .int .i64 c, .int .i64 d]] w (Ret (.bool (pricesOk (a, b, c, d))) w) := by
  go_enter Try.func67, Try.ntmps67
  go_wp2_with fail
  refine (allWithin_any _ [a, b, c] _ _ _ (rd_lit3 _ _ (by simp) a b c)).mono ?_
  rintro e w1 ⟨rfl, rfl⟩
  go_wp2_with (go_at_call 141; (with_reducible refine (within_any _ _ _ _).mono ?_); rintro e w' ⟨rfl, rfl⟩)
  all_goals go_ret
  all_goals exact ⟨by simp_all [pricesOk, allIn], ((Below.refl _ _).al _).al _⟩

/-- The price of a domino. -/
def domPrice (p : Pr) (d : Dm) : Int :=
  if !pricesOk p || !domOk d then 0
  else (if d.2.2 then p.2.1 else p.1) + (if d.1 % p.2.2.2 = 0 ∨ (sec d).1 % p.2.2.2 = 0 then p.2.2.1 else 0)
theorem pricesOk_iff {p : Pr} : pricesOk p = true ↔ (0 ≤ p.1 ∧ p.1 ≤ 1000) ∧ (0 ≤ p.2.1 ∧ p.2.1 ≤ 1000) ∧ (0 ≤ p.2.2.1 ∧ p.2.2.1 ≤ 1000) ∧ (1 ≤ p.2.2.2 ∧ p.2.2.2 ≤ 8) := by
  simp [pricesOk, inB, and_assoc]

theorem domPrice_in (p : Pr) (d : Dm) : 0 ≤ domPrice p d ∧ domPrice p d ≤ 2000 := by
  unfold domPrice
  split
  · omega
  · rename_i h
    have hp : pricesOk p = true := by revert h; cases pricesOk p <;> simp
    have := pricesOk_iff.1 hp
    split <;> split <;> omega

set_option maxRecDepth 100000 in
theorem domPriceI_any (p : Pr) (d : Dm) (w : World) : Calls Try.prog 64 #[aPr p, aDom d] w (Ret (.int .i64 (domPrice p d)) w) := by
  obtain ⟨pa, pb, pc, pd⟩ := p
  obtain ⟨x, y, d⟩ := d
  rcases hp : pricesOk (pa, pb, pc, pd) with _ | _
  · have e : domPrice (pa, pb, pc, pd) (x, y, d) = 0 := by unfold domPrice; rw [hp]; rfl
    rw [e]
    go_enter Try.func64, Try.ntmps64
    go_wp2_with fail
    refine (pricesOkI_any _ _ _ _ _).mono ?_
    rintro e w1 ⟨rfl, hb1⟩
    rw [hp]
    go_wp2
    go_ret
    exact ⟨rfl, (((Below.refl _ _).al _).al _).tr hb1⟩
  · rcases hd : domOk (x, y, d) with _ | _
    · have e : domPrice (pa, pb, pc, pd) (x, y, d) = 0 := by unfold domPrice; rw [hp, hd]; rfl
      rw [e]
      go_enter Try.func64, Try.ntmps64
      go_wp2_with fail
      refine (pricesOkI_any _ _ _ _ _).mono ?_
      rintro e w1 ⟨rfl, hb1⟩
      obtain ⟨hc1, hf1, hz1⟩ := bk hb1
      (try simp at hz1)
      have hy1_0 : w.heap.size < w1.heap.size := by omega
      have hy1_1 : w.heap.size + 1 < w1.heap.size := by omega
      rw [hp]
      go_wp2_with fail
      refine (domOkI_any x y d _).mono ?_
      rintro e w2 ⟨rfl, hb2⟩
      rw [hd]
      go_wp2
      go_ret
      exact ⟨rfl, ((((Below.refl _ _).al _).al _).tr hb1).tr hb2⟩
    · have P := pricesOk_iff.1 hp
      have D1 := domOk_fst hd
      have D2 := domOk_sec hd
      obtain ⟨⟨a1, a2⟩, ⟨b1, b2⟩, ⟨c1, c2⟩, d1, d2⟩ := P
      have e : domPrice (pa, pb, pc, pd) (x, y, d) = (if d then pb else pa) + (if x % pd = 0 ∨ (sec (x, y, d)).1 % pd = 0 then pc else 0) := by unfold domPrice; rw [hp, hd]; rfl
      rw [e]
      simp only at a1 a2 b1 b2 c1 c2 d1 d2 D1 D2
      obtain ⟨s, hs⟩ : ∃ s, s = sec (x, y, d) := ⟨_, rfl⟩
      rw [← hs] at D2 ⊢
      obtain ⟨r, hr⟩ : ∃ r, r = (if d = true then pb else pa) + (if x % pd = 0 ∨ s.1 % pd = 0 then pc else 0) := ⟨_, rfl⟩
      rw [← hr]
      have Hs := Lib.hid hs; have Hr := Lib.hid hr; clear hs e hr
      obtain ⟨⟨x1, x2⟩, y1, y2⟩ := D1
      obtain ⟨⟨s1, s2⟩, t1, t2⟩ := D2
      rcases d with _ | _
      all_goals
        go_enter Try.func64, Try.ntmps64
        go_wp2_with fail
        refine (pricesOkI_any _ _ _ _ _).mono ?_
        rintro e w1 ⟨rfl, hb1⟩
        obtain ⟨hc1, hf1, hz1⟩ := bk hb1
        (try simp at hz1)
        have hy1_0 : w.heap.size < w1.heap.size := by omega
        have hy1_1 : w.heap.size + 1 < w1.heap.size := by omega
        rw [hp]
        go_wp2_with fail
        refine (domOkI_any x y _ _).mono ?_
        rintro e w2 ⟨rfl, hb2⟩
        obtain ⟨hc2, hf2, hz2⟩ := bk hb2
        (try simp at hz2)
        have hy2_0 : w.heap.size < w2.heap.size := by omega
        have hy2_1 : w.heap.size + 1 < w2.heap.size := by omega
        rw [hd]
        go_wp2_with fail
        refine (endsI_any x y _ _).mono ?_
        rintro e w3 ⟨rfl, hb3⟩
        obtain ⟨hc3, hf3, hz3⟩ := bk hb3
        (try simp at hz3)
        have hy3_0 : w.heap.size < w3.heap.size := by omega
        have hy3_1 : w.heap.size + 1 < w3.heap.size := by omega
        rw [← Hs.out]
        go_wp2
        all_goals go_ret
        all_goals exact ⟨retI (by rw [Hr.out]; simp_all), (((((((Below.refl _ _).al _).al _).tr hb1).tr hb2).tr hb3).al _).al _⟩

end Go.Proofs.Ytkbndchgmokabaa
