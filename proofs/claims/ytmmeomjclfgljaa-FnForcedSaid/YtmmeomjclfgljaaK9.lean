/- Prices of dominoes and floors: the walks and the law FnExactFloorPrice. No conditions. Prices of the reference. FloorPrice and FnExactFloorPrice. No conditions. The profile over the cells of a set: the states' numbers from cell to cell. Plain laws. The count by profiles is the number of tilings. Plain laws. The tilings that are listed are all tilings. Plain laws. Counts of a set, of a region, with a domino; the first tiling, step by step. Plain laws. Forced dominoes and the region without them: plain laws. The cheapest price by profiles is the least price of a tiling. Plain laws.. Conditions, where there are any, stand in the statements. -/
import Derived.Test.YtmmeomjclfgljaaK2
import Derived.Test.YtmmeomjclfgljaaK4
import Derived.Test.YtmmeomjclfgljaaK5
namespace Go.Proofs.Ytmmeomjclfgljaa
open Go.ChangeShapes Go.WideShapes Go.ChangeAt Go.RowKit
set_option linter.unusedVariables false

abbrev Pr := Int × Int × Int × Int
abbrev aPr (p : Pr) : Value := .agg #[.int .i64 p.1, .int .i64 p.2.1, .int .i64 p.2.2.1, .int .i64 p.2.2.2]
def pricesOk (p : Pr) : Bool := inB p.1 0 1000 && inB p.2.1 0 1000 && inB p.2.2.1 0 1000 && inB p.2.2.2 1 8

theorem toPrices_any (p : Pr) (w : World) : Calls Try.prog 20 #[aPr p] w (Ret (aPr p) w) := by
  go_enter Try.func20, Try.ntmps20
  go_wp2
  refine bodyPost_ret (v := aPr p) (by simp [results, Try.results20, go_sem]) rfl ⟨rfl, ?_⟩
  exact (((Below.refl _ _).al _).al _).al _

theorem pricesOkS_any (a b c d : Int) (w : World) : Calls Try.prog 62 #[.agg #[.int .i64 a, .int .i64 b, .int .i64 c, .int .i64 d]] w (Ret (.bool (pricesOk (a, b, c, d))) w) := by
  go_enter Try.func62, Try.ntmps62
  go_wp2_with (go_at_call 49; (with_reducible refine (in_any _ _ _ _).mono ?_); rintro e w' ⟨rfl, rfl⟩)
  all_goals go_ret
  all_goals exact ⟨by simp_all [pricesOk], (Below.refl _ _).al _⟩

theorem rd_lit3 (w : World) {E : TypeId} (g : Nat) (hg : g = w.heap.size) (a b c : Int) : Rd 1 RInt (w.alloc (.cells #[.int .i64 a, .int .i64 b, .int .i64 c] E)) (.slice (some ⟨g, 0, none⟩) 3 3) [a, b, c] := by
  subst hg
  exact OwnL.rd (E := E) (B := w.heap.size) (World.ownsRow_lit w _ 3 (Nat.le_refl _) (by simp [maxLen]) rfl) lenInt (by decide)

set_option maxRecDepth 100000 in
theorem pricesOkI_any (a b c d : Int) (w : World) : Calls Try.prog 46 #[.agg #[.int .i64 a, .int .i64 b, .int .i64 c, .int .i64 d]] w (Ret (.bool (pricesOk (a, b, c, d))) w) := by
  go_enter Try.func46, Try.ntmps46
  go_wp2_with fail
  refine (allWithin_any _ [a, b, c] _ _ _ (rd_lit3 _ _ (by simp) a b c)).mono ?_
  rintro e w1 ⟨rfl, rfl⟩
  go_wp2_with (go_at_call 53; (with_reducible refine (within_any _ _ _ _).mono ?_); rintro e w' ⟨rfl, rfl⟩)
  all_goals go_ret
  all_goals exact ⟨by simp_all [pricesOk, allIn], ((Below.refl _ _).al _).al _⟩

/-- The price of a domino. -/
def domPrice (p : Pr) (d : Dm) : Int :=
  if !pricesOk p || !domOk d then 0
  else (if d.2.2 then p.2.1 else p.1) + (if d.1 % p.2.2.2 = 0 ∨ (sec d).1 % p.2.2.2 = 0 then p.2.2.1 else 0)
theorem pricesOk_iff {p : Pr} : pricesOk p = true ↔ (0 ≤ p.1 ∧ p.1 ≤ 1000) ∧ (0 ≤ p.2.1 ∧ p.2.1 ≤ 1000) ∧ (0 ≤ p.2.2.1 ∧ p.2.2.1 ≤ 1000) ∧ (1 ≤ p.2.2.2 ∧ p.2.2.2 ≤ 8) := by
  simp [pricesOk, inB, and_assoc]

theorem domPrice_in (p : Pr) (d : Dm) : 0 ≤ domPrice p d ∧ domPrice p d ≤ 2000 := by
  unfold domPrice
  split
  · omega
  · rename_i h
    have hp : pricesOk p = true := by revert h; cases pricesOk p <;> simp
    have := pricesOk_iff.1 hp
    split <;> split <;> omega

set_option maxRecDepth 100000 in
theorem domPriceI_any (p : Pr) (d : Dm) (w : World) : Calls Try.prog 43 #[aPr p, aDom d] w (Ret (.int .i64 (domPrice p d)) w) := by
  obtain ⟨pa, pb, pc, pd⟩ := p
  obtain ⟨x, y, d⟩ := d
  rcases hp : pricesOk (pa, pb, pc, pd) with _ | _
  · have e : domPrice (pa, pb, pc, pd) (x, y, d) = 0 := by unfold domPrice; rw [hp]; rfl
    rw [e]
    go_enter Try.func43, Try.ntmps43
    go_wp2_with fail
    refine (pricesOkI_any _ _ _ _ _).mono ?_
    rintro e w1 ⟨rfl, hb1⟩
    rw [hp]
    go_wp2
    go_ret
    exact ⟨rfl, (((Below.refl _ _).al _).al _).tr hb1⟩
  · rcases hd : domOk (x, y, d) with _ | _
    · have e : domPrice (pa, pb, pc, pd) (x, y, d) = 0 := by unfold domPrice; rw [hp, hd]; rfl
      rw [e]
      go_enter Try.func43, Try.ntmps43
      go_wp2_with fail
      refine (pricesOkI_any _ _ _ _ _).mono ?_
      rintro e w1 ⟨rfl, hb1⟩
      obtain ⟨hc1, hf1, hz1⟩ := bk hb1
      (try simp at hz1)
      have hy1_0 : w.heap.size < w1.heap.size := by omega
      have hy1_1 : w.heap.size + 1 < w1.heap.size := by omega
      rw [hp]
      go_wp2_with fail
      refine (domOkI_any x y d _).mono ?_
      rintro e w2 ⟨rfl, hb2⟩
      rw [hd]
      go_wp2
      go_ret
      exact ⟨rfl, ((((Below.refl _ _).al _).al _).tr hb1).tr hb2⟩
    · have P := pricesOk_iff.1 hp
      have D1 := domOk_fst hd
      have D2 := domOk_sec hd
      obtain ⟨⟨a1, a2⟩, ⟨b1, b2⟩, ⟨c1, c2⟩, d1, d2⟩ := P
      have e : domPrice (pa, pb, pc, pd) (x, y, d) = (if d then pb else pa) + (if x % pd = 0 ∨ (sec (x, y, d)).1 % pd = 0 then pc else 0) := by unfold domPrice; rw [hp, hd]; rfl
      rw [e]
      simp only at a1 a2 b1 b2 c1 c2 d1 d2 D1 D2
      obtain ⟨s, hs⟩ : ∃ s, s = sec (x, y, d) := ⟨_, rfl⟩
      rw [← hs] at D2 ⊢
      obtain ⟨r, hr⟩ : ∃ r, r = (if d = true then pb else pa) + (if x % pd = 0 ∨ s.1 % pd = 0 then pc else 0) := ⟨_, rfl⟩
      rw [← hr]
      have Hs := Lib.hid hs; have Hr := Lib.hid hr; clear hs e hr
      obtain ⟨⟨x1, x2⟩, y1, y2⟩ := D1
      obtain ⟨⟨s1, s2⟩, t1, t2⟩ := D2
      rcases d with _ | _
      all_goals
        go_enter Try.func43, Try.ntmps43
        go_wp2_with fail
        refine (pricesOkI_any _ _ _ _ _).mono ?_
        rintro e w1 ⟨rfl, hb1⟩
        obtain ⟨hc1, hf1, hz1⟩ := bk hb1
        (try simp at hz1)
        have hy1_0 : w.heap.size < w1.heap.size := by omega
        have hy1_1 : w.heap.size + 1 < w1.heap.size := by omega
        rw [hp]
        go_wp2_with fail
        refine (domOkI_any x y _ _).mono ?_
        rintro e w2 ⟨rfl, hb2⟩
        obtain ⟨hc2, hf2, hz2⟩ := bk hb2
        (try simp at hz2)
        have hy2_0 : w.heap.size < w2.heap.size := by omega
        have hy2_1 : w.heap.size + 1 < w2.heap.size := by omega
        rw [hd]
        go_wp2_with fail
        refine (endsI_any x y _ _).mono ?_
        rintro e w3 ⟨rfl, hb3⟩
        obtain ⟨hc3, hf3, hz3⟩ := bk hb3
        (try simp at hz3)
        have hy3_0 : w.heap.size < w3.heap.size := by omega
        have hy3_1 : w.heap.size + 1 < w3.heap.size := by omega
        rw [← Hs.out]
        go_wp2
        all_goals go_ret
        all_goals exact ⟨retI (by rw [Hr.out]; simp_all), (((((((Below.refl _ _).al _).al _).tr hb1).tr hb2).tr hb3).al _).al _⟩

end Go.Proofs.Ytmmeomjclfgljaa
namespace Go.Proofs.Ytmmeomjclfgljaa
open Go.ChangeShapes Go.WideShapes Go.ChangeAt Go.RowKit
set_option linter.unusedVariables false

set_option maxRecDepth 100000 in
theorem domPriceS_any (p : Pr) (d : Dm) (w : World) : Calls Try.prog 112 #[aPr p, aDom d] w (Ret (.int .i64 (domPrice p d)) w) := by
  obtain ⟨pa, pb, pc, pd⟩ := p
  obtain ⟨x, y, d⟩ := d
  rcases hp : pricesOk (pa, pb, pc, pd) with _ | _
  · have e : domPrice (pa, pb, pc, pd) (x, y, d) = 0 := by unfold domPrice; rw [hp]; rfl
    rw [e]
    go_enter Try.func112, Try.ntmps112
    go_wp2_with fail
    refine (pricesOkS_any _ _ _ _ _).mono ?_
    rintro e w1 ⟨rfl, hb1⟩
    rw [hp]
    go_wp2
    go_ret
    exact ⟨rfl, (((Below.refl _ _).al _).al _).tr hb1⟩
  · rcases hd : domOk (x, y, d) with _ | _
    · have e : domPrice (pa, pb, pc, pd) (x, y, d) = 0 := by unfold domPrice; rw [hp, hd]; rfl
      rw [e]
      go_enter Try.func112, Try.ntmps112
      go_wp2_with fail
      refine (pricesOkS_any _ _ _ _ _).mono ?_
      rintro e w1 ⟨rfl, hb1⟩
      obtain ⟨hc1, hf1, hz1⟩ := bk hb1
      (try simp at hz1)
      have hy1_0 : w.heap.size < w1.heap.size := by omega
      have hy1_1 : w.heap.size + 1 < w1.heap.size := by omega
      rw [hp]
      go_wp2_with fail
      refine (domOkS_any x y d _).mono ?_
      rintro e w2 ⟨rfl, hb2⟩
      rw [hd]
      go_wp2
      go_ret
      exact ⟨rfl, ((((Below.refl _ _).al _).al _).tr hb1).tr hb2⟩
    · have P := pricesOk_iff.1 hp
      have D1 := domOk_fst hd
      have D2 := domOk_sec hd
      obtain ⟨⟨a1, a2⟩, ⟨b1, b2⟩, ⟨c1, c2⟩, d1, d2⟩ := P
      have e : domPrice (pa, pb, pc, pd) (x, y, d) = (if d then pb else pa) + (if x % pd = 0 ∨ (sec (x, y, d)).1 % pd = 0 then pc else 0) := by unfold domPrice; rw [hp, hd]; rfl
      rw [e]
      simp only at a1 a2 b1 b2 c1 c2 d1 d2 D1 D2
      obtain ⟨s, hs⟩ : ∃ s, s = sec (x, y, d) := ⟨_, rfl⟩
      rw [← hs] at D2 ⊢
      obtain ⟨r, hr⟩ : ∃ r, r = (if d = true then pb else pa) + (if x % pd = 0 ∨ s.1 % pd = 0 then pc else 0) := ⟨_, rfl⟩
      rw [← hr]
      have Hs := Lib.hid hs; have Hr := Lib.hid hr; clear hs e hr
      obtain ⟨⟨x1, x2⟩, y1, y2⟩ := D1
      obtain ⟨⟨s1, s2⟩, t1, t2⟩ := D2
      rcases d with _ | _
      all_goals
        go_enter Try.func112, Try.ntmps112
        go_wp2_with fail
        refine (pricesOkS_any _ _ _ _ _).mono ?_
        rintro e w1 ⟨rfl, hb1⟩
        obtain ⟨hc1, hf1, hz1⟩ := bk hb1
        (try simp at hz1)
        have hy1_0 : w.heap.size < w1.heap.size := by omega
        have hy1_1 : w.heap.size + 1 < w1.heap.size := by omega
        rw [hp]
        go_wp2_with fail
        refine (domOkS_any x y _ _).mono ?_
        rintro e w2 ⟨rfl, hb2⟩
        obtain ⟨hc2, hf2, hz2⟩ := bk hb2
        (try simp at hz2)
        have hy2_0 : w.heap.size < w2.heap.size := by omega
        have hy2_1 : w.heap.size + 1 < w2.heap.size := by omega
        rw [hd]
        go_wp2_with fail
        refine (underS_any x y _ _ hd).mono ?_
        rintro e w3 ⟨rfl, hb3⟩
        obtain ⟨hc3, hf3, hz3⟩ := bk hb3
        (try simp at hz3)
        have hy3_0 : w.heap.size < w3.heap.size := by omega
        have hy3_1 : w.heap.size + 1 < w3.heap.size := by omega
        rw [← Hs.out]
        go_wp2
        all_goals go_ret
        all_goals exact ⟨retI (by rw [Hr.out]; simp_all), (((((((Below.refl _ _).al _).al _).tr hb1).tr hb2).tr hb3).al _).al _⟩
end Go.Proofs.Ytmmeomjclfgljaa
namespace Go.Proofs.Ytmmeomjclfgljaa
open Go.ChangeShapes Go.WideShapes Go.ChangeAt Go.RowKit
set_option linter.unusedVariables false

def floorTo (p : Pr) (l : List Dm) (k : Nat) : Int := ((l.take k).map (domPrice p)).sum
theorem floorTo_step (p : Pr) (l : List Dm) (k : Nat) (h : k < l.length) : floorTo p l (k + 1) = floorTo p l k + domPrice p l[k] := by
  unfold floorTo; rw [List.take_succ_eq_append_getElem h, List.map_append, List.sum_append]; simp
theorem floorTo_in (p : Pr) (l : List Dm) : ∀ k : Nat, 0 ≤ floorTo p l k ∧ floorTo p l k ≤ 2000 * k := by
  intro k
  induction k with
  | zero => simp [floorTo]
  | succ k ih =>
    by_cases h : k < l.length
    · rw [floorTo_step p l k h]; have := domPrice_in p l[k]; omega
    · have : floorTo p l (k + 1) = floorTo p l k := by unfold floorTo; rw [List.take_of_length_le (by omega), List.take_of_length_le (by omega)]
      rw [this]; omega
def floorPrice (p : Pr) (l : List Dm) : Int := floorTo p l l.length

set_option maxRecDepth 100000 in
theorem floorPriceI_any (p : Pr) (v : Value) (l : List Dm) (w : World) (h : Rd 3 RDom w v l) (hl : l.length ≤ 1048576) : Calls Try.prog 45 #[aPr p, v] w (Ret (.int .i64 (floorPrice p l)) w) := by
  obtain ⟨A, c, rfl, hc, hm⟩ := h.form
  obtain ⟨pa, pb, pc, pd⟩ := p
  have hW := h.below RE.stays ((Below.refl _ _).al (.cells #[.int .i64 pa, .int .i64 pb, .int .i64 pc, .int .i64 pd] 47))
  go_enter Try.func45, Try.ntmps45
  go_wp2
  go_loopw [5, 10] (fun q i wr => ∃ k : Nat, k ≤ l.length ∧ i = .int .i64 k ∧ q = .int .i64 (floorTo (pa, pb, pc, pd) l k) ∧ Below (w.alloc (.cells #[.int .i64 pa, .int .i64 pb, .int .i64 pc, .int .i64 pd] 47)).heap.size (w.alloc (.cells #[.int .i64 pa, .int .i64 pb, .int .i64 pc, .int .i64 pd] 47)) wr) (fun _ i _ => l.length - (intOf i).toNat)
  case atStart => exact ⟨0, Nat.zero_le _, rfl, rfl, Below.refl _ _⟩
  case round =>
    obtain ⟨k, hk, rfl, rfl, hbel⟩ := hrel
    obtain ⟨hc0, hf0, hz0⟩ := bk hbel
    simp at hz0
    have hy0 : w.heap.size < wr.heap.size := by omega
    by_cases hlt : k < l.length
    · obtain ⟨b, off, rfl, hb, q1, q2, q3⟩ := (hW.below RE.stays hbel).atDom hlt
      have hst := floorTo_step (pa, pb, pc, pd) l k hlt
      have F0 := floorTo_in (pa, pb, pc, pd) l k
      have D0 := domPrice_in (pa, pb, pc, pd) l[k]
      have Hst := Lib.hid hst; clear hst
      go_wp2_with fail
      refine (domPriceI_any (pa, pb, pc, pd) l[k] _).mono ?_
      rintro e w2 ⟨rfl, hb2⟩
      go_wp2
      go_roundw
      case rel => exact ⟨k + 1, by omega, by go_num, by rw [Hst.out], (hbel.al _).tr hb2⟩
      case measure => simp [intOf]; omega
    · go_wp2
      go_ret
      obtain rfl : k = l.length := by omega
      exact ⟨rfl, ((Below.refl _ _).al _).tr hbel⟩
set_option maxRecDepth 100000 in
theorem floorPriceS_any (p : Pr) (v : Value) (l : List Dm) (w : World) (h : Rd 3 RDom w v l) (hl : l.length ≤ 1048576) : Calls Try.prog 63 #[aPr p, v] w (Ret (.int .i64 (floorPrice p l)) w) := by
  obtain ⟨A, c, rfl, hc, hm⟩ := h.form
  obtain ⟨pa, pb, pc, pd⟩ := p
  have hW := h.below RE.stays ((Below.refl _ _).al (.cells #[.int .i64 pa, .int .i64 pb, .int .i64 pc, .int .i64 pd] 47))
  go_enter Try.func63, Try.ntmps63
  go_wp2
  go_loopw [5, 6] (fun q i wr => ∃ k : Nat, k ≤ l.length ∧ i = .int .i64 k ∧ q = .int .i64 (floorTo (pa, pb, pc, pd) l k) ∧ Below (w.alloc (.cells #[.int .i64 pa, .int .i64 pb, .int .i64 pc, .int .i64 pd] 47)).heap.size (w.alloc (.cells #[.int .i64 pa, .int .i64 pb, .int .i64 pc, .int .i64 pd] 47)) wr) (fun _ i _ => l.length - (intOf i).toNat)
  case atStart => exact ⟨0, Nat.zero_le _, rfl, rfl, Below.refl _ _⟩
  case round =>
    obtain ⟨k, hk, rfl, rfl, hbel⟩ := hrel
    obtain ⟨hc0, hf0, hz0⟩ := bk hbel
    simp at hz0
    have hy0 : w.heap.size < wr.heap.size := by omega
    by_cases hlt : k < l.length
    · obtain ⟨b, off, rfl, hb, q1, q2, q3⟩ := (hW.below RE.stays hbel).atDom hlt
      have hst := floorTo_step (pa, pb, pc, pd) l k hlt
      have F0 := floorTo_in (pa, pb, pc, pd) l k
      have D0 := domPrice_in (pa, pb, pc, pd) l[k]
      have hltI : (k : Int) < l.length := by omega
      have e3 : IntKind.i64.wrap (floorTo (pa, pb, pc, pd) l k + domPrice (pa, pb, pc, pd) l[k]) = floorTo (pa, pb, pc, pd) l k + domPrice (pa, pb, pc, pd) l[k] := IntWalk.i64_in _ (by omega)
      have Hst := Lib.hid hst; clear hst
      go_wp2_with fail
      go_region_with (go_at_call 112; go_must (refine (domPriceS_any (pa, pb, pc, pd) l[k] _).mono ?_; rintro e w2 ⟨rfl, hb2⟩))
      all_goals go_wp2
      all_goals
        go_roundw
        case rel => exact ⟨k + 1, by omega, by go_num, by rw [Hst.out], by first | exact hbel.drew.tr hb2 | exact (hbel.tr hb2).drew⟩
        case measure => simp [intOf]; omega
    · go_wp2
      go_ret
      obtain rfl : k = l.length := by omega
      exact ⟨rfl, ((Below.refl _ _).al _).tr hbel⟩

end Go.Proofs.Ytmmeomjclfgljaa
namespace Go.Proofs.Ytmmeomjclfgljaa
open Go.ChangeShapes Go.WideShapes Go.ChangeAt Go.RowKit
set_option linter.unusedVariables false

def hasDn (s i : Nat) : Bool := decide (i < 56) && s.testBit (i + 8)
def hasRt (s i : Nat) : Bool := decide (i % 8 < 7) && s.testBit (i + 1)
def domDn (i : Nat) : Dm := (((i % 8 : Nat) : Int), ((i / 8 : Nat) : Int), true)
def domRt (i : Nat) : Dm := (((i % 8 : Nat) : Int), ((i / 8 : Nat) : Int), false)
def dpPut (no : Int) (add : Int → Int → Int) (nx : List Int) (k : Nat) (n : Int) : List Int := nx.set k (if nx.getD k 0 = no then n else add (nx.getD k 0) n)
def dpDn (s : Nat) (no : Int) (add : Int → Int → Int) (wt : Int → Dm → Int) (i : Nat) (nx : List Int) (k : Nat) (n : Int) : List Int := if hasDn s i then dpPut no add nx (k ||| 2 ^ (i % 8)) (wt n (domDn i)) else nx
def dpRt (s : Nat) (no : Int) (add : Int → Int → Int) (wt : Int → Dm → Int) (i : Nat) (nx : List Int) (k : Nat) (n : Int) : List Int := if hasRt s i && !k.testBit (i % 8 + 1) then dpPut no add nx (k ||| 2 ^ (i % 8 + 1)) (wt n (domRt i)) else nx
def dpOne (s : Nat) (no : Int) (add : Int → Int → Int) (wt : Int → Dm → Int) (i : Nat) (nx : List Int) (k : Nat) (n : Int) : List Int :=
  if n = no then nx
  else if s.testBit i then
    if k.testBit (i % 8) then dpPut no add nx (k - 2 ^ (i % 8)) n
    else dpRt s no add wt i (dpDn s no add wt i nx k n) k n
  else if k.testBit (i % 8) then nx else dpPut no add nx k n
def dpRow (s : Nat) (no : Int) (add : Int → Int → Int) (wt : Int → Dm → Int) (now : List Int) (i K : Nat) : List Int := (List.range K).foldl (fun nx k => dpOne s no add wt i nx k (now.getD k 0)) (List.replicate 256 no)
def dp (s : Nat) (no : Int) (add : Int → Int → Int) (wt : Int → Dm → Int) (st : Int) : Nat → List Int
  | 0 => (List.replicate 256 no).set 0 st
  | i + 1 => dpRow s no add wt (dp s no add wt st i) i 256

section
variable {s : Nat} {no : Int} {add : Int → Int → Int} {wt : Int → Dm → Int} {st : Int}
theorem dpPut_len (nx : List Int) (k : Nat) (n : Int) : (dpPut no add nx k n).length = nx.length := by simp [dpPut]
theorem dpDn_len (i : Nat) (nx : List Int) (k : Nat) (n : Int) : (dpDn s no add wt i nx k n).length = nx.length := by unfold dpDn; split <;> simp [dpPut_len]
theorem dpRt_len (i : Nat) (nx : List Int) (k : Nat) (n : Int) : (dpRt s no add wt i nx k n).length = nx.length := by unfold dpRt; split <;> simp [dpPut_len]
theorem dpOne_len (i : Nat) (nx : List Int) (k : Nat) (n : Int) : (dpOne s no add wt i nx k n).length = nx.length := by
  unfold dpOne; split
  · rfl
  · split
    · split
      · exact dpPut_len _ _ _
      · rw [dpRt_len, dpDn_len]
    · split
      · rfl
      · exact dpPut_len _ _ _
theorem dpRow_succ (now : List Int) (i K : Nat) : dpRow s no add wt now i (K + 1) = dpOne s no add wt i (dpRow s no add wt now i K) K (now.getD K 0) := by
  unfold dpRow; rw [List.range_succ, List.foldl_append]; rfl
theorem dpRow_len (now : List Int) (i : Nat) : ∀ K, (dpRow s no add wt now i K).length = 256
  | 0 => by unfold dpRow; rw [List.range_zero, List.foldl_nil, List.length_replicate]
  | K + 1 => by rw [dpRow_succ, dpOne_len]; exact dpRow_len now i K
theorem dp_len : ∀ i, (dp s no add wt st i).length = 256
  | 0 => by unfold dp; rw [List.length_set, List.length_replicate]
  | i + 1 => dpRow_len _ _ _
theorem dp_succ (i : Nat) : dp s no add wt st (i + 1) = dpRow s no add wt (dp s no add wt st i) i 256 := rfl
/-- What holds of all numbers from step to step. -/
theorem dpPut_all {P : Nat → Int → Prop} {nx : List Int} (h : ∀ k v, nx[k]? = some v → P k v) {k : Nat} {n : Int} (hk : k < nx.length) (hp : nx[k]? = some no → P k n) (ha : ∀ v, nx[k]? = some v → v ≠ no → P k (add v n)) : ∀ j v, (dpPut no add nx k n)[j]? = some v → P j v := by
  intro j v hj
  unfold dpPut at hj
  by_cases e : k = j
  · subst e
    rw [List.getElem?_set_self hk] at hj
    injection hj with hj
    have hg : nx.getD k 0 = nx[k] := by rw [List.getD_eq_getElem?_getD, List.getElem?_eq_getElem hk, Option.getD_some]
    rw [hg] at hj
    by_cases e : nx[k] = no
    · rw [if_pos e] at hj; rw [← hj]; exact hp (by rw [List.getElem?_eq_getElem hk, e])
    · rw [if_neg e] at hj; rw [← hj]; exact ha _ (List.getElem?_eq_getElem hk) e
  · rw [List.getElem?_set_ne e] at hj; exact h j v hj
end

theorem sub_bits : ∀ k < 256, ∀ x < 8, k.testBit x = true → k - 2 ^ x < 256 ∧ 2 ^ x ≤ k ∧ ∀ j < 8, (k - 2 ^ x).testBit j = (k.testBit j && !decide (x = j)) := by decide +kernel
theorem or_lt : ∀ k < 256, ∀ x < 8, k ||| 2 ^ x < 256 := by decide +kernel
theorem and_bit : ∀ k < 256, ∀ x < 8, (decide (k &&& 2 ^ x = 0)) = !k.testBit x := by decide +kernel
theorem bit_out : ∀ k < 256, k.testBit 8 = false := by decide +kernel

/-- The cell that a bit of a state stands for. -/
def bitCell (i x : Nat) : Nat := if i % 8 ≤ x then i - i % 8 + x else i - i % 8 + 8 + x
theorem bitCell_self (i : Nat) : bitCell i (i % 8) = i := by unfold bitCell; rw [if_pos (Nat.le_refl _)]; omega
theorem bitCell_right (i : Nat) : bitCell i (i % 8 + 1) = i + 1 := by unfold bitCell; rw [if_pos (by omega)]; omega
theorem bitCell_next (i : Nat) : bitCell (i + 1) (i % 8) = i + 8 := by
  unfold bitCell
  by_cases h : i % 8 = 7
  · rw [if_pos (by omega)]; omega
  · rw [if_neg (by omega)]; omega
theorem bitCell_same {i x : Nat} (hx : x < 8) (h : x ≠ i % 8) : bitCell (i + 1) x = bitCell i x := by
  unfold bitCell
  by_cases h7 : i % 8 = 7
  · rw [if_pos (by omega), if_neg (by omega)]; omega
  · by_cases h2 : i % 8 ≤ x
    · rw [if_pos (by omega), if_pos h2]; omega
    · rw [if_neg (by omega), if_neg h2]; omega
/-- The bits of a state stand over cells of the set alone. -/
def OverSet (s i k : Nat) : Prop := ∀ x, x < 8 → k.testBit x = true → s.testBit (bitCell i x) = true
theorem over_bit {s i k : Nat} (h : OverSet s i k) (hb : k.testBit (i % 8) = true) : s.testBit i = true := by
  have := h (i % 8) (by omega) hb; rwa [bitCell_self] at this
theorem over_same {s i k : Nat} (h : OverSet s i k) (hb : k.testBit (i % 8) = false) : OverSet s (i + 1) k := by
  intro x hx hk
  have hne : x ≠ i % 8 := fun e => by rw [e, hb] at hk; cases hk
  rw [bitCell_same hx hne]; exact h x hx hk
theorem over_sub {s i k : Nat} (hk8 : k < 256) (h : OverSet s i k) (hb : k.testBit (i % 8) = true) : OverSet s (i + 1) (k - 2 ^ (i % 8)) := by
  intro x hx hk
  rw [(sub_bits k hk8 (i % 8) (by omega) hb).2.2 x hx, Bool.and_eq_true] at hk
  have hne : x ≠ i % 8 := fun e => by rw [e] at hk; simp at hk
  rw [bitCell_same hx hne]; exact h x hx hk.1
theorem over_dn {s i k : Nat} (h : OverSet s i k) (hd : hasDn s i = true) : OverSet s (i + 1) (k ||| 2 ^ (i % 8)) := by
  intro x hx hk
  by_cases e : x = i % 8
  · rw [e, bitCell_next]; unfold hasDn at hd; rw [Bool.and_eq_true] at hd; exact hd.2
  · rw [Nat.testBit_or, Nat.testBit_two_pow] at hk
    have : decide (i % 8 = x) = false := by simp; omega
    rw [this, Bool.or_false] at hk
    rw [bitCell_same hx e]; exact h x hx hk
theorem over_rt {s i k : Nat} (h : OverSet s i k) (hb : k.testBit (i % 8) = false) (hd : hasRt s i = true) : OverSet s (i + 1) (k ||| 2 ^ (i % 8 + 1)) := by
  unfold hasRt at hd
  rw [Bool.and_eq_true, decide_eq_true_iff] at hd
  intro x hx hk
  by_cases e : x = i % 8 + 1
  · rw [e, bitCell_same (by omega) (by omega), bitCell_right]; exact hd.2
  · rw [Nat.testBit_or, Nat.testBit_two_pow] at hk
    have : decide (i % 8 + 1 = x) = false := by simp; omega
    rw [this, Bool.or_false] at hk
    have hne : x ≠ i % 8 := fun e2 => by rw [e2, hb] at hk; cases hk
    rw [bitCell_same hx hne]; exact h x hx hk

/-- The numbers of the cheapest price. -/
def wtC (p : Pr) (n : Int) (d : Dm) : Int := n + domPrice p d
def cheapDp (p : Pr) (s : Nat) : Nat → List Int := dp s (-1) min (wtC p) 0
theorem cheapDp_succ (p : Pr) (s i : Nat) : cheapDp p s (i + 1) = dpRow s (-1) min (wtC p) (cheapDp p s i) i 256 := rfl
def GoodAt (s i k : Nat) (v : Int) : Prop := v = -1 ∨ (0 ≤ v ∧ v ≤ 2000 * i ∧ OverSet s i k)
theorem good_put {s i k : Nat} {nx : List Int} {n : Int} (hl : nx.length = 256) (h : ∀ k v, nx[k]? = some v → GoodAt s i k v) (hk : k < 256) (h0 : 0 ≤ n) (h1 : n ≤ 2000 * i) (ho : OverSet s i k) : ∀ j v, (dpPut (-1) min nx k n)[j]? = some v → GoodAt s i j v := by
  refine dpPut_all h (by omega) (fun _ => .inr ⟨h0, h1, ho⟩) (fun v hv hne => ?_)
  rcases h k v hv with e | ⟨a, b, c⟩
  · exact absurd e hne
  · exact .inr ⟨by omega, by omega, c⟩
theorem good_one {p : Pr} {s i k : Nat} {nx : List Int} {n : Int} (hl : nx.length = 256) (h : ∀ k v, nx[k]? = some v → GoodAt s (i + 1) k v) (hk : k < 256) (hn : GoodAt s i k n) : ∀ j v, (dpOne s (-1) min (wtC p) i nx k n)[j]? = some v → GoodAt s (i + 1) j v := by
  unfold dpOne
  by_cases e : n = -1
  · rw [if_pos e]; exact h
  · rw [if_neg e]
    obtain ⟨h0, h1, ho⟩ := hn.resolve_left e
    have d1 := domPrice_in p (domDn i)
    have d2 := domPrice_in p (domRt i)
    rcases hs : s.testBit i with _ | _
    · rw [if_neg (by simp)]
      rcases hb : k.testBit (i % 8) with _ | _
      · rw [if_neg (by simp)]
        exact good_put hl h hk h0 (by omega) (over_same ho hb)
      · rw [if_pos rfl]; exact h
    · rw [if_pos rfl]
      rcases hb : k.testBit (i % 8) with _ | _
      · rw [if_neg (by simp)]
        have hdn : ∀ j v, (dpDn s (-1) min (wtC p) i nx k n)[j]? = some v → GoodAt s (i + 1) j v := by
          unfold dpDn
          rcases hd : hasDn s i with _ | _
          · rw [if_neg (by simp)]; exact h
          · rw [if_pos rfl]
            exact good_put hl h (or_lt k hk _ (by omega)) (by unfold wtC; omega) (by unfold wtC; omega) (over_dn ho hd)
        unfold dpRt
        rcases hr : (hasRt s i && !k.testBit (i % 8 + 1)) with _ | _
        · rw [if_neg (by simp)]; exact hdn
        · rw [if_pos rfl]
          rw [Bool.and_eq_true] at hr
          have hx : i % 8 < 7 := by have := hr.1; unfold hasRt at this; rw [Bool.and_eq_true, decide_eq_true_iff] at this; exact this.1
          exact good_put (by rw [dpDn_len]; exact hl) hdn (or_lt k hk _ (by omega)) (by unfold wtC; omega) (by unfold wtC; omega) (over_rt ho hb hr.1)
      · rw [if_pos rfl]
        exact good_put hl h (sub_bits k hk _ (by omega) hb).1 h0 (by omega) (over_sub hk ho hb)
theorem good_row {p : Pr} {s i : Nat} {now : List Int} (hn : ∀ k v, now[k]? = some v → GoodAt s i k v) (hl : now.length = 256) : ∀ K, K ≤ 256 → ∀ j v, (dpRow s (-1) min (wtC p) now i K)[j]? = some v → GoodAt s (i + 1) j v
  | 0, _ => by
    intro j v hj
    simp only [dpRow, List.range_zero, List.foldl_nil] at hj
    rw [List.getElem?_replicate] at hj
    split at hj
    · injection hj with hj; exact .inl hj.symm
    · cases hj
  | K + 1, hK => by
    rw [dpRow_succ]
    refine good_one (dpRow_len _ _ _) (good_row hn hl K (by omega)) (by omega) ?_
    rw [List.getD_eq_getElem?_getD, List.getElem?_eq_getElem (by omega), Option.getD_some]
    exact hn K _ (List.getElem?_eq_getElem (by omega))
theorem good_dp (p : Pr) (s : Nat) : ∀ i, ∀ k v, (cheapDp p s i)[k]? = some v → GoodAt s i k v
  | 0 => by
    intro k v hk
    unfold cheapDp dp at hk
    by_cases e : 0 = k
    · subst e
      rw [List.getElem?_set_self (by rw [List.length_replicate]; decide)] at hk
      injection hk with hk
      exact .inr ⟨by omega, by omega, fun x _ h => by simp at h⟩
    · rw [List.getElem?_set_ne e, List.getElem?_replicate] at hk
      split at hk
      · injection hk with hk; exact .inl hk.symm
      · cases hk
  | i + 1 => by
    intro k v hk
    rw [cheapDp_succ] at hk
    exact good_row (good_dp p s i) (dp_len i) 256 (Nat.le_refl _) k v hk
def cheapestPrice (p : Pr) (rows : List Int) : Int := if pricesOk p && regionOk rows then (cheapDp p (setOf rows) 64).getD 0 0 else -1
end Go.Proofs.Ytmmeomjclfgljaa
namespace Go.Proofs.Ytmmeomjclfgljaa
open Go.ChangeShapes Go.WideShapes Go.ChangeAt Go.RowKit
set_option linter.unusedVariables false

/-- The tilings of the cells from i on, the first cell first, the right neighbour before the lower one. -/
def tl : Nat → Nat → (Nat → Bool) → List (List Dm)
  | 0, _, _ => [[]]
  | n + 1, i, S => if S i then
      (if decide (i % 8 < 7) && S (i + 1) then (tl n (i + 1) (fun j => S j && !decide (j = i + 1))).map (domRt i :: ·) else []) ++
      (if decide (i < 56) && S (i + 8) then (tl n (i + 1) (fun j => S j && !decide (j = i + 8))).map (domDn i :: ·) else [])
    else tl n (i + 1) S
theorem tl_succ (n i : Nat) (S : Nat → Bool) : tl (n + 1) i S = if S i then
      (if decide (i % 8 < 7) && S (i + 1) then (tl n (i + 1) (fun j => S j && !decide (j = i + 1))).map (domRt i :: ·) else []) ++
      (if decide (i < 56) && S (i + 8) then (tl n (i + 1) (fun j => S j && !decide (j = i + 8))).map (domDn i :: ·) else [])
    else tl n (i + 1) S := rfl
theorem tl_congr : ∀ (n i : Nat) (S T : Nat → Bool), (∀ j, i ≤ j → S j = T j) → tl n i S = tl n i T
  | 0, _, _, _, _ => rfl
  | n + 1, i, S, T, h => by
    rw [tl_succ, tl_succ, h i (Nat.le_refl _), h (i + 1) (by omega), h (i + 8) (by omega),
      tl_congr n (i + 1) (fun j => S j && !decide (j = i + 1)) (fun j => T j && !decide (j = i + 1)) (fun j hj => by simp only [h j (by omega)]),
      tl_congr n (i + 1) (fun j => S j && !decide (j = i + 8)) (fun j => T j && !decide (j = i + 8)) (fun j hj => by simp only [h j (by omega)]),
      tl_congr n (i + 1) S T (fun j hj => h j (by omega))]
/-- The cells that a state covers. -/
def covK (i k j : Nat) : Bool := (List.range 8).any fun x => k.testBit x && decide (bitCell i x = j)
theorem covK_iff {i k j : Nat} : covK i k j = true ↔ ∃ x, x < 8 ∧ k.testBit x = true ∧ bitCell i x = j := by
  unfold covK
  rw [List.any_eq_true]
  constructor
  · rintro ⟨x, hx, h⟩
    rw [Bool.and_eq_true, decide_eq_true_eq] at h
    exact ⟨x, List.mem_range.1 hx, h.1, h.2⟩
  · rintro ⟨x, hx, h1, h2⟩
    exact ⟨x, List.mem_range.2 hx, by rw [h1, decide_eq_true h2]; rfl⟩
theorem bitCell_inj {i x y : Nat} (hx : x < 8) (hy : y < 8) (h : bitCell i x = bitCell i y) : x = y := by
  unfold bitCell at h
  split at h <;> split at h <;> omega
def restOf (s i k j : Nat) : Bool := s.testBit j && !covK i k j
/-- A state's bit, by the cell. -/
theorem covK_at {i k x : Nat} (hx : x < 8) : covK i k (bitCell i x) = k.testBit x := by
  rw [Bool.eq_iff_iff, covK_iff]
  constructor
  · rintro ⟨y, hy, h1, h2⟩; rw [← bitCell_inj hy hx h2]; exact h1
  · intro h; exact ⟨x, hx, h, rfl⟩
theorem covK_below {i k : Nat} : covK i k (i + 8) = false := by
  rcases q : covK i k (i + 8) with _ | _
  · rfl
  · obtain ⟨x, hx, _, h⟩ := covK_iff.1 q
    unfold bitCell at h
    split at h <;> omega
/-- From a cell to the next: the same cells are covered, where the bits agree away from the cell's column. -/
theorem covK_next {i k k' j : Nat} (hj : i + 1 ≤ j) (h : ∀ x, x < 8 → x ≠ i % 8 → k'.testBit x = k.testBit x) : covK (i + 1) k' j = (covK i k j || (k'.testBit (i % 8) && decide (i + 8 = j))) := by
  rw [Bool.eq_iff_iff, Bool.or_eq_true, Bool.and_eq_true, decide_eq_true_eq, covK_iff, covK_iff]
  constructor
  · rintro ⟨x, hx, h1, h2⟩
    by_cases e : x = i % 8
    · subst e; rw [bitCell_next] at h2; exact .inr ⟨h1, h2⟩
    · rw [bitCell_same hx e] at h2; rw [h x hx e] at h1; exact .inl ⟨x, hx, h1, h2⟩
  · rintro (⟨x, hx, h1, h2⟩ | ⟨h1, h2⟩)
    · have e : x ≠ i % 8 := fun e => by subst e; rw [bitCell_self] at h2; omega
      exact ⟨x, hx, by rw [h x hx e]; exact h1, by rw [bitCell_same hx e]; exact h2⟩
    · exact ⟨i % 8, by omega, h1, by rw [bitCell_next]; exact h2⟩
def nOf (s i k : Nat) : Int := ((tl (64 - i) i (restOf s i k)).length : Nat)
/-- What one number gives to the next row, weighed by what is left to tile. -/
def gives (s i k : Nat) : Int :=
  if s.testBit i then
    if k.testBit (i % 8) then nOf s (i + 1) (k - 2 ^ (i % 8))
    else (if hasDn s i then nOf s (i + 1) (k ||| 2 ^ (i % 8)) else 0) + (if hasRt s i && !k.testBit (i % 8 + 1) then nOf s (i + 1) (k ||| 2 ^ (i % 8 + 1)) else 0)
  else if k.testBit (i % 8) then 0 else nOf s (i + 1) k
theorem or_bits (k x j : Nat) : (k ||| 2 ^ x).testBit j = (k.testBit j || decide (x = j)) := by rw [Nat.testBit_or, Nat.testBit_two_pow]
theorem gives_is {s i k : Nat} (hi : i < 64) (hk : k < 256) (ho : OverSet s i k) : gives s i k = nOf s i k := by
  have hself : covK i k i = k.testBit (i % 8) := by
    have := covK_at (i := i) (k := k) (x := i % 8) (by omega); rwa [bitCell_self] at this
  have h64 : 64 - i = (64 - (i + 1)) + 1 := by omega
  unfold gives
  conv => rhs; unfold nOf; rw [h64, tl_succ]
  rcases hs : s.testBit i with _ | _
  · have hS : restOf s i k i = false := by unfold restOf; rw [hs]; rfl
    rw [hS]
    simp only [Bool.false_eq_true, if_false]
    rcases hb : k.testBit (i % 8) with _ | _
    · simp only [Bool.false_eq_true, if_false]
      unfold nOf
      rw [tl_congr _ (i + 1) (restOf s (i + 1) k) (restOf s i k) (fun j hj => by unfold restOf; rw [covK_next hj (fun _ _ _ => rfl), hb]; simp)]
    · have := over_bit ho hb; rw [hs] at this; cases this
  · simp only [if_true]
    rcases hb : k.testBit (i % 8) with _ | _
    · have hS : restOf s i k i = true := by unfold restOf; rw [hs, hself, hb]; rfl
      rw [hS]
      simp only [Bool.false_eq_true, if_false, if_true, List.length_append]
      have hdn : (decide (i < 56) && restOf s i k (i + 8)) = hasDn s i := by unfold restOf hasDn; rw [covK_below]; simp
      rw [hdn]
      have hrt : (decide (i % 8 < 7) && restOf s i k (i + 1)) = (hasRt s i && !k.testBit (i % 8 + 1)) := by
        unfold hasRt restOf
        by_cases h7 : i % 8 < 7
        · have := covK_at (i := i) (k := k) (x := i % 8 + 1) (by omega)
          rw [bitCell_right] at this
          rw [this, Bool.and_assoc]
        · simp [h7]
      rw [hrt]
      have ed : hasDn s i = true → nOf s (i + 1) (k ||| 2 ^ (i % 8)) = ((tl (64 - (i + 1)) (i + 1) (fun j => restOf s i k j && !decide (j = i + 8))).length : Nat) := fun _ => by
        unfold nOf
        rw [tl_congr _ (i + 1) _ (fun j => restOf s i k j && !decide (j = i + 8)) (fun j hj => by
          unfold restOf
          rw [covK_next (k := k) hj (fun x hx hne => by rw [or_bits]; simp; omega), or_bits]
          simp [Bool.and_assoc, eq_comm])]
      have er : (hasRt s i && !k.testBit (i % 8 + 1)) = true → nOf s (i + 1) (k ||| 2 ^ (i % 8 + 1)) = ((tl (64 - (i + 1)) (i + 1) (fun j => restOf s i k j && !decide (j = i + 1))).length : Nat) := fun hr => by
        have h7 : i % 8 < 7 := by
          rw [Bool.and_eq_true] at hr; have := hr.1; unfold hasRt at this; rw [Bool.and_eq_true, decide_eq_true_iff] at this; exact this.1
        unfold nOf
        rw [tl_congr _ (i + 1) _ (fun j => restOf s i k j && !decide (j = i + 1)) (fun j hj => by
          unfold restOf
          have e1 : covK (i + 1) (k ||| 2 ^ (i % 8 + 1)) j = (covK i k j || decide (j = i + 1)) := by
            rw [Bool.eq_iff_iff, Bool.or_eq_true, decide_eq_true_eq, covK_iff, covK_iff]
            constructor
            · rintro ⟨x, hx, h1, h2⟩
              rw [or_bits, Bool.or_eq_true, decide_eq_true_eq] at h1
              by_cases e : x = i % 8
              · subst e
                rcases h1 with h1 | h1
                · rw [hb] at h1; cases h1
                · omega
              · rw [bitCell_same hx e] at h2
                rcases h1 with h1 | h1
                · exact .inl ⟨x, hx, h1, h2⟩
                · subst h1; rw [bitCell_right] at h2; exact .inr h2.symm
            · rintro (⟨x, hx, h1, h2⟩ | h2)
              · have e : x ≠ i % 8 := fun e => by subst e; rw [hb] at h1; cases h1
                exact ⟨x, hx, by rw [or_bits, h1]; rfl, by rw [bitCell_same hx e]; exact h2⟩
              · refine ⟨i % 8 + 1, by omega, by rw [or_bits]; simp, ?_⟩
                rw [bitCell_same (by omega) (by omega), bitCell_right]; exact h2.symm
          rw [e1, Bool.not_or, Bool.and_assoc])]
      rcases hd : hasDn s i with _ | _ <;> rcases hr : (hasRt s i && !k.testBit (i % 8 + 1)) with _ | _
      · simp
      · simp [er hr]
      · simp [ed hd]
      · simp [ed hd, er hr]; omega
    · have hS : restOf s i k i = false := by unfold restOf; rw [hself, hb]; simp
      rw [hS]
      simp only [Bool.false_eq_true, if_false, if_true]
      unfold nOf
      rw [tl_congr _ (i + 1) (restOf s (i + 1) (k - 2 ^ (i % 8))) (restOf s i k) (fun j hj => by
        have hsb := (sub_bits k hk (i % 8) (by omega) hb).2.2
        unfold restOf
        rw [covK_next (k := k) hj (fun x hx hne => by rw [hsb x hx]; simp; omega), hsb _ (by omega)]
        simp)]
/-- The numbers of a row, weighed. -/
def wsum (f : Nat → Int) (l : List Int) : Nat → Int
  | 0 => 0
  | K + 1 => wsum f l K + l.getD K 0 * f K
theorem wsum_succ (f : Nat → Int) (l : List Int) (K : Nat) : wsum f l (K + 1) = wsum f l K + l.getD K 0 * f K := rfl
theorem wsum_set (f : Nat → Int) (l : List Int) {j : Nat} (hj : j < l.length) (v : Int) : ∀ K, wsum f (l.set j v) K = wsum f l K + if j < K then (v - l.getD j 0) * f j else 0
  | 0 => by simp [wsum]
  | K + 1 => by
    rw [wsum_succ, wsum_succ, wsum_set f l hj v K]
    by_cases e : j = K
    · subst e
      have h1 : (l.set j v).getD j 0 = v := by rw [List.getD_eq_getElem?_getD, List.getElem?_set_self hj]; rfl
      rw [h1, if_neg (by omega), if_pos (by omega), Int.sub_mul]; omega
    · have h1 : (l.set j v).getD K 0 = l.getD K 0 := by rw [List.getD_eq_getElem?_getD, List.getElem?_set_ne e, List.getD_eq_getElem?_getD]
      rw [h1]
      by_cases h : j < K
      · rw [if_pos h, if_pos (by omega)]; omega
      · rw [if_neg h, if_neg (by omega)]; omega
theorem wsum_zero (f : Nat → Int) (l : List Int) : ∀ K, (∀ k, k < K → l.getD k 0 = 0 ∨ f k = 0) → wsum f l K = 0
  | 0, _ => rfl
  | K + 1, h => by
    rw [wsum_succ, wsum_zero f l K (fun k hk => h k (by omega))]
    rcases h K (by omega) with e | e <;> rw [e] <;> simp
theorem wsum_congr {f g : Nat → Int} (l : List Int) : ∀ K, (∀ k, k < K → l.getD k 0 = 0 ∨ f k = g k) → wsum f l K = wsum g l K
  | 0, _ => rfl
  | K + 1, h => by
    rw [wsum_succ, wsum_succ, wsum_congr l K (fun k hk => h k (by omega))]
    rcases h K (by omega) with e | e
    · rw [e]; simp
    · rw [e]
def cntPut (nx : List Int) (k : Nat) (n : Int) : List Int := dpPut 0 (fun a b => a + b) nx k n
theorem wsum_put (f : Nat → Int) {nx : List Int} (hl : nx.length = 256) {k : Nat} (hk : k < 256) (n : Int) : wsum f (dpPut 0 (fun a b => a + b) nx k n) 256 = wsum f nx 256 + n * f k := by
  unfold dpPut
  rw [wsum_set f nx (by omega), if_pos hk]
  by_cases h : nx.getD k 0 = 0
  · rw [if_pos h, h]; simp
  · rw [if_neg h]; congr 1; congr 1
    show nx.getD k 0 + n - nx.getD k 0 = n
    omega
def cntDp (s : Nat) : Nat → List Int := dp s 0 (fun a b => a + b) (fun n _ => n) 1
theorem wsum_one {s i k : Nat} {nx : List Int} {n : Int} (hl : nx.length = 256) (hk : k < 256) : wsum (nOf s (i + 1)) (dpOne s 0 (fun a b => a + b) (fun n _ => n) i nx k n) 256 = wsum (nOf s (i + 1)) nx 256 + n * gives s i k := by
  unfold dpOne gives
  by_cases h0 : n = 0
  · rw [if_pos h0, h0]; simp
  · rw [if_neg h0]
    rcases hs : s.testBit i with _ | _
    · simp only [Bool.false_eq_true, if_false]
      rcases hb : k.testBit (i % 8) with _ | _
      · simp only [Bool.false_eq_true, if_false]; exact wsum_put _ hl hk n
      · simp
    · simp only [if_true]
      rcases hb : k.testBit (i % 8) with _ | _
      · simp only [Bool.false_eq_true, if_false]
        have hd : wsum (nOf s (i + 1)) (dpDn s 0 (fun a b => a + b) (fun n _ => n) i nx k n) 256 = wsum (nOf s (i + 1)) nx 256 + n * (if hasDn s i then nOf s (i + 1) (k ||| 2 ^ (i % 8)) else 0) := by
          unfold dpDn
          rcases q : hasDn s i with _ | _
          · simp
          · simp only [if_true]; exact wsum_put _ hl (or_lt k hk _ (by omega)) n
        have hr : wsum (nOf s (i + 1)) (dpRt s 0 (fun a b => a + b) (fun n _ => n) i (dpDn s 0 (fun a b => a + b) (fun n _ => n) i nx k n) k n) 256 = wsum (nOf s (i + 1)) (dpDn s 0 (fun a b => a + b) (fun n _ => n) i nx k n) 256 + n * (if hasRt s i && !k.testBit (i % 8 + 1) then nOf s (i + 1) (k ||| 2 ^ (i % 8 + 1)) else 0) := by
          unfold dpRt
          rcases q : (hasRt s i && !k.testBit (i % 8 + 1)) with _ | _
          · simp
          · have h7 : i % 8 < 7 := by
              rw [Bool.and_eq_true] at q; have := q.1; unfold hasRt at this; rw [Bool.and_eq_true, decide_eq_true_iff] at this; exact this.1
            simp only [if_true]; exact wsum_put _ (by rw [dpDn_len]; exact hl) (or_lt k hk _ (by omega)) n
        rw [hr, hd, Int.mul_add, Int.add_assoc]
      · simp only [if_true]; exact wsum_put _ hl (sub_bits k hk _ (by omega) hb).1 n
theorem wsum_row {s i : Nat} (now : List Int) : ∀ K, K ≤ 256 → wsum (nOf s (i + 1)) (dpRow s 0 (fun a b => a + b) (fun n _ => n) now i K) 256 = wsum (gives s i) now K
  | 0, _ => by
    rw [show wsum (gives s i) now 0 = 0 from rfl]
    refine wsum_zero _ _ _ fun k hk => .inl ?_
    simp only [dpRow, List.range_zero, List.foldl_nil]
    rw [List.getD_eq_getElem?_getD, List.getElem?_replicate, if_pos hk]; rfl
  | K + 1, hK => by
    rw [dpRow_succ, wsum_one (dpRow_len _ _ _) (by omega), wsum_row now K (by omega), wsum_succ]
theorem ov_put {s i k : Nat} {nx : List Int} {n : Int} (hl : nx.length = 256) (h : ∀ k v, nx[k]? = some v → v = 0 ∨ OverSet s i k) (hk : k < 256) (ho : OverSet s i k) : ∀ j v, (dpPut 0 (fun a b => a + b) nx k n)[j]? = some v → v = 0 ∨ OverSet s i j :=
  dpPut_all h (by omega) (fun _ => .inr ho) (fun v hv hne => .inr ho)
theorem ov_one {s i k : Nat} {nx : List Int} {n : Int} (hl : nx.length = 256) (h : ∀ k v, nx[k]? = some v → v = 0 ∨ OverSet s (i + 1) k) (hk : k < 256) (hn : n = 0 ∨ OverSet s i k) : ∀ j v, (dpOne s 0 (fun a b => a + b) (fun n _ => n) i nx k n)[j]? = some v → v = 0 ∨ OverSet s (i + 1) j := by
  unfold dpOne
  by_cases e : n = 0
  · rw [if_pos e]; exact h
  · rw [if_neg e]
    have ho := hn.resolve_left e
    rcases hs : s.testBit i with _ | _
    · rw [if_neg (by simp)]
      rcases hb : k.testBit (i % 8) with _ | _
      · rw [if_neg (by simp)]; exact ov_put hl h hk (over_same ho hb)
      · rw [if_pos rfl]; exact h
    · rw [if_pos rfl]
      rcases hb : k.testBit (i % 8) with _ | _
      · rw [if_neg (by simp)]
        have hdn : ∀ j v, (dpDn s 0 (fun a b => a + b) (fun n _ => n) i nx k n)[j]? = some v → v = 0 ∨ OverSet s (i + 1) j := by
          unfold dpDn
          rcases hd : hasDn s i with _ | _
          · rw [if_neg (by simp)]; exact h
          · rw [if_pos rfl]; exact ov_put hl h (or_lt k hk _ (by omega)) (over_dn ho hd)
        unfold dpRt
        rcases hr : (hasRt s i && !k.testBit (i % 8 + 1)) with _ | _
        · rw [if_neg (by simp)]; exact hdn
        · rw [if_pos rfl]
          rw [Bool.and_eq_true] at hr
          have hx : i % 8 < 7 := by have := hr.1; unfold hasRt at this; rw [Bool.and_eq_true, decide_eq_true_iff] at this; exact this.1
          exact ov_put (by rw [dpDn_len]; exact hl) hdn (or_lt k hk _ (by omega)) (over_rt ho hb hr.1)
      · rw [if_pos rfl]; exact ov_put hl h (sub_bits k hk _ (by omega) hb).1 (over_sub hk ho hb)
theorem ov_row {s i : Nat} {now : List Int} (hn : ∀ k v, now[k]? = some v → v = 0 ∨ OverSet s i k) (hl : now.length = 256) : ∀ K, K ≤ 256 → ∀ j v, (dpRow s 0 (fun a b => a + b) (fun n _ => n) now i K)[j]? = some v → v = 0 ∨ OverSet s (i + 1) j
  | 0, _ => by
    intro j v hj
    simp only [dpRow, List.range_zero, List.foldl_nil] at hj
    rw [List.getElem?_replicate] at hj
    split at hj
    · injection hj with hj; exact .inl hj.symm
    · cases hj
  | K + 1, hK => by
    rw [dpRow_succ]
    refine ov_one (dpRow_len _ _ _) (ov_row hn hl K (by omega)) (by omega) ?_
    rw [List.getD_eq_getElem?_getD, List.getElem?_eq_getElem (by omega), Option.getD_some]
    exact hn K _ (List.getElem?_eq_getElem (by omega))
theorem ov_dp (s : Nat) : ∀ i, ∀ k v, (cntDp s i)[k]? = some v → v = 0 ∨ OverSet s i k
  | 0 => by
    intro k v hk
    unfold cntDp dp at hk
    by_cases e : 0 = k
    · subst e; exact .inr (fun x _ h => by simp at h)
    · rw [List.getElem?_set_ne e, List.getElem?_replicate] at hk
      split at hk
      · injection hk with hk; exact .inl hk.symm
      · cases hk
  | i + 1 => fun k v hk => ov_row (ov_dp s i) (dp_len i) 256 (Nat.le_refl _) k v hk
theorem ov_getD (s i k : Nat) (hk : k < 256) : (cntDp s i).getD k 0 = 0 ∨ OverSet s i k := by
  have hl : k < (cntDp s i).length := by unfold cntDp; rw [dp_len]; exact hk
  rw [List.getD_eq_getElem?_getD, List.getElem?_eq_getElem hl, Option.getD_some]
  exact ov_dp s i k _ (List.getElem?_eq_getElem hl)
/-- Each row stands for all tilings. -/
theorem count_row (s : Nat) : ∀ i, i ≤ 64 → wsum (nOf s i) (cntDp s i) 256 = ((tl 64 0 s.testBit).length : Nat)
  | 0, _ => by
    have h0 : cntDp s 0 = (List.replicate 256 (0 : Int)).set 0 1 := rfl
    rw [h0, wsum_set _ _ (by rw [List.length_replicate]; decide), if_pos (by omega), wsum_zero _ _ _ (fun k hk => .inl (by rw [List.getD_eq_getElem?_getD, List.getElem?_replicate, if_pos hk]; rfl))]
    have h1 : (List.replicate 256 (0 : Int)).getD 0 0 = 0 := by rw [List.getD_eq_getElem?_getD, List.getElem?_replicate, if_pos (by decide)]; rfl
    rw [h1]
    unfold nOf
    rw [tl_congr 64 0 (restOf s 0 0) s.testBit (fun j _ => by
      unfold restOf
      have : covK 0 0 j = false := by
        rcases q : covK 0 0 j with _ | _
        · rfl
        · obtain ⟨x, _, h, _⟩ := covK_iff.1 q; simp at h
      rw [this]; simp)]
    simp
  | i + 1, hi => by
    have h1 : cntDp s (i + 1) = dpRow s 0 (fun a b => a + b) (fun n _ => n) (cntDp s i) i 256 := rfl
    rw [h1, wsum_row _ 256 (Nat.le_refl _), ← count_row s i (by omega)]
    refine wsum_congr _ _ fun k hk => ?_
    rcases ov_getD s i k hk with h | h
    · exact .inl h
    · exact .inr (gives_is (by omega) hk h)
/-- The count is the number of tilings. -/
theorem count_is {s : Nat} (hs : s < U64) : (cntDp s 64).getD 0 0 = ((tl 64 0 s.testBit).length : Nat) := by
  rw [← count_row s 64 (Nat.le_refl _)]
  have h1 : ∀ k, nOf s 64 k = 1 := fun k => rfl
  have h2 : ∀ k, k < 256 → k ≠ 0 → (cntDp s 64).getD k 0 = 0 := fun k hk hne => by
    rcases ov_getD s 64 k hk with h | h
    · exact h
    · exfalso
      have hx : ∃ x, x < 8 ∧ k.testBit x = true := by
        obtain ⟨x, hx⟩ := Nat.exists_testBit_of_ne_zero hne
        refine ⟨x, ?_, hx⟩
        by_cases h8 : x < 8
        · exact h8
        · have : k < 2 ^ x := Nat.lt_of_lt_of_le hk (Nat.pow_le_pow_right (n := 2) (by decide) (show 8 ≤ x by omega))
          rw [Nat.testBit_lt_two_pow this] at hx; cases hx
      obtain ⟨x, hx8, hx⟩ := hx
      have := h x hx8 hx
      rw [Nat.testBit_lt_two_pow] at this
      · cases this
      · unfold U64 at hs
        refine Nat.lt_of_lt_of_le hs ?_
        unfold bitCell
        have : 64 ≤ (if 64 % 8 ≤ x then 64 - 64 % 8 + x else 64 - 64 % 8 + 8 + x) := by split <;> omega
        exact Nat.pow_le_pow_right (n := 2) (by decide) this
  have h3 : ∀ K, K ≤ 255 → wsum (nOf s 64) (cntDp s 64) (K + 1) = (cntDp s 64).getD 0 0 := by
    intro K
    induction K with
    | zero => intro _; rw [wsum_succ, h1]; simp [wsum]
    | succ K ih => intro hK; rw [wsum_succ, ih (by omega), h2 (K + 1) (by omega) (by omega)]; simp
  exact (h3 255 (Nat.le_refl _)).symm
/-- Bounds: all numbers are at most 2 to the 49th. -/
def two (i : Nat) : Int := if i < 56 ∧ i % 8 < 7 then 2 else 1
def capOf : Nat → Int
  | 0 => 1
  | i + 1 => capOf i * two i
theorem two_in (i : Nat) : 1 ≤ two i ∧ two i ≤ 2 := by unfold two; split <;> omega
theorem cap_pos : ∀ i, 1 ≤ capOf i
  | 0 => by unfold capOf; omega
  | i + 1 => by
    have h1 := cap_pos i
    have h2 := (two_in i).1
    show 1 ≤ capOf i * two i
    calc (1 : Int) ≤ capOf i := h1
      _ = capOf i * 1 := by omega
      _ ≤ capOf i * two i := Int.mul_le_mul_of_nonneg_left h2 (by omega)
theorem cap_mono : ∀ i d, capOf i ≤ capOf (i + d)
  | i, 0 => Int.le_refl _
  | i, d + 1 => by
    refine Int.le_trans (cap_mono i d) ?_
    show capOf (i + d) ≤ capOf (i + d) * two (i + d)
    calc capOf (i + d) = capOf (i + d) * 1 := by omega
      _ ≤ capOf (i + d) * two (i + d) := Int.mul_le_mul_of_nonneg_left (two_in _).1 (by have := cap_pos (i + d); omega)
theorem cap_64 : capOf 64 = 562949953421312 := by decide +kernel
theorem nn_put {k : Nat} {nx : List Int} {n : Int} (hl : nx.length = 256) (h : ∀ (k : Nat) (v : Int), nx[k]? = some v → 0 ≤ v) (hk : k < 256) (hn : 0 ≤ n) : ∀ (j : Nat) (v : Int), (dpPut 0 (fun a b => a + b) nx k n)[j]? = some v → 0 ≤ v :=
  dpPut_all (P := fun _ v => 0 ≤ v) h (by omega) (fun _ => hn) (fun v hv _ => by have := h k v hv; show 0 ≤ v + n; omega)
theorem nn_one {s i k : Nat} {nx : List Int} {n : Int} (hl : nx.length = 256) (h : ∀ (k : Nat) (v : Int), nx[k]? = some v → 0 ≤ v) (hk : k < 256) (hn : 0 ≤ n) :
    (∀ (j : Nat) (v : Int), (dpOne s 0 (fun a b => a + b) (fun n _ => n) i nx k n)[j]? = some v → 0 ≤ v) ∧ wsum (fun _ => 1) (dpOne s 0 (fun a b => a + b) (fun n _ => n) i nx k n) 256 ≤ wsum (fun _ => 1) nx 256 + n * two i := by
  have ht := two_in i
  have hn1 : n ≤ n * two i := by
    calc n = n * 1 := by omega
      _ ≤ n * two i := Int.mul_le_mul_of_nonneg_left ht.1 hn
  have hp : ∀ (nx : List Int) (k : Nat), nx.length = 256 → k < 256 → wsum (fun _ => 1) (dpPut 0 (fun a b => a + b) nx k n) 256 = wsum (fun _ => 1) nx 256 + n := fun nx k hl hk => by rw [wsum_put _ hl hk]; omega
  unfold dpOne
  by_cases e : n = 0
  · rw [if_pos e]; exact ⟨h, by rw [e]; omega⟩
  · rw [if_neg e]
    rcases hs : s.testBit i with _ | _
    · rw [if_neg (by simp)]
      rcases hb : k.testBit (i % 8) with _ | _
      · rw [if_neg (by simp)]; exact ⟨nn_put hl h hk hn, by rw [hp nx k hl hk]; omega⟩
      · rw [if_pos rfl]; exact ⟨h, by omega⟩
    · rw [if_pos rfl]
      rcases hb : k.testBit (i % 8) with _ | _
      · rw [if_neg (by simp)]
        have hdn : (∀ (j : Nat) (v : Int), (dpDn s 0 (fun a b => a + b) (fun n _ => n) i nx k n)[j]? = some v → 0 ≤ v) ∧ wsum (fun _ => 1) (dpDn s 0 (fun a b => a + b) (fun n _ => n) i nx k n) 256 = wsum (fun _ => 1) nx 256 + if hasDn s i then n else 0 := by
          unfold dpDn
          rcases hd : hasDn s i with _ | _
          · rw [if_neg (by simp), if_neg (by simp)]; exact ⟨h, by omega⟩
          · rw [if_pos rfl, if_pos rfl]; exact ⟨nn_put hl h (or_lt k hk _ (by omega)) hn, hp nx _ hl (or_lt k hk _ (by omega))⟩
        have hdt : hasDn s i = true → i < 56 := fun q => by unfold hasDn at q; rw [Bool.and_eq_true, decide_eq_true_iff] at q; exact q.1
        unfold dpRt
        rcases hr : (hasRt s i && !k.testBit (i % 8 + 1)) with _ | _
        · rw [if_neg (by simp)]
          refine ⟨hdn.1, ?_⟩
          rw [hdn.2]; split <;> omega
        · rw [if_pos rfl]
          rw [Bool.and_eq_true] at hr
          have hx : i % 8 < 7 := by have := hr.1; unfold hasRt at this; rw [Bool.and_eq_true, decide_eq_true_iff] at this; exact this.1
          refine ⟨nn_put (by rw [dpDn_len]; exact hl) hdn.1 (or_lt k hk _ (by omega)) hn, ?_⟩
          rw [hp _ _ (by rw [dpDn_len]; exact hl) (or_lt k hk _ (by omega)), hdn.2]
          rcases hd : hasDn s i with _ | _
          · rw [if_neg (by simp)]; omega
          · rw [if_pos rfl]
            have h2 : two i = 2 := by unfold two; rw [if_pos ⟨hdt hd, hx⟩]
            rw [h2]; omega
      · rw [if_pos rfl]; exact ⟨nn_put hl h (sub_bits k hk _ (by omega) hb).1 hn, by rw [hp nx _ hl (sub_bits k hk _ (by omega) hb).1]; omega⟩
theorem nn_row {s i : Nat} {now : List Int} (hn : ∀ (k : Nat) (v : Int), now[k]? = some v → 0 ≤ v) (hl : now.length = 256) : ∀ K, K ≤ 256 →
    (∀ (j : Nat) (v : Int), (dpRow s 0 (fun a b => a + b) (fun n _ => n) now i K)[j]? = some v → 0 ≤ v) ∧ wsum (fun _ => 1) (dpRow s 0 (fun a b => a + b) (fun n _ => n) now i K) 256 ≤ wsum (fun _ => 1) now K * two i
  | 0, _ => by
    refine ⟨fun j v hj => ?_, ?_⟩
    · simp only [dpRow, List.range_zero, List.foldl_nil] at hj
      rw [List.getElem?_replicate] at hj
      split at hj
      · injection hj with hj; omega
      · cases hj
    · rw [show wsum (fun _ => 1) now 0 = 0 from rfl, wsum_zero _ _ _ (fun k hk => .inl (by
        simp only [dpRow, List.range_zero, List.foldl_nil]
        rw [List.getD_eq_getElem?_getD, List.getElem?_replicate, if_pos hk]; rfl))]
      omega
  | K + 1, hK => by
    obtain ⟨a, b⟩ := nn_row hn hl K (by omega)
    have hv : 0 ≤ now.getD K 0 := by
      rw [List.getD_eq_getElem?_getD, List.getElem?_eq_getElem (by omega), Option.getD_some]
      exact hn K _ (List.getElem?_eq_getElem (by omega))
    rw [dpRow_succ]
    obtain ⟨c, d⟩ := nn_one (s := s) (i := i) (k := K) (dpRow_len now i K) a (by omega) hv
    refine ⟨c, Int.le_trans d ?_⟩
    have e : wsum (fun _ => 1) now (K + 1) * two i = wsum (fun _ => 1) now K * two i + now.getD K 0 * two i := by rw [wsum_succ, Int.add_mul]; simp
    rw [e]; omega
theorem nn_dp (s : Nat) : ∀ i, (∀ (k : Nat) (v : Int), (cntDp s i)[k]? = some v → 0 ≤ v) ∧ wsum (fun _ => 1) (cntDp s i) 256 ≤ capOf i
  | 0 => by
    have h0 : cntDp s 0 = (List.replicate 256 (0 : Int)).set 0 1 := rfl
    refine ⟨fun k v hk => ?_, ?_⟩
    · rw [h0] at hk
      by_cases e : 0 = k
      · subst e
        rw [List.getElem?_set_self (by rw [List.length_replicate]; decide)] at hk
        injection hk with hk; omega
      · rw [List.getElem?_set_ne e, List.getElem?_replicate] at hk
        split at hk
        · injection hk with hk; omega
        · cases hk
    · rw [h0, wsum_set _ _ (by rw [List.length_replicate]; decide), if_pos (by omega), wsum_zero _ _ _ (fun k hk => .inl (by rw [List.getD_eq_getElem?_getD, List.getElem?_replicate, if_pos hk]; rfl))]
      have h1 : (List.replicate 256 (0 : Int)).getD 0 0 = 0 := by rw [List.getD_eq_getElem?_getD, List.getElem?_replicate, if_pos (by decide)]; rfl
      rw [h1]; unfold capOf; omega
  | i + 1 => by
    obtain ⟨a, b⟩ := nn_dp s i
    obtain ⟨c, d⟩ := nn_row (s := s) (i := i) a (dp_len i) 256 (Nat.le_refl _)
    refine ⟨c, Int.le_trans d ?_⟩
    show _ ≤ capOf i * two i
    exact Int.mul_le_mul_of_nonneg_right b (by have := (two_in i).1; omega)
theorem wsum_ge {l : List Int} (hn : ∀ (k : Nat) (v : Int), l[k]? = some v → 0 ≤ v) : ∀ K k, k < K → l.getD k 0 ≤ wsum (fun _ => 1) l K ∧ 0 ≤ wsum (fun _ => 1) l K
  | 0, k, h => by omega
  | K + 1, k, h => by
    have hg : ∀ j, 0 ≤ l.getD j 0 := fun j => by
      rw [List.getD_eq_getElem?_getD]
      rcases q : l[j]? with _ | v
      · simp
      · exact hn j v q
    have h0 : 0 ≤ wsum (fun _ => 1) l K := by
      cases K with
      | zero => exact Int.le_refl _
      | succ K => exact (wsum_ge hn (K + 1) K (by omega)).2
    rw [wsum_succ]
    have hK := hg K
    by_cases e : k = K
    · subst e; omega
    · have := (wsum_ge hn K k (by omega)).1; omega
/-- Every number of the count lies far below the machine's bound. -/
theorem cnt_in (s i k : Nat) (hi : i ≤ 64) (hk : k < 256) : 0 ≤ (cntDp s i).getD k 0 ∧ (cntDp s i).getD k 0 ≤ 562949953421312 := by
  obtain ⟨a, b⟩ := nn_dp s i
  have h1 := (wsum_ge a 256 k hk).1
  have h2 := cap_mono i (64 - i)
  rw [show i + (64 - i) = 64 by omega, cap_64] at h2
  refine ⟨?_, by omega⟩
  rw [List.getD_eq_getElem?_getD]
  rcases q : (cntDp s i)[k]? with _ | v
  · simp
  · exact a k v q
end Go.Proofs.Ytmmeomjclfgljaa
namespace Go.Proofs.Ytmmeomjclfgljaa
open Go.ChangeShapes Go.WideShapes Go.ChangeAt Go.RowKit
set_option linter.unusedVariables false

theorem ixc2 (x y : Nat) (hx : x < 8) (hy : y < 8) : cellOk ((x : Int), (y : Int)) = true ∧ (cellIx ((x : Int), (y : Int))).toNat = 8 * y + x := by
  have h : cellOk ((x : Int), (y : Int)) = true := cellOk_iff.2 (by simp only; omega)
  refine ⟨h, ?_⟩
  rw [(cellIx_in h).1]; simp only; omega
theorem rt_facts {i : Nat} (hi : i < 64) (h7 : i % 8 < 7) : domOk (domRt i) = true ∧ domI (domRt i) = i ∧ domJ (domRt i) = i + 1 := by
  obtain ⟨a, b⟩ := ixc2 (i % 8) (i / 8) (by omega) (by omega)
  obtain ⟨c, d⟩ := ixc2 (i % 8 + 1) (i / 8) (by omega) (by omega)
  have hs : sec (domRt i) = (((i % 8 + 1 : Nat) : Int), ((i / 8 : Nat) : Int)) := by
    unfold sec domRt; simp only [Bool.false_eq_true, if_false, Prod.mk.injEq, and_true]
    unfold wrap64; omega
  refine ⟨?_, ?_, ?_⟩
  · unfold domOk; rw [hs, c]; unfold domRt; simp only [a, Bool.and_true]
  · unfold domI domRt; simp only; rw [b]; omega
  · unfold domJ; rw [hs, d]; omega
theorem dn_facts {i : Nat} (hi : i < 56) : domOk (domDn i) = true ∧ domI (domDn i) = i ∧ domJ (domDn i) = i + 8 := by
  obtain ⟨a, b⟩ := ixc2 (i % 8) (i / 8) (by omega) (by omega)
  obtain ⟨c, d⟩ := ixc2 (i % 8) (i / 8 + 1) (by omega) (by omega)
  have hs : sec (domDn i) = (((i % 8 : Nat) : Int), ((i / 8 + 1 : Nat) : Int)) := by
    unfold sec domDn; simp only [if_true, Prod.mk.injEq, true_and]
    unfold wrap64; omega
  refine ⟨?_, ?_, ?_⟩
  · unfold domOk; rw [hs, c]; unfold domDn; simp only [a, Bool.and_true]
  · unfold domI domDn; simp only; rw [b]; omega
  · unfold domJ; rw [hs, d]; omega
/-- A valid domino is the right one or the lower one of its first cell. -/
theorem dom_two {d : Dm} (h : domOk d = true) : domI d < 64 ∧ ((d = domRt (domI d) ∧ domI d % 8 < 7) ∨ (d = domDn (domI d) ∧ domI d < 56)) := by
  have D1 := domOk_fst h
  have D2 := domOk_sec h
  obtain ⟨x, y, b⟩ := d
  simp only at D1
  obtain ⟨x, rfl⟩ := Int.eq_ofNat_of_zero_le D1.1.1
  obtain ⟨y, rfl⟩ := Int.eq_ofNat_of_zero_le D1.2.1
  have hx : x < 8 := by omega
  have hy : y < 8 := by omega
  have hI : domI ((x : Int), (y : Int), b) = 8 * y + x := (ixc2 x y hx hy).2
  rw [hI]
  refine ⟨by omega, ?_⟩
  have e1 : (8 * y + x) % 8 = x := by omega
  have e2 : (8 * y + x) / 8 = y := by omega
  cases b
  · left
    unfold domRt; rw [e1, e2]
    refine ⟨rfl, ?_⟩
    have := D2.1; unfold sec at this; simp only [Bool.false_eq_true, if_false] at this; unfold wrap64 at this; omega
  · right
    unfold domDn; rw [e1, e2]
    refine ⟨rfl, ?_⟩
    have := D2.2; unfold sec at this; simp only [if_true] at this; unfold wrap64 at this; omega
theorem domJ_gt {d : Dm} (h : domOk d = true) : domI d < domJ d := by
  obtain ⟨hi, (⟨e, h7⟩ | ⟨e, h7⟩)⟩ := dom_two h
  · have := (rt_facts hi h7).2.2
    rw [← e] at this; omega
  · have := (dn_facts h7).2.2
    rw [← e] at this; omega
theorem ord_ix {d : Dm} (h : domOk d = true) : 2 * (domI d : Int) ≤ domOrd d ∧ domOrd d ≤ 2 * (domI d : Int) + 1 := by
  have h1 := (cellIx_in (domOk_cells h).1).1
  have h2 := (cellIx_in (domOk_cells h).1).2
  have : (domI d : Int) = d.2.1 * 8 + d.1 := by unfold domI; rw [← h1]; omega
  unfold domOrd; rw [this]; split <;> omega
/-- A tiling of the cells of S from i on. -/
structure Til (i : Nat) (S : Nat → Bool) (t : List Dm) : Prop where
  ok : ∀ d ∈ t, domOk d = true ∧ i ≤ domI d ∧ S (domI d) = true ∧ S (domJ d) = true
  ord : t.Pairwise fun a b => domOrd a < domOrd b
  ap : t.Pairwise Apart
  all : ∀ j, i ≤ j → j < 64 → S j = true → ∃ d ∈ t, domI d = j ∨ domJ d = j
theorem apart_iff {a b : Dm} (ha : domOk a = true) (hb : domOk b = true) : Apart a b ↔ domI a ≠ domI b ∧ domI a ≠ domJ b ∧ domJ a ≠ domI b ∧ domJ a ≠ domJ b := by
  unfold Apart
  constructor
  · intro h
    have h1 := h (domI a) (by rw [domSet_bit ha]; simp)
    have h2 := h (domJ a) (by rw [domSet_bit ha]; simp)
    rw [domSet_bit hb, Bool.or_eq_false_iff, decide_eq_false_iff_not, decide_eq_false_iff_not] at h1 h2
    exact ⟨fun e => h1.1 e.symm, fun e => h1.2 e.symm, fun e => h2.1 e.symm, fun e => h2.2 e.symm⟩
  · rintro ⟨h1, h2, h3, h4⟩ j hj
    rw [domSet_bit ha, Bool.or_eq_true, decide_eq_true_eq, decide_eq_true_eq] at hj
    rw [domSet_bit hb, Bool.or_eq_false_iff, decide_eq_false_iff_not, decide_eq_false_iff_not]
    rcases hj with rfl | rfl
    · exact ⟨fun e => h1 e.symm, fun e => h2 e.symm⟩
    · exact ⟨fun e => h3 e.symm, fun e => h4 e.symm⟩
/-- One domino more in front. -/
theorem til_cons {i m : Nat} {S : Nat → Bool} {d : Dm} {t : List Dm} (hd : domOk d = true) (hI : domI d = i) (hJ : domJ d = m) (hS : S i = true) (hm : S m = true) : Til i S (d :: t) ↔ Til (i + 1) (fun j => S j && !decide (j = m)) t := by
  have hlt := domJ_gt hd
  have hdo := ord_ix hd
  constructor
  · intro h
    have ho := List.pairwise_cons.1 h.ord
    have ha := List.pairwise_cons.1 h.ap
    refine ⟨fun e he => ?_, ho.2, ha.2, fun j h1 h2 h3 => ?_⟩
    · obtain ⟨e1, e2, e3, e4⟩ := h.ok e (List.mem_cons_of_mem _ he)
      obtain ⟨a1, a2, a3, a4⟩ := (apart_iff hd e1).1 (ha.1 e he)
      have n3 : decide (domI e = m) = false := by simp; omega
      have n4 : decide (domJ e = m) = false := by simp; omega
      exact ⟨e1, by omega, by simp only [e3, n3]; rfl, by simp only [e4, n4]; rfl⟩
    · rw [Bool.and_eq_true, Bool.not_eq_true', decide_eq_false_iff_not] at h3
      obtain ⟨e, he, h4⟩ := h.all j (by omega) h2 h3.1
      rcases List.mem_cons.1 he with rfl | he
      · omega
      · exact ⟨e, he, h4⟩
  · intro h
    refine ⟨fun e he => ?_, List.pairwise_cons.2 ⟨fun e he => ?_, h.ord⟩, List.pairwise_cons.2 ⟨fun e he => ?_, h.ap⟩, fun j h1 h2 h3 => ?_⟩
    · rcases List.mem_cons.1 he with rfl | he
      · exact ⟨hd, by omega, by rw [hI]; exact hS, by rw [hJ]; exact hm⟩
      · obtain ⟨e1, e2, e3, e4⟩ := h.ok e he
        rw [Bool.and_eq_true] at e3 e4
        exact ⟨e1, by omega, e3.1, e4.1⟩
    · obtain ⟨e1, e2, _, _⟩ := h.ok e he
      have := ord_ix e1
      omega
    · obtain ⟨e1, e2, e3, e4⟩ := h.ok e he
      have hej := domJ_gt e1
      rw [Bool.and_eq_true, Bool.not_eq_true', decide_eq_false_iff_not] at e3 e4
      exact (apart_iff hd e1).2 ⟨by omega, by omega, by have := e3.2; omega, by have := e4.2; omega⟩
    · by_cases e : j = i
      · exact ⟨d, List.mem_cons_self .., .inl (by omega)⟩
      · by_cases e2 : j = m
        · exact ⟨d, List.mem_cons_self .., .inr (by omega)⟩
        · obtain ⟨f, hf, h4⟩ := h.all j (by omega) h2 (by rw [h3]; simp [e2])
          exact ⟨f, List.mem_cons_of_mem _ hf, h4⟩
theorem tl_til : ∀ (n i : Nat) (S : Nat → Bool) (t : List Dm), i + n = 64 → (t ∈ tl n i S ↔ Til i S t)
  | 0, i, S, t, hn => by
    show t ∈ [[]] ↔ _
    rw [List.mem_singleton]
    constructor
    · rintro rfl
      exact ⟨by simp, List.Pairwise.nil, List.Pairwise.nil, fun j h1 h2 => by omega⟩
    · intro h
      cases t with
      | nil => rfl
      | cons d r =>
        obtain ⟨a, b, _, _⟩ := h.ok d (List.mem_cons_self ..)
        have := (dom_two a).1; omega
  | n + 1, i, S, t, hn => by
    rw [tl_succ]
    rcases hS : S i with _ | _
    · simp only [Bool.false_eq_true, if_false]
      rw [tl_til n (i + 1) S t (by omega)]
      constructor
      · intro h
        exact ⟨fun d hd => by obtain ⟨a, b, c, e⟩ := h.ok d hd; exact ⟨a, by omega, c, e⟩, h.ord, h.ap, fun j h1 h2 h3 => h.all j (by
          by_cases e : j = i
          · subst e; rw [hS] at h3; cases h3
          · omega) h2 h3⟩
      · intro h
        exact ⟨fun d hd => by
          obtain ⟨a, b, c, e⟩ := h.ok d hd
          refine ⟨a, ?_, c, e⟩
          by_cases q : domI d = i
          · rw [q, hS] at c; cases c
          · omega, h.ord, h.ap, fun j h1 h2 h3 => h.all j (by omega) h2 h3⟩
    · simp only [if_true]
      rw [List.mem_append]
      constructor
      · rintro (h | h)
        · split at h
          · rename_i q
            rw [Bool.and_eq_true, decide_eq_true_eq] at q
            obtain ⟨t', h1, rfl⟩ := List.mem_map.1 h
            obtain ⟨a, b, c⟩ := rt_facts (i := i) (by omega) q.1
            exact (til_cons a b c hS q.2).2 ((tl_til n (i + 1) _ t' (by omega)).1 h1)
          · cases h
        · split at h
          · rename_i q
            rw [Bool.and_eq_true, decide_eq_true_eq] at q
            obtain ⟨t', h1, rfl⟩ := List.mem_map.1 h
            obtain ⟨a, b, c⟩ := dn_facts q.1
            exact (til_cons a b c hS q.2).2 ((tl_til n (i + 1) _ t' (by omega)).1 h1)
          · cases h
      · intro h
        obtain ⟨d, hd, hdi⟩ := h.all i (Nat.le_refl _) (by omega) hS
        obtain ⟨d1, d2, d3, d4⟩ := h.ok d hd
        have hlt := domJ_gt d1
        have hI : domI d = i := by omega
        cases t with
        | nil => cases hd
        | cons e r =>
          have he : e = d := by
            rcases List.mem_cons.1 hd with q | q
            · exact q.symm
            · exfalso
              have := (List.pairwise_cons.1 h.ord).1 d q
              obtain ⟨e1, e2, _, _⟩ := h.ok e (List.mem_cons_self ..)
              have o1 := ord_ix e1
              have o2 := ord_ix d1
              have hei : domI e = i := by omega
              exact ((apart_iff e1 d1).1 ((List.pairwise_cons.1 h.ap).1 d q)).1 (by omega)
          subst he
          obtain ⟨_, (⟨q, h7⟩ | ⟨q, h7⟩)⟩ := dom_two d1
          · rw [hI] at q h7
            obtain ⟨a, b, c⟩ := rt_facts (i := i) (by omega) h7
            rw [← q] at a b c
            left
            rw [if_pos (by rw [decide_eq_true h7, ← c, d4]; rfl), q]
            exact List.mem_map.2 ⟨r, (tl_til n (i + 1) _ r (by omega)).2 ((til_cons a b c hS (by rw [← c]; exact d4)).1 h), rfl⟩
          · rw [hI] at q h7
            obtain ⟨a, b, c⟩ := dn_facts h7
            rw [← q] at a b c
            right
            rw [if_pos (by rw [decide_eq_true h7, ← c, d4]; rfl), q]
            exact List.mem_map.2 ⟨r, (tl_til n (i + 1) _ r (by omega)).2 ((til_cons a b c hS (by rw [← c]; exact d4)).1 h), rfl⟩
end Go.Proofs.Ytmmeomjclfgljaa
namespace Go.Proofs.Ytmmeomjclfgljaa
open Go.ChangeShapes Go.WideShapes Go.ChangeAt Go.RowKit
set_option linter.unusedVariables false

def cntSet (s : Nat) : Int := (cntDp s 64).getD 0 0
def tils (s : Nat) : List (List Dm) := tl 64 0 s.testBit
def cntRows (rows : List Int) : Int := if regionOk rows then cntSet (setOf rows) else 0
def fitsD (s : Nat) (d : Dm) : Bool := domOk d && decide (s &&& domSet d = domSet d)
def cntWith (rows : List Int) (d : Dm) : Int := if regionOk rows && fitsD (setOf rows) d then cntSet (sDiff (setOf rows) (domSet d)) else 0
theorem cntSet_in (s : Nat) : 0 ≤ cntSet s ∧ cntSet s ≤ 562949953421312 := cnt_in s 64 0 (Nat.le_refl _) (by decide)
theorem cntSet_is {s : Nat} (hs : s < U64) : cntSet s = ((tils s).length : Nat) := count_is hs
theorem cntSet_zero {s : Nat} (hs : s < U64) : cntSet s = 0 ↔ tils s = [] := by
  rw [cntSet_is hs, ← List.length_eq_zero_iff]; omega
theorem cntRows_in (rows : List Int) : 0 ≤ cntRows rows ∧ cntRows rows ≤ 562949953421312 := by
  unfold cntRows; split
  · exact cntSet_in _
  · omega
theorem cntWith_in (rows : List Int) (d : Dm) : 0 ≤ cntWith rows d ∧ cntWith rows d ≤ 562949953421312 := by
  unfold cntWith; split
  · exact cntSet_in _
  · omega
theorem tl_skip : ∀ (d n i : Nat) (S : Nat → Bool), (∀ j, i ≤ j → j < i + d → S j = false) → tl (d + n) i S = tl n (i + d) S
  | 0, n, i, S, _ => by rw [Nat.zero_add]; rfl
  | d + 1, n, i, S, h => by
    rw [show d + 1 + n = d + n + 1 by omega, tl_succ, h i (Nat.le_refl _) (by omega), if_neg (by simp), tl_skip d n (i + 1) S (fun j a b => h j (by omega) (by omega)), show i + 1 + d = i + (d + 1) by omega]
theorem tl_len : ∀ (n i : Nat) (S : Nat → Bool) (t : List Dm), t ∈ tl n i S → t.length ≤ n
  | 0, i, S, t, h => by
    have : t = [] := List.mem_singleton.1 h
    rw [this]; exact Nat.le_refl _
  | n + 1, i, S, t, h => by
    rw [tl_succ] at h
    split at h
    · rcases List.mem_append.1 h with h | h
      · split at h
        · obtain ⟨u, hu, rfl⟩ := List.mem_map.1 h
          have := tl_len n _ _ u hu
          rw [List.length_cons]; omega
        · cases h
      · split at h
        · obtain ⟨u, hu, rfl⟩ := List.mem_map.1 h
          have := tl_len n _ _ u hu
          rw [List.length_cons]; omega
        · cases h
    · have := tl_len n _ _ t h; omega
/-- The first cell of a set. -/
def LowBit (s i : Nat) : Prop := i < 64 ∧ s.testBit i = true ∧ ∀ j, j < i → s.testBit j = false
theorem low_some {s : Nat} (hs : s < U64) (h0 : s ≠ 0) : ∃ i, LowBit s i := by
  have hex : ∃ i, s.testBit i = true := Nat.exists_testBit_of_ne_zero h0
  have key : ∀ n, s.testBit n = true → ∃ i, i ≤ n ∧ s.testBit i = true ∧ ∀ j, j < i → s.testBit j = false := by
    intro n
    induction n using Nat.strongRecOn with
    | _ n ih =>
      intro hn
      by_cases q : ∃ m, m < n ∧ s.testBit m = true
      · obtain ⟨m, hm, hb⟩ := q
        obtain ⟨i, a, b, c⟩ := ih m hm hb
        exact ⟨i, by omega, b, c⟩
      · refine ⟨n, Nat.le_refl _, hn, fun j hj => ?_⟩
        rcases e : s.testBit j with _ | _
        · rfl
        · exact absurd ⟨j, hj, e⟩ q
  obtain ⟨n, hn⟩ := hex
  obtain ⟨i, _, b, c⟩ := key n hn
  refine ⟨i, ?_, b, c⟩
  rcases Nat.lt_or_ge i 64 with q | q
  · exact q
  · exfalso
    have : s < 2 ^ i := Nat.lt_of_lt_of_le hs (by unfold U64; exact Nat.pow_le_pow_right (by decide) q)
    rw [Nat.testBit_lt_two_pow this] at b; cases b
theorem low_one {s i j : Nat} (h : LowBit s i) (h' : LowBit s j) : i = j := by
  rcases Nat.lt_trichotomy i j with q | q | q
  · have := h.2.1; rw [h'.2.2 i q] at this; cases this
  · exact q
  · have := h'.2.1; rw [h.2.2 j q] at this; cases this
theorem rt_ok {i : Nat} (hi : i < 64) : domOk (domRt i) = decide (i % 8 < 7) := by
  by_cases h : i % 8 < 7
  · rw [decide_eq_true h]; exact (rt_facts hi h).1
  · rw [decide_eq_false h]
    rcases e : domOk (domRt i) with _ | _
    · rfl
    · exfalso
      have := (domOk_sec e).1
      unfold sec domRt at this
      simp only [Bool.false_eq_true, if_false] at this
      unfold wrap64 at this; omega
theorem dn_ok {i : Nat} (hi : i < 64) : domOk (domDn i) = decide (i < 56) := by
  by_cases h : i < 56
  · rw [decide_eq_true h]; exact (dn_facts h).1
  · rw [decide_eq_false h]
    rcases e : domOk (domDn i) with _ | _
    · rfl
    · exfalso
      have := (domOk_sec e).2
      unfold sec domDn at this
      simp only [if_true] at this
      unfold wrap64 at this; omega
theorem fits_rt {s i : Nat} (hs : s < U64) (hi : i < 64) (hb : s.testBit i = true) : fitsD s (domRt i) = (decide (i % 8 < 7) && s.testBit (i + 1)) := by
  unfold fitsD
  rw [rt_ok hi]
  by_cases h : i % 8 < 7
  · obtain ⟨a, b, c⟩ := rt_facts hi h
    rw [sub_iff hs a, b, c, hb]; simp
  · rw [decide_eq_false h]; rfl
theorem fits_dn {s i : Nat} (hs : s < U64) (hi : i < 64) (hb : s.testBit i = true) : fitsD s (domDn i) = (decide (i < 56) && s.testBit (i + 8)) := by
  unfold fitsD
  rw [dn_ok hi]
  by_cases h : i < 56
  · obtain ⟨a, b, c⟩ := dn_facts h
    rw [sub_iff hs a, b, c, hb]; simp
  · rw [decide_eq_false h]; rfl
theorem tils_less {s i : Nat} {d : Dm} (hs : s < U64) (hl : LowBit s i) (hd : domOk d = true) (hI : domI d = i) : tils (sDiff s (domSet d)) = tl (64 - (i + 1)) (i + 1) (fun j => s.testBit j && !decide (j = domJ d)) := by
  have hi := hl.1
  unfold tils
  rw [show 64 = (i + 1) + (64 - (i + 1)) by omega, tl_skip (i + 1) (64 - (i + 1)) 0, Nat.zero_add]
  · rw [show i + 1 + (64 - (i + 1)) - (i + 1) = 64 - (i + 1) by omega]
    refine tl_congr _ _ _ _ fun j hj => ?_
    rw [testBit_sDiff (domSet_lt hd) hs, domSet_bit hd, hI, decide_eq_false (show ¬ i = j by omega), Bool.false_or]
    congr 2
    exact decide_eq_decide.2 ⟨fun e => e.symm, fun e => e.symm⟩
  · intro j _ hj
    rw [testBit_sDiff (domSet_lt hd) hs, domSet_bit hd, hI]
    by_cases e : j = i
    · rw [e]; simp
    · rw [hl.2.2 j (by omega)]; rfl
/-- All tilings, by the domino on the first cell. -/
theorem tils_step {s i : Nat} (hs : s < U64) (hl : LowBit s i) : tils s =
    (if fitsD s (domRt i) then (tils (sDiff s (domSet (domRt i)))).map (domRt i :: ·) else []) ++ (if fitsD s (domDn i) then (tils (sDiff s (domSet (domDn i)))).map (domDn i :: ·) else []) := by
  have hi := hl.1
  have e0 : tils s = tl (64 - i) i s.testBit := by
    unfold tils
    rw [show 64 = i + (64 - i) by omega, tl_skip i (64 - i) 0 s.testBit (fun j _ hj => hl.2.2 j (by omega)), Nat.zero_add, show i + (64 - i) - i = 64 - i by omega]
  rw [e0, show 64 - i = (64 - (i + 1)) + 1 by omega, tl_succ, if_pos hl.2.1, fits_rt hs hi hl.2.1, fits_dn hs hi hl.2.1]
  congr 1
  · by_cases h : (decide (i % 8 < 7) && s.testBit (i + 1)) = true
    · rw [if_pos h, if_pos h]
      rw [Bool.and_eq_true, decide_eq_true_iff] at h
      obtain ⟨a, b, c⟩ := rt_facts hi h.1
      rw [tils_less hs hl a b, c]
    · rw [if_neg h, if_neg h]
  · by_cases h : (decide (i < 56) && s.testBit (i + 8)) = true
    · rw [if_pos h, if_pos h]
      rw [Bool.and_eq_true, decide_eq_true_iff] at h
      obtain ⟨a, b, c⟩ := dn_facts h.1
      rw [tils_less hs hl a b, c]
    · rw [if_neg h, if_neg h]
theorem tils_zero : tils 0 = [[]] := by
  unfold tils
  rw [show 64 = 64 + 0 from rfl, tl_skip 64 0 0 _ (fun j _ _ => Nat.zero_testBit j)]; rfl
def firstT (s : Nat) : List Dm := (tils s).headD []
def goesRt (s i : Nat) : Bool := fitsD s (domRt i) && decide (cntSet (sDiff s (domSet (domRt i))) ≠ 0)
def stepD (s i : Nat) : Dm := if goesRt s i then domRt i else domDn i
/-- What the first tiling lays on the first cell. -/
theorem first_step {s i : Nat} (hs : s < U64) (hl : LowBit s i) (hc : cntSet s ≠ 0) : fitsD s (stepD s i) = true ∧ cntSet (sDiff s (domSet (stepD s i))) ≠ 0 ∧ firstT s = stepD s i :: firstT (sDiff s (domSet (stepD s i))) := by
  have hne : tils s ≠ [] := fun e => hc ((cntSet_zero hs).2 e)
  have hst := tils_step hs hl
  have hz := fun (d : Dm) => cntSet_zero (s := sDiff s (domSet d)) (sDiff_lt hs)
  have hh : ∀ (d : Dm) (L : List (List Dm)), L ≠ [] → ((L.map (d :: ·)).headD []) = d :: L.headD [] := by
    intro d L hL
    cases L with
    | nil => exact absurd rfl hL
    | cons a r => rfl
  unfold stepD
  rcases hg : goesRt s i with _ | _
  · rw [if_neg (by simp)]
    have h1 : (if fitsD s (domRt i) then (tils (sDiff s (domSet (domRt i)))).map (domRt i :: ·) else []) = [] := by
      unfold goesRt at hg
      rw [Bool.and_eq_false_iff] at hg
      rcases hg with q | q
      · rw [q]; rfl
      · have : cntSet (sDiff s (domSet (domRt i))) = 0 := by simpa using q
        rw [(hz (domRt i)).1 this]; split <;> rfl
    rw [h1, List.nil_append] at hst
    have h2 : fitsD s (domDn i) = true := by
      rcases q : fitsD s (domDn i) with _ | _
      · rw [q] at hst; exact absurd hst hne
      · rfl
    rw [if_pos h2] at hst
    have h3 : tils (sDiff s (domSet (domDn i))) ≠ [] := by
      intro e; rw [e] at hst; exact hne hst
    refine ⟨h2, fun e => h3 ((hz _).1 e), ?_⟩
    unfold firstT
    rw [hst, hh _ _ h3]
  · rw [if_pos rfl]
    unfold goesRt at hg
    rw [Bool.and_eq_true, decide_eq_true_iff] at hg
    have h3 : tils (sDiff s (domSet (domRt i))) ≠ [] := fun e => hg.2 ((hz _).2 e)
    refine ⟨hg.1, hg.2, ?_⟩
    unfold firstT
    rw [hst, if_pos hg.1]
    generalize (if fitsD s (domDn i) then (tils (sDiff s (domSet (domDn i)))).map (domDn i :: ·) else []) = M
    cases hL : tils (sDiff s (domSet (domRt i))) with
    | nil => exact absurd hL h3
    | cons a r => rfl
theorem firstT_zero : firstT 0 = [] := by unfold firstT; rw [tils_zero]; rfl
theorem firstT_len (s : Nat) : (firstT s).length ≤ 64 := by
  unfold firstT
  cases h : tils s with
  | nil => simp
  | cons a r => exact tl_len 64 0 _ a (by unfold tils at h; rw [h]; exact List.mem_cons_self ..)
theorem sDiff_less {s : Nat} {d : Dm} (hs : s < U64) (h : fitsD s d = true) : sDiff s (domSet d) < s := by
  unfold fitsD at h
  rw [Bool.and_eq_true, decide_eq_true_iff] at h
  have h1 : sDiff s (domSet d) ≤ s := Nat.and_le_left
  refine Nat.lt_of_le_of_ne h1 fun e => ?_
  have hb := (Bool.and_eq_true _ _).mp ((sub_iff hs h.1).symm.trans (decide_eq_true h.2))
  have := testBit_sDiff (i := domI d) (domSet_lt h.1) hs
  rw [e, domSet_bit h.1, hb.1] at this
  simp at this
theorem firstT_mem {s : Nat} (hs : s < U64) (hc : cntSet s ≠ 0) : firstT s ∈ tils s := by
  unfold firstT
  cases h : tils s with
  | nil => exact absurd ((cntSet_zero hs).2 h) hc
  | cons a r => exact List.mem_cons_self ..
/-- The first cell of the list of cells is the first of the set. -/
theorem cells_head {s i : Nat} (hl : LowBit s i) : ∃ r, cellsTo s 64 = ixCell i :: r := by
  have hsp : List.range 64 = List.range i ++ (List.range (64 - i)).map (i + ·) := by
    rw [show 64 = i + (64 - i) by have := hl.1; omega, List.range_add, show i + (64 - i) - i = 64 - i by omega]
  unfold cellsTo
  rw [hsp, List.filter_append, List.map_append]
  have h1 : (List.range i).filter (fun i => s.testBit i) = [] := by
    rw [List.filter_eq_nil_iff]
    intro j hj
    rw [hl.2.2 j (List.mem_range.1 hj)]; simp
  rw [h1, List.map_nil, List.nil_append]
  obtain ⟨m, hm⟩ : ∃ m, 64 - i = m + 1 := ⟨63 - i, by have := hl.1; omega⟩
  rw [hm, List.range_succ_eq_map, List.map_cons, List.filter_cons, Nat.add_zero, if_pos hl.2.1, List.map_cons]
  exact ⟨_, rfl⟩
theorem cells_none : cellsTo 0 64 = [] := by
  unfold cellsTo
  rw [List.filter_eq_nil_iff.2 (fun j _ => by rw [Nat.zero_testBit]; simp)]; rfl
theorem cells_none_iff {s : Nat} (hs : s < U64) : (cellsTo s 64).length = 0 ↔ s = 0 := by
  constructor
  · intro h
    rcases Nat.eq_zero_or_pos s with q | q
    · exact q
    · obtain ⟨i, hl⟩ := low_some hs (by omega)
      obtain ⟨r, hr⟩ := cells_head hl
      rw [hr] at h; cases h
  · intro h; rw [h, cells_none]; rfl
end Go.Proofs.Ytmmeomjclfgljaa
namespace Go.Proofs.Ytmmeomjclfgljaa
open Go.ChangeShapes Go.WideShapes Go.ChangeAt Go.RowKit
set_option linter.unusedVariables false

/-- The two dominoes of a cell. -/
def twoD (i : Nat) : List Dm := [domRt i, domDn i]
/-- What holds of the count of a region with a domino. -/
def whereD (rows : List Int) (p : Int → Bool) (d : Dm) : Bool := domOk d && p (cntWith rows d)
def whereL (rows : List Int) (p : Int → Bool) : List Dm := ((List.range 64).flatMap twoD).filter (whereD rows p)
def forced (rows : List Int) : List Dm := if cntRows rows = 0 then [] else whereL rows fun n => decide (n = cntRows rows)
def possible (rows : List Int) : List Dm := whereL rows fun n => decide (n > 0)
/-- All dominoes on two cells of a set. -/
def allD (s : Nat) : List Dm := (cellsTo s 64).flatMap fun c => ([((c.1, c.2, false) : Dm), (c.1, c.2, true)]).filter (fitsD s)
theorem ix_two (i : Nat) : [(((ixCell i).1, (ixCell i).2, false) : Dm), ((ixCell i).1, (ixCell i).2, true)] = twoD i := by
  unfold ixCell twoD domRt domDn; simp only
  rw [show ((i : Int) % 8) = ((i % 8 : Nat) : Int) by omega, show ((i : Int) / 8) = ((i / 8 : Nat) : Int) by omega]
theorem two_no {s i : Nat} (hs : s < U64) (hi : i < 64) (h : s.testBit i = false) : (twoD i).filter (fitsD s) = [] := by
  rw [List.filter_eq_nil_iff]
  intro d hd hf
  unfold fitsD at hf
  rw [Bool.and_eq_true, decide_eq_true_iff] at hf
  have hb := (Bool.and_eq_true _ _).mp ((sub_iff hs hf.1).symm.trans (decide_eq_true hf.2))
  have : domI d = i := by
    unfold twoD at hd
    rcases List.mem_cons.1 hd with e | e
    · subst e
      by_cases h7 : i % 8 < 7
      · exact (rt_facts hi h7).2.1
      · rw [rt_ok hi, decide_eq_false h7] at hf; cases hf.1
    · obtain rfl := List.mem_singleton.1 e
      by_cases h7 : i < 56
      · exact (dn_facts h7).2.1
      · rw [dn_ok hi, decide_eq_false h7] at hf; cases hf.1
  rw [this, h] at hb; cases hb.1
theorem allD_is {s : Nat} (hs : s < U64) : allD s = ((List.range 64).flatMap twoD).filter (fitsD s) := by
  unfold allD cellsTo
  rw [List.flatMap_map, List.filter_flatMap]
  have key : ∀ l : List Nat, (∀ i ∈ l, i < 64) → (l.filter fun i => s.testBit i).flatMap (fun i => ([(((ixCell i).1, (ixCell i).2, false) : Dm), ((ixCell i).1, (ixCell i).2, true)]).filter (fitsD s)) = l.flatMap fun i => (twoD i).filter (fitsD s) := by
    intro l
    induction l with
    | nil => intro _; rfl
    | cons i r ih =>
      intro h
      rw [List.filter_cons, List.flatMap_cons]
      rcases q : s.testBit i with _ | _
      · rw [if_neg (by simp), two_no hs (h i (List.mem_cons_self ..)) q, List.nil_append]
        exact ih fun j hj => h j (List.mem_cons_of_mem _ hj)
      · rw [if_pos rfl, List.flatMap_cons, ix_two, ih fun j hj => h j (List.mem_cons_of_mem _ hj)]
  exact key _ fun i hi => List.mem_range.1 hi
/-- What the reference takes out of all dominoes of the region is what the program takes out of all dominoes. -/
theorem where_all {rows : List Int} {p : Int → Bool} (h : RowsOk rows) (h0 : p 0 = false) : whereL rows p = (allD (setOf rows)).filter fun d => p (cntWith rows d) := by
  rw [allD_is (setOf_lt h), List.filter_filter]
  unfold whereL
  refine List.filter_congr fun d _ => ?_
  unfold whereD
  rcases q : fitsD (setOf rows) d with _ | _
  · have : cntWith rows d = 0 := by unfold cntWith; rw [q, Bool.and_false]; rfl
    rw [this, h0]; simp
  · have : domOk d = true := by unfold fitsD at q; rw [Bool.and_eq_true] at q; exact q.1
    rw [this]; simp
/-- Dominoes taken out of a set, end by end. -/
def takeOut (s : Nat) (l : List Dm) : Nat := l.foldl (fun S d => sWithout (sWithout S (domI d)) (domJ d)) s
theorem takeOut_cons (s : Nat) (d : Dm) (l : List Dm) : takeOut s (d :: l) = takeOut (sWithout (sWithout s (domI d)) (domJ d)) l := rfl
theorem domIJ_lt {d : Dm} (h : domOk d = true) : domI d < 64 ∧ domJ d < 64 := by
  have := domOk_cells h
  have a := (cellIx_in this.1).2
  have b := (cellIx_in this.2).2
  unfold domI domJ; omega
theorem without_two {s : Nat} {d : Dm} (hs : s < U64) (h : domOk d = true) : sWithout (sWithout s (domI d)) (domJ d) = sDiff s (domSet d) := by
  obtain ⟨h1, h2⟩ := domIJ_lt h
  have a : sWithout s (domI d) < U64 := sDiff_lt hs
  refine Nat.eq_of_testBit_eq fun j => ?_
  rw [testBit_sWithout a h2, testBit_sWithout hs h1, testBit_sDiff (domSet_lt h) hs, domSet_bit h, Bool.not_or, Bool.and_assoc]
theorem takeOut_lt : ∀ (l : List Dm) {s : Nat}, s < U64 → takeOut s l < U64
  | [], _, hs => hs
  | d :: l, s, hs => by rw [takeOut_cons]; exact takeOut_lt l (sDiff_lt (sDiff_lt hs))
theorem takeOut_is : ∀ (l : List Dm) {s : Nat}, s < U64 → (∀ d ∈ l, domOk d = true) → takeOut s l = sDiff s (coverGo 0 l) := by
  intro l s hs hl
  refine Nat.eq_of_testBit_eq fun j => ?_
  rw [testBit_sDiff (coverGo_lt l 0 (by unfold U64; decide)) hs, coverGo_bit, Nat.zero_testBit, Bool.false_or]
  induction l generalizing s with
  | nil => simp [takeOut]
  | cons d r ih =>
    have hd := hl d (List.mem_cons_self ..)
    rw [takeOut_cons, without_two hs hd, ih (sDiff_lt hs) fun e he => hl e (List.mem_cons_of_mem _ he), testBit_sDiff (domSet_lt hd) hs, List.any_cons, hd, Bool.true_and, Bool.not_or, Bool.and_assoc]
def freeRows (rows : List Int) : List Int := if cntRows rows = 0 then rows else rowsOf (sDiff (setOf rows) (coverGo 0 (forced rows))) 8
theorem forced_ok (rows : List Int) : ∀ d ∈ forced rows, domOk d = true := by
  intro d hd
  unfold forced at hd
  split at hd
  · cases hd
  · unfold whereL at hd
    have := (List.mem_filter.1 hd).2
    unfold whereD at this
    rw [Bool.and_eq_true] at this; exact this.1
theorem freeRows_len {rows : List Int} (h : rows.length ≤ 1048576) : (freeRows rows).length ≤ 1048576 := by
  unfold freeRows; split
  · exact h
  · rw [rowsOf_len]; decide
theorem whereL_len (rows : List Int) (p : Int → Bool) : (whereL rows p).length ≤ 128 := by
  unfold whereL
  refine Nat.le_trans (List.length_filter_le _ _) ?_
  decide +kernel
end Go.Proofs.Ytmmeomjclfgljaa
namespace Go.Proofs.Ytmmeomjclfgljaa
open Go.ChangeShapes Go.WideShapes Go.ChangeAt Go.RowKit
set_option linter.unusedVariables false

def tOf (s i k : Nat) : List (List Dm) := tl (64 - i) i (restOf s i k)
theorem tOf_next {s i k : Nat} (hi : i < 64) (hk : k < 256) (ho : OverSet s i k) : tOf s i k = if s.testBit i then
    (if k.testBit (i % 8) then tOf s (i + 1) (k - 2 ^ (i % 8))
     else (if hasRt s i && !k.testBit (i % 8 + 1) then (tOf s (i + 1) (k ||| 2 ^ (i % 8 + 1))).map (domRt i :: ·) else []) ++ (if hasDn s i then (tOf s (i + 1) (k ||| 2 ^ (i % 8))).map (domDn i :: ·) else []))
    else tOf s (i + 1) k := by
  have hself : covK i k i = k.testBit (i % 8) := by
    have := covK_at (i := i) (k := k) (x := i % 8) (by omega); rwa [bitCell_self] at this
  have h64 : 64 - i = (64 - (i + 1)) + 1 := by omega
  conv => lhs; unfold tOf; rw [h64, tl_succ]
  rcases hs : s.testBit i with _ | _
  · have hS : restOf s i k i = false := by unfold restOf; rw [hs]; rfl
    rw [hS]
    simp only [Bool.false_eq_true, if_false]
    have hb : k.testBit (i % 8) = false := by
      rcases hb : k.testBit (i % 8) with _ | _
      · rfl
      · have := over_bit ho hb; rw [hs] at this; cases this
    unfold tOf
    exact tl_congr _ (i + 1) _ _ (fun j hj => by unfold restOf; rw [covK_next hj (fun _ _ _ => rfl), hb]; simp)
  · simp only [if_true]
    rcases hb : k.testBit (i % 8) with _ | _
    · have hS : restOf s i k i = true := by unfold restOf; rw [hs, hself, hb]; rfl
      rw [hS]
      simp only [Bool.false_eq_true, if_false, if_true]
      have hdn : (decide (i < 56) && restOf s i k (i + 8)) = hasDn s i := by unfold restOf hasDn; rw [covK_below]; simp
      rw [hdn]
      have hrt : (decide (i % 8 < 7) && restOf s i k (i + 1)) = (hasRt s i && !k.testBit (i % 8 + 1)) := by
        unfold hasRt restOf
        by_cases h7 : i % 8 < 7
        · have := covK_at (i := i) (k := k) (x := i % 8 + 1) (by omega)
          rw [bitCell_right] at this
          rw [this, Bool.and_assoc]
        · simp [h7]
      rw [hrt]
      have ed : tOf s (i + 1) (k ||| 2 ^ (i % 8)) = tl (64 - (i + 1)) (i + 1) (fun j => restOf s i k j && !decide (j = i + 8)) := by
        unfold tOf
        exact tl_congr _ (i + 1) _ _ (fun j hj => by
          unfold restOf
          rw [covK_next (k := k) hj (fun x hx hne => by rw [or_bits]; simp; omega), or_bits]
          simp [Bool.and_assoc, eq_comm])
      have er : (hasRt s i && !k.testBit (i % 8 + 1)) = true → tOf s (i + 1) (k ||| 2 ^ (i % 8 + 1)) = tl (64 - (i + 1)) (i + 1) (fun j => restOf s i k j && !decide (j = i + 1)) := fun hr => by
        have h7 : i % 8 < 7 := by
          rw [Bool.and_eq_true] at hr; have := hr.1; unfold hasRt at this; rw [Bool.and_eq_true, decide_eq_true_iff] at this; exact this.1
        unfold tOf
        exact tl_congr _ (i + 1) _ _ (fun j hj => by
          unfold restOf
          have e1 : covK (i + 1) (k ||| 2 ^ (i % 8 + 1)) j = (covK i k j || decide (j = i + 1)) := by
            rw [Bool.eq_iff_iff, Bool.or_eq_true, decide_eq_true_eq, covK_iff, covK_iff]
            constructor
            · rintro ⟨x, hx, h1, h2⟩
              rw [or_bits, Bool.or_eq_true, decide_eq_true_eq] at h1
              by_cases e : x = i % 8
              · subst e
                rcases h1 with h1 | h1
                · rw [hb] at h1; cases h1
                · omega
              · rw [bitCell_same hx e] at h2
                rcases h1 with h1 | h1
                · exact .inl ⟨x, hx, h1, h2⟩
                · subst h1; rw [bitCell_right] at h2; exact .inr h2.symm
            · rintro (⟨x, hx, h1, h2⟩ | h2)
              · have e : x ≠ i % 8 := fun e => by subst e; rw [hb] at h1; cases h1
                exact ⟨x, hx, by rw [or_bits, h1]; rfl, by rw [bitCell_same hx e]; exact h2⟩
              · refine ⟨i % 8 + 1, by omega, by rw [or_bits]; simp, ?_⟩
                rw [bitCell_same (by omega) (by omega), bitCell_right]; exact h2.symm
          rw [e1, Bool.not_or, Bool.and_assoc])
      rw [ed]
      rcases hr : (hasRt s i && !k.testBit (i % 8 + 1)) with _ | _
      · rfl
      · rw [er hr]
    · have hS : restOf s i k i = false := by unfold restOf; rw [hself, hb]; simp
      rw [hS]
      simp only [Bool.false_eq_true, if_false, if_true]
      unfold tOf
      exact tl_congr _ (i + 1) _ _ (fun j hj => by
        have hsb := (sub_bits k hk (i % 8) (by omega) hb).2.2
        unfold restOf
        rw [covK_next (k := k) hj (fun x hx hne => by rw [hsb x hx]; simp; omega), hsb _ (by omega)]
        simp)
/-- What a list of dominoes costs. -/
def costOf (p : Pr) (t : List Dm) : Int := (t.map (domPrice p)).sum
theorem costOf_cons (p : Pr) (d : Dm) (t : List Dm) : costOf p (d :: t) = domPrice p d + costOf p t := by simp [costOf]
/-- A price c can be met from this row on. -/
def Meets (p : Pr) (s i : Nat) (c : Int) (k : Nat) (n : Int) : Prop := ∃ t ∈ tOf s i k, n + costOf p t ≤ c
def Meet (p : Pr) (s i : Nat) (c : Int) (nx : List Int) : Prop := ∃ k, k < 256 ∧ nx.getD k 0 ≠ -1 ∧ Meets p s i c k (nx.getD k 0)
theorem meet_put {p : Pr} {s i : Nat} {c : Int} {nx : List Int} {k : Nat} {n : Int} (hl : nx.length = 256) (hk : k < 256) (hn : 0 ≤ n) (h0 : ∀ j, j < 256 → -1 ≤ nx.getD j 0) : Meet p s i c (dpPut (-1) min nx k n) ↔ Meet p s i c nx ∨ Meets p s i c k n := by
  have hat : (dpPut (-1) min nx k n).getD k 0 = if nx.getD k 0 = -1 then n else min (nx.getD k 0) n := by
    unfold dpPut; rw [List.getD_eq_getElem?_getD, List.getElem?_set_self (by omega)]; rfl
  have hne : ∀ j, j ≠ k → (dpPut (-1) min nx k n).getD j 0 = nx.getD j 0 := fun j hj => by
    unfold dpPut; rw [List.getD_eq_getElem?_getD, List.getElem?_set_ne (Ne.symm hj), ← List.getD_eq_getElem?_getD]
  constructor
  · rintro ⟨j, hj, h1, t, ht, h2⟩
    by_cases e : j = k
    · subst e
      rw [hat] at h1 h2
      by_cases q : nx.getD j 0 = -1
      · rw [if_pos q] at h2; exact .inr ⟨t, ht, h2⟩
      · rw [if_neg q] at h2
        by_cases r : nx.getD j 0 ≤ n
        · rw [Int.min_eq_left r] at h2; exact .inl ⟨j, hj, q, t, ht, h2⟩
        · rw [Int.min_eq_right (by omega)] at h2; exact .inr ⟨t, ht, h2⟩
    · rw [hne j e] at h1 h2; exact .inl ⟨j, hj, h1, t, ht, h2⟩
  · have hk0 := h0 k hk
    rintro (⟨j, hj, h1, t, ht, h2⟩ | ⟨t, ht, h2⟩)
    · by_cases e : j = k
      · subst e
        refine ⟨j, hj, ?_, t, ht, ?_⟩
        · rw [hat, if_neg h1]; omega
        · rw [hat, if_neg h1]; omega
      · exact ⟨j, hj, by rw [hne j e]; exact h1, t, ht, by rw [hne j e]; exact h2⟩
    · refine ⟨k, hk, ?_, t, ht, ?_⟩
      · rw [hat]; split <;> omega
      · rw [hat]; split <;> omega
theorem ge_of_good {s i : Nat} {nx : List Int} (hl : nx.length = 256) (h : ∀ k v, nx[k]? = some v → GoodAt s i k v) (j : Nat) (hj : j < 256) : -1 ≤ nx.getD j 0 := by
  rw [List.getD_eq_getElem?_getD, List.getElem?_eq_getElem (by omega), Option.getD_some]
  rcases h j _ (List.getElem?_eq_getElem (by omega)) with e | e <;> omega
theorem meets_one {p : Pr} {s i k : Nat} {c : Int} {nx : List Int} {n : Int} (hi : i < 64) (hl : nx.length = 256) (h : ∀ k v, nx[k]? = some v → GoodAt s (i + 1) k v) (hk : k < 256) (hn : GoodAt s i k n) :
    Meet p s (i + 1) c (dpOne s (-1) min (wtC p) i nx k n) ↔ Meet p s (i + 1) c nx ∨ (n ≠ -1 ∧ Meets p s i c k n) := by
  have hge := ge_of_good hl h
  unfold dpOne
  by_cases e : n = -1
  · rw [if_pos e]; simp [e]
  · rw [if_neg e]
    obtain ⟨h0, h1, ho⟩ := hn.resolve_left e
    have d1 := domPrice_in p (domDn i)
    have d2 := domPrice_in p (domRt i)
    have ht := tOf_next hi hk ho
    have hM : (n ≠ -1 ∧ Meets p s i c k n) ↔ ∃ t ∈ tOf s i k, n + costOf p t ≤ c := ⟨fun q => q.2, fun q => ⟨e, q⟩⟩
    rw [hM, ht]
    rcases hs : s.testBit i with _ | _
    · simp only [Bool.false_eq_true, if_false]
      rcases hb : k.testBit (i % 8) with _ | _
      · simp only [Bool.false_eq_true, if_false]; exact meet_put hl hk h0 hge
      · have := over_bit ho hb; rw [hs] at this; cases this
    · simp only [if_true]
      rcases hb : k.testBit (i % 8) with _ | _
      · simp only [Bool.false_eq_true, if_false]
        have hl2 : (dpDn s (-1) min (wtC p) i nx k n).length = 256 := by rw [dpDn_len]; exact hl
        have hdg : ∀ j, j < 256 → -1 ≤ (dpDn s (-1) min (wtC p) i nx k n).getD j 0 := by
          unfold dpDn
          rcases hd : hasDn s i with _ | _
          · rw [if_neg (by simp)]; exact hge
          · rw [if_pos rfl]
            exact ge_of_good (by rw [dpPut_len]; exact hl) (good_put hl h (or_lt k hk _ (by omega)) (by unfold wtC; omega) (by unfold wtC; omega) (over_dn ho hd))
        have hdm : Meet p s (i + 1) c (dpDn s (-1) min (wtC p) i nx k n) ↔ Meet p s (i + 1) c nx ∨ (hasDn s i = true ∧ Meets p s (i + 1) c (k ||| 2 ^ (i % 8)) (wtC p n (domDn i))) := by
          unfold dpDn
          rcases hd : hasDn s i with _ | _
          · rw [if_neg (by simp)]; simp
          · rw [if_pos rfl, meet_put hl (or_lt k hk _ (by omega)) (by unfold wtC; omega) hge]; simp
        have hrm : Meet p s (i + 1) c (dpRt s (-1) min (wtC p) i (dpDn s (-1) min (wtC p) i nx k n) k n) ↔ Meet p s (i + 1) c (dpDn s (-1) min (wtC p) i nx k n) ∨ ((hasRt s i && !k.testBit (i % 8 + 1)) = true ∧ Meets p s (i + 1) c (k ||| 2 ^ (i % 8 + 1)) (wtC p n (domRt i))) := by
          unfold dpRt
          rcases hr : (hasRt s i && !k.testBit (i % 8 + 1)) with _ | _
          · rw [if_neg (by simp)]; simp
          · have hx : i % 8 < 7 := by rw [Bool.and_eq_true] at hr; have := hr.1; unfold hasRt at this; rw [Bool.and_eq_true, decide_eq_true_iff] at this; exact this.1
            rw [if_pos rfl, meet_put hl2 (or_lt k hk _ (by omega)) (by unfold wtC; omega) hdg]; simp
        rw [hrm, hdm]
        have hmap : ∀ (d : Dm) (k' : Nat), (∃ t ∈ (tOf s (i + 1) k').map (d :: ·), n + costOf p t ≤ c) ↔ Meets p s (i + 1) c k' (wtC p n d) := fun d k' => by
          constructor
          · rintro ⟨t, ht', h2⟩
            obtain ⟨t', k1, rfl⟩ := List.mem_map.1 ht'
            rw [costOf_cons] at h2
            exact ⟨t', k1, by unfold wtC; omega⟩
          · rintro ⟨t', k1, h2⟩
            refine ⟨d :: t', List.mem_map.2 ⟨t', k1, rfl⟩, ?_⟩
            rw [costOf_cons]; unfold wtC at h2; omega
        constructor
        · rintro ((q | ⟨q1, q2⟩) | ⟨q1, q2⟩)
          · exact .inl q
          · obtain ⟨t, ht', h2⟩ := (hmap _ _).2 q2
            exact .inr ⟨t, List.mem_append.2 (.inr (by rw [if_pos q1]; exact ht')), h2⟩
          · obtain ⟨t, ht', h2⟩ := (hmap _ _).2 q2
            exact .inr ⟨t, List.mem_append.2 (.inl (by rw [if_pos q1]; exact ht')), h2⟩
        · rintro (q | ⟨t, ht', h2⟩)
          · exact .inl (.inl q)
          · rcases List.mem_append.1 ht' with ht' | ht'
            · by_cases q1 : (hasRt s i && !k.testBit (i % 8 + 1)) = true
              · rw [if_pos q1] at ht'; exact .inr ⟨q1, (hmap _ _).1 ⟨t, ht', h2⟩⟩
              · rw [if_neg q1] at ht'; cases ht'
            · by_cases q1 : hasDn s i = true
              · rw [if_pos q1] at ht'; exact .inl (.inr ⟨q1, (hmap _ _).1 ⟨t, ht', h2⟩⟩)
              · rw [if_neg q1] at ht'; cases ht'
      · simp only [if_true]
        exact meet_put hl (sub_bits k hk _ (by omega) hb).1 h0 hge
theorem meet_row {p : Pr} {s i : Nat} {c : Int} {now : List Int} (hi : i < 64) (hn : ∀ k v, now[k]? = some v → GoodAt s i k v) (hl : now.length = 256) : ∀ K, K ≤ 256 →
    (Meet p s (i + 1) c (dpRow s (-1) min (wtC p) now i K) ↔ ∃ k, k < K ∧ now.getD k 0 ≠ -1 ∧ Meets p s i c k (now.getD k 0))
  | 0, _ => by
    constructor
    · rintro ⟨k, hk, h1, _⟩
      exfalso; apply h1
      simp only [dpRow, List.range_zero, List.foldl_nil]
      rw [List.getD_eq_getElem?_getD, List.getElem?_replicate, if_pos hk]; rfl
    · rintro ⟨k, hk, _⟩; omega
  | K + 1, hK => by
    rw [dpRow_succ, meets_one hi (dpRow_len _ _ _) (good_row hn hl K (by omega)) (by omega) (by
      rw [List.getD_eq_getElem?_getD, List.getElem?_eq_getElem (by omega), Option.getD_some]
      exact hn K _ (List.getElem?_eq_getElem (by omega))), meet_row hi hn hl K (by omega)]
    constructor
    · rintro (⟨k, hk, h⟩ | h)
      · exact ⟨k, by omega, h⟩
      · exact ⟨K, by omega, h⟩
    · rintro ⟨k, hk, h⟩
      by_cases e : k = K
      · subst e; exact .inr h
      · exact .inl ⟨k, by omega, h⟩
theorem meet_dp (p : Pr) (s : Nat) (c : Int) : ∀ i, i ≤ 64 → (Meet p s i c (cheapDp p s i) ↔ ∃ t ∈ tl 64 0 s.testBit, costOf p t ≤ c)
  | 0, _ => by
    have e0 : tOf s 0 0 = tl 64 0 s.testBit := by
      unfold tOf
      refine tl_congr 64 0 (restOf s 0 0) s.testBit (fun j _ => ?_)
      unfold restOf
      have : covK 0 0 j = false := by
        rcases q : covK 0 0 j with _ | _
        · rfl
        · obtain ⟨x, _, h, _⟩ := covK_iff.1 q; simp at h
      rw [this]; simp
    have h0 : cheapDp p s 0 = (List.replicate 256 (-1 : Int)).set 0 0 := rfl
    have hg : ∀ k, k < 256 → (cheapDp p s 0).getD k 0 = if k = 0 then 0 else -1 := fun k hk => by
      rw [h0, List.getD_eq_getElem?_getD]
      by_cases e : k = 0
      · subst e; rw [List.getElem?_set_self (by rw [List.length_replicate]; decide), if_pos rfl]; rfl
      · rw [List.getElem?_set_ne (Ne.symm e), List.getElem?_replicate, if_pos hk, if_neg e]; rfl
    constructor
    · rintro ⟨k, hk, h1, t, ht, h2⟩
      rw [hg k hk] at h1 h2
      by_cases e : k = 0
      · subst e; rw [if_pos rfl] at h2; exact ⟨t, e0 ▸ ht, by omega⟩
      · rw [if_neg e] at h1; exact absurd rfl h1
    · rintro ⟨t, ht, h2⟩
      refine ⟨0, by omega, by rw [hg 0 (by omega), if_pos rfl]; decide, t, by rw [e0]; exact ht, ?_⟩
      rw [hg 0 (by omega), if_pos rfl]; omega
  | i + 1, hi => by
    rw [cheapDp_succ, meet_row (by omega) (good_dp p s i) (dp_len i) 256 (Nat.le_refl _)]
    exact meet_dp p s c i (by omega)
/-- The program's number is the least price of a tiling, or -1 where there is none. -/
theorem cheap_is (p : Pr) {s : Nat} (hs : s < U64) (c : Int) : ((cheapDp p s 64).getD 0 0 ≠ -1 ∧ (cheapDp p s 64).getD 0 0 ≤ c) ↔ ∃ t ∈ tl 64 0 s.testBit, costOf p t ≤ c := by
  rw [← meet_dp p s c 64 (Nat.le_refl _)]
  have ht : ∀ k, tOf s 64 k = [[]] := fun k => rfl
  constructor
  · rintro ⟨h1, h2⟩
    exact ⟨0, by omega, h1, [], by rw [ht]; simp, by simpa [costOf] using h2⟩
  · rintro ⟨k, hk, h1, t, htm, h2⟩
    rw [ht, List.mem_singleton] at htm
    subst htm
    have h2' : (cheapDp p s 64).getD k 0 ≤ c := by simpa [costOf] using h2
    have hk0 : k = 0 := by
      by_cases hne : k = 0
      · exact hne
      · exfalso
        have hlen : k < (cheapDp p s 64).length := by unfold cheapDp; rw [dp_len]; exact hk
        have hg := good_dp p s 64 k _ (List.getElem?_eq_getElem hlen)
        rw [List.getD_eq_getElem?_getD, List.getElem?_eq_getElem hlen, Option.getD_some] at h1
        obtain ⟨_, _, ho⟩ := hg.resolve_left h1
        obtain ⟨x, hx⟩ := Nat.exists_testBit_of_ne_zero hne
        have hx8 : x < 8 := by
          by_cases h8 : x < 8
          · exact h8
          · have : k < 2 ^ x := Nat.lt_of_lt_of_le hk (Nat.pow_le_pow_right (n := 2) (by decide) (show 8 ≤ x by omega))
            rw [Nat.testBit_lt_two_pow this] at hx; cases hx
        have := ho x hx8 hx
        rw [Nat.testBit_lt_two_pow] at this
        · cases this
        · unfold U64 at hs
          refine Nat.lt_of_lt_of_le hs ?_
          unfold bitCell
          have : 64 ≤ (if 64 % 8 ≤ x then 64 - 64 % 8 + x else 64 - 64 % 8 + 8 + x) := by split <;> omega
          exact Nat.pow_le_pow_right (n := 2) (by decide) this
    subst hk0
    exact ⟨h1, h2'⟩
end Go.Proofs.Ytmmeomjclfgljaa
