/- FloorPrice and FnExactFloorPrice. No conditions. -/
import Derived.Test.YthmijfcoplillaaPriceS
namespace Go.Proofs.Ythmijfcoplillaa
open Go.ChangeShapes Go.WideShapes Go.ChangeAt Go.RowKit
set_option linter.unusedVariables false

def floorTo (p : Pr) (l : List Dm) (k : Nat) : Int := ((l.take k).map (domPrice p)).sum
theorem floorTo_step (p : Pr) (l : List Dm) (k : Nat) (h : k < l.length) : floorTo p l (k + 1) = floorTo p l k + domPrice p l[k] := by
  unfold floorTo; rw [List.take_succ_eq_append_getElem h, List.map_append, List.sum_append]; simp
theorem floorTo_in (p : Pr) (l : List Dm) : ∀ k : Nat, 0 ≤ floorTo p l k ∧ floorTo p l k ≤ 2000 * k := by
  intro k
  induction k with
  | zero => simp [floorTo]
  | succ k ih =>
    by_cases h : k < l.length
    · rw [floorTo_step p l k h]; have := domPrice_in p l[k]; omega
    · have : floorTo p l (k + 1) = floorTo p l k := by unfold floorTo; rw [List.take_of_length_le (by omega), List.take_of_length_le (by omega)]
      rw [this]; omega
def floorPrice (p : Pr) (l : List Dm) : Int := floorTo p l l.length

set_option maxRecDepth 100000 in
theorem floorPriceI_any (p : Pr) (v : Value) (l : List Dm) (w : World) (h : Rd 3 RDom w v l) (hl : l.length ≤ 1048576) : Calls Try.prog 50 #[aPr p, v] w (Ret (.int .i64 (floorPrice p l)) w) := by
  obtain ⟨A, c, rfl, hc, hm⟩ := h.form
  obtain ⟨pa, pb, pc, pd⟩ := p
  have hW := h.below RE.stays ((Below.refl _ _).al (.cells #[.int .i64 pa, .int .i64 pb, .int .i64 pc, .int .i64 pd] 64))
  go_enter Try.func50, Try.ntmps50
  go_wp2
  go_loopw [5, 10] (fun q i wr => ∃ k : Nat, k ≤ l.length ∧ i = .int .i64 k ∧ q = .int .i64 (floorTo (pa, pb, pc, pd) l k) ∧ Below (w.alloc (.cells #[.int .i64 pa, .int .i64 pb, .int .i64 pc, .int .i64 pd] 64)).heap.size (w.alloc (.cells #[.int .i64 pa, .int .i64 pb, .int .i64 pc, .int .i64 pd] 64)) wr) (fun _ i _ => l.length - (intOf i).toNat)
  case atStart => exact ⟨0, Nat.zero_le _, rfl, rfl, Below.refl _ _⟩
  case round =>
    obtain ⟨k, hk, rfl, rfl, hbel⟩ := hrel
    obtain ⟨hc0, hf0, hz0⟩ := bk hbel
    simp at hz0
    have hy0 : w.heap.size < wr.heap.size := by omega
    by_cases hlt : k < l.length
    · obtain ⟨b, off, rfl, hb, q1, q2, q3⟩ := (hW.below RE.stays hbel).atDom hlt
      have hst := floorTo_step (pa, pb, pc, pd) l k hlt
      have F0 := floorTo_in (pa, pb, pc, pd) l k
      have D0 := domPrice_in (pa, pb, pc, pd) l[k]
      have Hst := Lib.hid hst; clear hst
      go_wp2_with fail
      refine (domPriceI_any (pa, pb, pc, pd) l[k] _).mono ?_
      rintro e w2 ⟨rfl, hb2⟩
      go_wp2
      go_roundw
      case rel => exact ⟨k + 1, by omega, by go_num, by rw [Hst.out], (hbel.al _).tr hb2⟩
      case measure => simp [intOf]; omega
    · go_wp2
      go_ret
      obtain rfl : k = l.length := by omega
      exact ⟨rfl, ((Below.refl _ _).al _).tr hbel⟩
set_option maxRecDepth 100000 in
theorem floorPriceS_any (p : Pr) (v : Value) (l : List Dm) (w : World) (h : Rd 3 RDom w v l) (hl : l.length ≤ 1048576) : Calls Try.prog 47 #[aPr p, v] w (Ret (.int .i64 (floorPrice p l)) w) := by
  obtain ⟨A, c, rfl, hc, hm⟩ := h.form
  obtain ⟨pa, pb, pc, pd⟩ := p
  have hW := h.below RE.stays ((Below.refl _ _).al (.cells #[.int .i64 pa, .int .i64 pb, .int .i64 pc, .int .i64 pd] 64))
  go_enter Try.func47, Try.ntmps47
  go_wp2
  go_loopw [5, 6] (fun q i wr => ∃ k : Nat, k ≤ l.length ∧ i = .int .i64 k ∧ q = .int .i64 (floorTo (pa, pb, pc, pd) l k) ∧ Below (w.alloc (.cells #[.int .i64 pa, .int .i64 pb, .int .i64 pc, .int .i64 pd] 64)).heap.size (w.alloc (.cells #[.int .i64 pa, .int .i64 pb, .int .i64 pc, .int .i64 pd] 64)) wr) (fun _ i _ => l.length - (intOf i).toNat)
  case atStart => exact ⟨0, Nat.zero_le _, rfl, rfl, Below.refl _ _⟩
  case round =>
    obtain ⟨k, hk, rfl, rfl, hbel⟩ := hrel
    obtain ⟨hc0, hf0, hz0⟩ := bk hbel
    simp at hz0
    have hy0 : w.heap.size < wr.heap.size := by omega
    by_cases hlt : k < l.length
    · obtain ⟨b, off, rfl, hb, q1, q2, q3⟩ := (hW.below RE.stays hbel).atDom hlt
      have hst := floorTo_step (pa, pb, pc, pd) l k hlt
      have F0 := floorTo_in (pa, pb, pc, pd) l k
      have D0 := domPrice_in (pa, pb, pc, pd) l[k]
      have hltI : (k : Int) < l.length := by omega
      have e3 : IntKind.i64.wrap (floorTo (pa, pb, pc, pd) l k + domPrice (pa, pb, pc, pd) l[k]) = floorTo (pa, pb, pc, pd) l k + domPrice (pa, pb, pc, pd) l[k] := IntWalk.i64_in _ (by omega)
      have Hst := Lib.hid hst; clear hst
      go_wp2_with fail
      go_region_with (go_at_call 80; go_must (refine (domPriceS_any (pa, pb, pc, pd) l[k] _).mono ?_; rintro e w2 ⟨rfl, hb2⟩))
      all_goals go_wp2
      all_goals
        go_roundw
        case rel => exact ⟨k + 1, by omega, by go_num, by rw [Hst.out], by first | exact hbel.drew.tr hb2 | exact (hbel.tr hb2).drew⟩
        case measure => simp [intOf]; omega
    · go_wp2
      go_ret
      obtain rfl : k = l.length := by omega
      exact ⟨rfl, ((Below.refl _ _).al _).tr hbel⟩

set_option maxRecDepth 100000 in
theorem FnExactFloorPrice_walk (w : World) (cs : List Value) (p : Pr) (hp : RQuad w cs p) (okp : I64 p.1 ∧ I64 p.2.1 ∧ I64 p.2.2.1 ∧ I64 p.2.2.2) (v : Value) (l : List Dm) (h : Rd 3 RDom w v l) (okl : AllOk (fun x => I64 x.1 ∧ I64 x.2.1 ∧ Always x.2.2) l) :
    Calls Try.prog 12 #[.agg cs.toArray, v] w (Ret (.bool true) w) := by
  change cs = _ at hp
  subst hp
  obtain ⟨pa, pb, pc, pd⟩ := p
  have hA := (Below.refl w.heap.size w).al (.cells #[.int .i64 pa, .int .i64 pb, .int .i64 pc, .int .i64 pd] 60)
  by_cases hsz : l.length ≤ 1048576
  · go_enter Try.func12, Try.ntmps12
    go_wp2_with fail
    refine (szDoms_any _ l _ _ (h.below RE.stays hA) (by decide) (by decide)).mono ?_
    rintro e w0 ⟨rfl, rfl⟩
    rw [szOf_ok (by omega)]
    go_wp2_with fail
    refine (toPrices_any (pa, pb, pc, pd) _).mono ?_
    rintro e w1 ⟨rfl, hb1⟩
    obtain ⟨hc1, hf1, hz1⟩ := bk hb1
    (try simp at hz1)
    have hy1_0 : w.heap.size < w1.heap.size := by omega
    have B1 := hA.tr hb1
    go_wp2_with fail
    refine (toDoms_any _ l _ (h.below RE.stays B1) hsz).mono ?_
    rintro e w2 ⟨A2, c2, rfl, own2, hb2⟩
    obtain ⟨hc2, hf2, hz2⟩ := bk hb2
    (try simp at hz2)
    have hy2_0 : w.heap.size < w2.heap.size := by omega
    have B2 := B1.tr hb2
    go_wp2_with fail
    refine (floorPriceS_any (pa, pb, pc, pd) _ l _ (own2.rd lenDom (by decide)) hsz).mono ?_
    rintro e w3 ⟨rfl, hb3⟩
    obtain ⟨hc3, hf3, hz3⟩ := bk hb3
    (try simp at hz3)
    have hy3_0 : w.heap.size < w3.heap.size := by omega
    have B3 := B2.tr hb3
    go_wp2_with fail
    refine (toDoms_any _ l _ (h.below RE.stays B3) hsz).mono ?_
    rintro e w4 ⟨A4, c4, rfl, own4, hb4⟩
    obtain ⟨hc4, hf4, hz4⟩ := bk hb4
    (try simp at hz4)
    have hy4_0 : w.heap.size < w4.heap.size := by omega
    have B4 := B3.tr hb4
    go_wp2_with fail
    refine (toPrices_any (pa, pb, pc, pd) _).mono ?_
    rintro e w5 ⟨rfl, hb5⟩
    have B5 := B4.tr hb5
    go_wp2_with fail
    refine (floorPriceI_any (pa, pb, pc, pd) _ l _ ((own4.below hb5).rd lenDom (by decide)) hsz).mono ?_
    rintro e w6 ⟨rfl, hb6⟩
    have B6 := B5.tr hb6
    go_wp2_with fail
    refine (toDoms_any _ l _ (h.below RE.stays B6) hsz).mono ?_
    rintro e w7 ⟨A7, c7, rfl, own7, hb7⟩
    have B7 := B6.tr hb7
    go_wp2_with fail
    refine (eqDoms_any _ _ l l _ ((((own4.below hb5).below hb6).below hb7).rd lenDom (by decide)) (own7.rd lenDom (by decide))).mono ?_
    rintro e w8 ⟨rfl, hb8⟩
    have B8 := B7.tr hb8
    rw [beq_self_eq_true]
    go_wp2
    go_ret
    exact ⟨rfl, B8⟩
  · go_enter Try.func12, Try.ntmps12
    go_wp2_with fail
    refine (szDoms_any _ l _ _ (h.below RE.stays hA) (by decide) (by decide)).mono ?_
    rintro e w0 ⟨rfl, rfl⟩
    rw [szOf_no (by omega)]
    go_wp2
    go_ret
    exact ⟨rfl, hA⟩
end Go.Proofs.Ythmijfcoplillaa
