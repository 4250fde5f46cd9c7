/- FloorPrice and FnExactFloorPrice. No conditions. -/
import Derived.Test.YtkbndchgmokabaaPriceS
namespace Go.Proofs.Ytkbndchgmokabaa
open Go.ChangeShapes Go.WideShapes Go.ChangeAt Go.RowKit
set_option linter.unusedVariables false

def floorTo (p : Pr) (l : List Dm) (k : Nat) : Int := ((l.take k).map (domPrice p)).sum
theorem floorTo_step (p : Pr) (l : List Dm) (k : Nat) (h : k < l.length) : floorTo p l (k + 1) = floorTo p l k + domPrice p l[k] := by
  unfold floorTo; rw [List.take_succ_eq_append_getElem h, List.map_append, List.sum_append]; simp
theorem floorTo_in (p : Pr) (l : List Dm) : ∀ k : Nat, 0 ≤ floorTo p l k ∧ floorTo p l k ≤ 2000 * k := by
  intro k
  induction k with
  | zero => simp [floorTo]
  | succ k ih =>
    by_cases h : k < l.length
    · rw [floorTo_step p l k h]; have := domPrice_in p l[k]; omega
    · have : floorTo p l (k + 1) = floorTo p l k := by unfold floorTo; rw [List.take_of_length_le (by omega), List.take_of_length_le (by omega)]
      rw [this]; omega
def floorPrice (p : Pr) (l : List Dm) : Int := floorTo p l l.length

set_option maxRecDepth 100000 in
theorem floorPriceI_any (p : Pr) (v : Value) (l : List Dm) (w : World) (h : Rd 3 RDom w v l) (hl : l.length ≤ 1048576) : Calls Try.prog 66 #[aPr p, v] w (Ret (.int .i64 (floorPrice p l)) w) := by
  obtain ⟨A, c, rfl, hc, hm⟩ := h.form
  obtain ⟨pa, pb, pc, pd⟩ := p
  have hW := h.below RE.stays ((Below.refl _ _).al (.cells #[.int .i64 pa, .int .i64 pb, .int .i64 pc, .int .i64 pd] 29))
  go_enter Try.func66, Try.ntmps66
  go_wp2
  go_loopw [5, 10] (fun q i wr => ∃ k : Nat, k ≤ l.length ∧ i = .int .i64 k ∧ q = .int .i64 (floorTo (pa, pb, pc, pd) l k) ∧ Below (w.alloc (.cells #[.int .i64 pa, .int .i64 pb, .int .i64 pc, .int .i64 pd] 29)).heap.size (w.alloc (.cells #[.int .i64 pa, .int .i64 pb, .int .i64 pc, .int .i64 pd] 29)) wr) (fun _ i _ => l.length - (intOf i).toNat)
  case atStart => exact ⟨0, Nat.zero_le _, rfl, rfl, Below.refl _ _⟩
  case round =>
    obtain ⟨k, hk, rfl, rfl, hbel⟩ := hrel
    obtain ⟨hc0, hf0, hz0⟩ := bk hbel
    simp at hz0
    have hy0 : w.heap.size < wr.heap.size := by omega
    by_cases hlt : k < l.length
    · obtain ⟨b, off, rfl, hb, q1, q2, q3⟩ := (hW.below RE.stays hbel).atDom hlt
      have hst := floorTo_step (pa, pb, pc, pd) l k hlt
      have F0 := floorTo_in (pa, pb, pc, pd) l k
      have D0 := domPrice_in (pa, pb, pc, pd) l[k]
      have Hst := Lib.hid hst; clear hst
      go_wp2_with fail
      refine (domPriceI_any (pa, pb, pc, pd) l[k] _).mono ?_
      rintro e w2 ⟨rfl, hb2⟩
      go_wp2
      go_roundw
      case rel => exact ⟨k + 1, by omega, by go_num, by rw [Hst.out], (hbel.al _).tr hb2⟩
      case measure => simp [intOf]; omega
    · go_wp2
      go_ret
      obtain rfl : k = l.length := by omega
      exact ⟨rfl, ((Below.refl _ _).al _).tr hbel⟩
set_option maxRecDepth 100000 in
theorem floorPriceS_any (p : Pr) (v : Value) (l : List Dm) (w : World) (h : Rd 3 RDom w v l) (hl : l.length ≤ 1048576) : Calls Try.prog 120 #[aPr p, v] w (Ret (.int .i64 (floorPrice p l)) w) := by
  obtain ⟨A, c, rfl, hc, hm⟩ := h.form
  obtain ⟨pa, pb, pc, pd⟩ := p
  have hW := h.below RE.stays ((Below.refl _ _).al (.cells #[.int .i64 pa, .int .i64 pb, .int .i64 pc, .int .i64 pd] 29))
  go_enter Try.func120, Try.ntmps120
  go_wp2
  go_loopw [5, 6] (fun q i wr => ∃ k : Nat, k ≤ l.length ∧ i = .int .i64 k ∧ q = .int .i64 (floorTo (pa, pb, pc, pd) l k) ∧ Below (w.alloc (.cells #[.int .i64 pa, .int .i64 pb, .int .i64 pc, .int .i64 pd] 29)).heap.size (w.alloc (.cells #[.int .i64 pa, .int .i64 pb, .int .i64 pc, .int .i64 pd] 29)) wr) (fun _ i _ => l.length - (intOf i).toNat)
  case atStart => exact ⟨0, Nat.zero_le _, rfl, rfl, Below.refl _ _⟩
  case round =>
    obtain ⟨k, hk, rfl, rfl, hbel⟩ := hrel
    obtain ⟨hc0, hf0, hz0⟩ := bk hbel
    simp at hz0
    have hy0 : w.heap.size < wr.heap.size := by omega
    by_cases hlt : k < l.length
    · obtain ⟨b, off, rfl, hb, q1, q2, q3⟩ := (hW.below RE.stays hbel).atDom hlt
      have hst := floorTo_step (pa, pb, pc, pd) l k hlt
      have F0 := floorTo_in (pa, pb, pc, pd) l k
      have D0 := domPrice_in (pa, pb, pc, pd) l[k]
      have hltI : (k : Int) < l.length := by omega
      have e3 : IntKind.i64.wrap (floorTo (pa, pb, pc, pd) l k + domPrice (pa, pb, pc, pd) l[k]) = floorTo (pa, pb, pc, pd) l k + domPrice (pa, pb, pc, pd) l[k] := IntWalk.i64_in _ (by omega)
      have Hst := Lib.hid hst; clear hst
      go_wp2_with fail
      go_region_with (go_at_call 90; go_must (refine (domPriceS_any (pa, pb, pc, pd) l[k] _).mono ?_; rintro e w2 ⟨rfl, hb2⟩))
      all_goals go_wp2
      all_goals
        go_roundw
        case rel => exact ⟨k + 1, by omega, by go_num, by rw [Hst.out], by first | exact hbel.drew.tr hb2 | exact (hbel.tr hb2).drew⟩
        case measure => simp [intOf]; omega
    · go_wp2
      go_ret
      obtain rfl : k = l.length := by omega
      exact ⟨rfl, ((Below.refl _ _).al _).tr hbel⟩

end Go.Proofs.Ytkbndchgmokabaa
