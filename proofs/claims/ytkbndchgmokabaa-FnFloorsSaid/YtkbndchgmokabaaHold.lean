/- BoxesHold: the walks and the law. For all arguments the law returns true. No conditions. -/
import Derived.Test.YtkbndchgmokabaaCheap
namespace Go.Proofs.Ytkbndchgmokabaa
open Go.ChangeShapes Go.WideShapes Go.ChangeAt Go.RowKit
set_option linter.unusedVariables false

def allIn (a b : Int) : List Int → Bool
  | [] => true
  | n :: r => inB n a b && allIn a b r
theorem allIn_go {a b : Int} {l : List Int} {k : Nat} {r : Bool} (H : Hid (allIn a b (l.drop k) = r)) (h : k < l.length) (e : inB l[k] a b = true) : Hid (allIn a b (l.drop (k + 1)) = r) := by
  have := H.out
  rw [List.drop_eq_getElem_cons h, allIn, e, Bool.true_and] at this; exact this
theorem allIn_no {a b : Int} {l : List Int} {k : Nat} {r : Bool} (H : Hid (allIn a b (l.drop k) = r)) (h : k < l.length) (e : inB l[k] a b = false) : r = false := by
  have := H.out
  rw [List.drop_eq_getElem_cons h, allIn, e, Bool.false_and] at this; exact this.symm
theorem allIn_end {a b : Int} {l : List Int} {k : Nat} {r : Bool} (H : Hid (allIn a b (l.drop k) = r)) (h : l.length ≤ k) : r = true := by
  have := H.out
  rw [List.drop_of_length_le h, allIn] at this; exact this.symm
theorem allIn_iff {a b : Int} {l : List Int} : allIn a b l = true ↔ ∀ x ∈ l, a ≤ x ∧ x ≤ b := by
  induction l with
  | nil => simp [allIn]
  | cons x r ih => simp [allIn, ih, inB]

theorem allWithin_any (v : Value) (l : List Int) (a b : Int) (w : World) (h : Rd 1 RInt w v l) :
    Calls Try.prog 140 #[v, .int .i64 a, .int .i64 b] w (Pure (.bool (allIn a b l)) w) := by
  obtain ⟨A, c, rfl, hc, hm⟩ := h.form
  go_enter Try.func140, Try.ntmps140
  go_wp2
  go_loop [11] (fun i => ∃ k : Nat, k ≤ l.length ∧ i = .int .i64 k ∧ Hid (allIn a b (l.drop k) = allIn a b l)) (fun i => l.length - (intOf i).toNat)
  case atStart => exact ⟨0, Nat.zero_le _, rfl, Lib.hid rfl⟩
  case round =>
    obtain ⟨k, hk, rfl, Hg⟩ := hrel
    by_cases hlt : k < l.length
    · obtain ⟨b, off, rfl, hb, h1⟩ := h.atInt hlt
      go_wp2_with (go_at_call 141; (with_reducible refine (within_any _ _ _ _).mono ?_); rintro e w' ⟨rfl, rfl⟩)
      all_goals first
        | (go_round
           case rel => exact ⟨k + 1, by omega, by go_num, allIn_go Hg hlt (by rename_i hx; simpa using hx)⟩
           case measure => simp [intOf]; omega)
        | (go_ret
           exact ⟨retB (allIn_no Hg hlt (by rename_i hx; simpa using hx)).symm, rfl⟩)
    · go_wp2
      go_ret
      exact ⟨retB (allIn_end Hg (by omega)).symm, rfl⟩

def sumT (l : List (Int × Int)) (c : List Int) (k : Nat) : Int := ((List.range k).map fun i => c.getD i 0 * (l.getD i (0, 0)).1).sum
def sumP (l : List (Int × Int)) (c : List Int) (k : Nat) : Int := ((List.range k).map fun i => c.getD i 0 * (l.getD i (0, 0)).2).sum
theorem sumT_step (l : List (Int × Int)) (c : List Int) (k : Nat) (h : k < l.length) (h' : k < c.length) : sumT l c (k + 1) = sumT l c k + c[k] * l[k].1 := by
  simp [sumT, List.range_succ, List.getD_eq_getElem?_getD, List.getElem?_eq_getElem h, List.getElem?_eq_getElem h']
theorem sumP_step (l : List (Int × Int)) (c : List Int) (k : Nat) (h : k < l.length) (h' : k < c.length) : sumP l c (k + 1) = sumP l c k + c[k] * l[k].2 := by
  simp [sumP, List.range_succ, List.getD_eq_getElem?_getD, List.getElem?_eq_getElem h, List.getElem?_eq_getElem h']
theorem mul_in {a b m : Int} (ha : 0 ≤ a) (ha' : a ≤ 500) (hb : 1 ≤ b) (hb' : b ≤ m) : 0 ≤ a * b ∧ a * b ≤ 500 * m := by
  refine ⟨Int.mul_nonneg ha (by omega), ?_⟩
  exact Int.mul_le_mul ha' hb' (by omega) (by omega)
def hold (l : List (Int × Int)) (c : List Int) : Int × Int := if boxesOk l l.length && (c.length == l.length) && allIn 0 500 c then (sumT l c l.length, sumP l c l.length) else (0, 0)
/-- The sums stay small. -/
def Sums (l : List (Int × Int)) (c : List Int) (k : Nat) (t p : Int) : Prop := t = sumT l c k ∧ p = sumP l c k ∧ 0 ≤ t ∧ t ≤ 25000 * k ∧ 0 ≤ p ∧ p ≤ 500000 * k
theorem Sums.step {l : List (Int × Int)} {c : List Int} {k : Nat} {t p : Int} (H : Sums l c k t p) (h : k < l.length) (h' : k < c.length) (hc : 0 ≤ c[k] ∧ c[k] ≤ 500) (hx : BoxFine l[k]) : Sums l c (k + 1) (t + c[k] * l[k].1) (p + c[k] * l[k].2) := by
  obtain ⟨h1, h2, h3, h4, h5, h6⟩ := H
  obtain ⟨x1, x2, x3, x4⟩ := hx
  have m1 := mul_in hc.1 hc.2 x1 x2
  have m2 := mul_in hc.1 hc.2 x3 x4
  refine ⟨by rw [sumT_step l c k h h', h1], by rw [sumP_step l c k h h', h2], ?_, ?_, ?_, ?_⟩ <;> omega

end Go.Proofs.Ytkbndchgmokabaa
