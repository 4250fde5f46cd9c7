/- BoxesHold: the walks and the law. For all arguments the law returns true. No conditions. -/
import Derived.Test.YtkljkkonhkakgaaCheap
namespace Go.Proofs.Ytkljkkonhkakgaa
open Go.ChangeShapes Go.WideShapes Go.ChangeAt Go.RowKit
set_option linter.unusedVariables false

def allIn (a b : Int) : List Int → Bool
  | [] => true
  | n :: r => inB n a b && allIn a b r
theorem allIn_go {a b : Int} {l : List Int} {k : Nat} {r : Bool} (H : Hid (allIn a b (l.drop k) = r)) (h : k < l.length) (e : inB l[k] a b = true) : Hid (allIn a b (l.drop (k + 1)) = r) := by
  have := H.out
  rw [List.drop_eq_getElem_cons h, allIn, e, Bool.true_and] at this; exact this
theorem allIn_no {a b : Int} {l : List Int} {k : Nat} {r : Bool} (H : Hid (allIn a b (l.drop k) = r)) (h : k < l.length) (e : inB l[k] a b = false) : r = false := by
  have := H.out
  rw [List.drop_eq_getElem_cons h, allIn, e, Bool.false_and] at this; exact this.symm
theorem allIn_end {a b : Int} {l : List Int} {k : Nat} {r : Bool} (H : Hid (allIn a b (l.drop k) = r)) (h : l.length ≤ k) : r = true := by
  have := H.out
  rw [List.drop_of_length_le h, allIn] at this; exact this.symm
theorem allIn_iff {a b : Int} {l : List Int} : allIn a b l = true ↔ ∀ x ∈ l, a ≤ x ∧ x ≤ b := by
  induction l with
  | nil => simp [allIn]
  | cons x r ih => simp [allIn, ih, inB]

theorem allWithin_any (v : Value) (l : List Int) (a b : Int) (w : World) (h : Rd 1 RInt w v l) :
    Calls Try.prog 96 #[v, .int .i64 a, .int .i64 b] w (Pure (.bool (allIn a b l)) w) := by
  obtain ⟨A, c, rfl, hc, hm⟩ := h.form
  go_enter Try.func96, Try.ntmps96
  go_wp2
  go_loop [11] (fun i => ∃ k : Nat, k ≤ l.length ∧ i = .int .i64 k ∧ Hid (allIn a b (l.drop k) = allIn a b l)) (fun i => l.length - (intOf i).toNat)
  case atStart => exact ⟨0, Nat.zero_le _, rfl, Lib.hid rfl⟩
  case round =>
    obtain ⟨k, hk, rfl, Hg⟩ := hrel
    by_cases hlt : k < l.length
    · obtain ⟨b, off, rfl, hb, h1⟩ := h.atInt hlt
      go_wp2_with (go_at_call 97; (with_reducible refine (within_any _ _ _ _).mono ?_); rintro e w' ⟨rfl, rfl⟩)
      all_goals first
        | (go_round
           case rel => exact ⟨k + 1, by omega, by go_num, allIn_go Hg hlt (by rename_i hx; simpa using hx)⟩
           case measure => simp [intOf]; omega)
        | (go_ret
           exact ⟨retB (allIn_no Hg hlt (by rename_i hx; simpa using hx)).symm, rfl⟩)
    · go_wp2
      go_ret
      exact ⟨retB (allIn_end Hg (by omega)).symm, rfl⟩

def sumT (l : List (Int × Int)) (c : List Int) (k : Nat) : Int := ((List.range k).map fun i => c.getD i 0 * (l.getD i (0, 0)).1).sum
def sumP (l : List (Int × Int)) (c : List Int) (k : Nat) : Int := ((List.range k).map fun i => c.getD i 0 * (l.getD i (0, 0)).2).sum
theorem sumT_step (l : List (Int × Int)) (c : List Int) (k : Nat) (h : k < l.length) (h' : k < c.length) : sumT l c (k + 1) = sumT l c k + c[k] * l[k].1 := by
  simp [sumT, List.range_succ, List.getD_eq_getElem?_getD, List.getElem?_eq_getElem h, List.getElem?_eq_getElem h']
theorem sumP_step (l : List (Int × Int)) (c : List Int) (k : Nat) (h : k < l.length) (h' : k < c.length) : sumP l c (k + 1) = sumP l c k + c[k] * l[k].2 := by
  simp [sumP, List.range_succ, List.getD_eq_getElem?_getD, List.getElem?_eq_getElem h, List.getElem?_eq_getElem h']
theorem mul_in {a b m : Int} (ha : 0 ≤ a) (ha' : a ≤ 500) (hb : 1 ≤ b) (hb' : b ≤ m) : 0 ≤ a * b ∧ a * b ≤ 500 * m := by
  refine ⟨Int.mul_nonneg ha (by omega), ?_⟩
  exact Int.mul_le_mul ha' hb' (by omega) (by omega)
def hold (l : List (Int × Int)) (c : List Int) : Int × Int := if boxesOk l l.length && (c.length == l.length) && allIn 0 500 c then (sumT l c l.length, sumP l c l.length) else (0, 0)
/-- The sums stay small. -/
def Sums (l : List (Int × Int)) (c : List Int) (k : Nat) (t p : Int) : Prop := t = sumT l c k ∧ p = sumP l c k ∧ 0 ≤ t ∧ t ≤ 25000 * k ∧ 0 ≤ p ∧ p ≤ 500000 * k
theorem Sums.step {l : List (Int × Int)} {c : List Int} {k : Nat} {t p : Int} (H : Sums l c k t p) (h : k < l.length) (h' : k < c.length) (hc : 0 ≤ c[k] ∧ c[k] ≤ 500) (hx : BoxFine l[k]) : Sums l c (k + 1) (t + c[k] * l[k].1) (p + c[k] * l[k].2) := by
  obtain ⟨h1, h2, h3, h4, h5, h6⟩ := H
  obtain ⟨x1, x2, x3, x4⟩ := hx
  have m1 := mul_in hc.1 hc.2 x1 x2
  have m2 := mul_in hc.1 hc.2 x3 x4
  refine ⟨by rw [sumT_step l c k h h', h1], by rw [sumP_step l c k h h', h2], ?_, ?_, ?_, ?_⟩ <;> omega

set_option maxRecDepth 100000 in
theorem holdI_yes (u v : Value) (l : List (Int × Int)) (cs : List Int) (w : World) (h : Rd 2 RPair w u l) (hv : Rd 1 RInt w v cs) (hok : boxesOk l l.length = true) (hlen : cs.length = l.length) (hin : allIn 0 500 cs = true) :
    Calls Try.prog 19 #[u, v] w (Ret (.tuple #[.int .i64 (sumT l cs l.length), .int .i64 (sumP l cs l.length)]) w) := by
  obtain ⟨A, c, rfl, hc, hm⟩ := h.form
  obtain ⟨A', c', rfl, hc', hm'⟩ := hv.form
  obtain ⟨hall, h1, h5⟩ := boxesOk_all _ _ hok
  have hne : ((cs.length : Int) != (l.length : Int)) = false := by simp [hlen]
  have hci := allIn_iff.1 hin
  have Hall := Lib.hid hall; have Hlen := Lib.hid hlen; have Hci := Lib.hid hci; clear hall hlen hci
  go_enter Try.func19, Try.ntmps19
  go_wp2_with fail
  refine (boxesOkI_any _ l _ h).mono ?_
  rintro e w1 ⟨rfl, hb1⟩
  rw [hok]
  go_wp2_with fail
  refine (allWithin_any _ cs _ _ _ (hv.below RE.stays hb1)).mono ?_
  rintro e w2 ⟨rfl, rfl⟩
  rw [hin]
  go_wp2
  go_loopw [6, 7, 27] (fun a b i wr => ∃ (k : Nat) (t p : Int), k ≤ l.length ∧ i = .int .i64 k ∧ a = .int .i64 t ∧ b = .int .i64 p ∧ Hid (Sums l cs k t p) ∧ Below w.heap.size w wr) (fun _ _ i _ => l.length - (intOf i).toNat)
  case atStart => exact ⟨0, 0, 0, Nat.zero_le _, rfl, rfl, rfl, Lib.hid ⟨rfl, rfl, by omega, by omega, by omega, by omega⟩, hb1⟩
  case round =>
    obtain ⟨k, t, p, hk, rfl, rfl, rfl, Hs, hbel⟩ := hrel
    clear hb1
    by_cases hlt : k < l.length
    · have hltc : k < cs.length := by have := Hlen.out; omega
      obtain ⟨b, off, rfl, hb, q1, q2⟩ := (h.below RE.stays hbel).atPair hlt
      obtain ⟨b', off', rfl, hb', q3⟩ := (hv.below RE.stays hbel).atInt hltc
      have C := Hci.out cs[k] (List.getElem_mem hltc)
      have F := Hall.out l[k] (List.getElem_mem hlt)
      have HS := Lib.hid (Hs.out.step hlt hltc C F)
      obtain ⟨s1, s2, s3, s4, s5, s6⟩ := Hs.out
      have m1 := mul_in C.1 C.2 F.1 F.2.1
      have m2 := mul_in C.1 C.2 F.2.2.1 F.2.2.2
      have e1 : IntKind.i64.wrap (cs[k] * l[k].1) = cs[k] * l[k].1 := IntWalk.i64_in _ (by omega)
      have e2 : IntKind.i64.wrap (cs[k] * l[k].2) = cs[k] * l[k].2 := IntWalk.i64_in _ (by omega)
      have e3 : IntKind.i64.wrap (t + cs[k] * l[k].1) = t + cs[k] * l[k].1 := IntWalk.i64_in _ (by omega)
      have e4 : IntKind.i64.wrap (p + cs[k] * l[k].2) = p + cs[k] * l[k].2 := IntWalk.i64_in _ (by omega)
      have hltI : (k : Int) < cs.length := by omega
      clear s1 s2 C F
      go_wp2_with fail
      go_quiet (fail)
      go_wp2_with fail
      go_quiet (fail)
      clear e1 e2 e3 e4
      go_wp2
      go_roundw
      case rel => exact ⟨k + 1, _, _, by omega, by go_num, rfl, rfl, HS, below_drewN (hbel.al _) _⟩
      case measure => simp [intOf]; omega
    · go_wp2
      go_ret2
      obtain rfl : k = l.length := by omega
      obtain ⟨s1, s2, _⟩ := Hs.out
      exact ⟨retT s1 s2, hbel⟩

theorem holdI_no (u v : Value) (l : List (Int × Int)) (cs : List Int) (w : World) (h : Rd 2 RPair w u l) (hv : Rd 1 RInt w v cs) (hno : (boxesOk l l.length && (cs.length == l.length) && allIn 0 500 cs) = false) :
    Calls Try.prog 19 #[u, v] w (Ret (.tuple #[.int .i64 0, .int .i64 0]) w) := by
  obtain ⟨A, c, rfl, hc, hm⟩ := h.form
  obtain ⟨A', c', rfl, hc', hm'⟩ := hv.form
  rcases hok : boxesOk l l.length with _ | _
  · go_enter Try.func19, Try.ntmps19
    go_wp2_with fail
    refine (boxesOkI_any _ l _ h).mono ?_
    rintro e w1 ⟨rfl, hb1⟩
    rw [hok]
    go_wp2
    go_ret2
    exact ⟨rfl, hb1⟩
  · by_cases hlen : cs.length = l.length
    · have hne : ((cs.length : Int) != (l.length : Int)) = false := by simp [hlen]
      have hin : allIn 0 500 cs = false := by simpa [hok, hlen] using hno
      have Hlen := Lib.hid hlen; clear hlen hno
      go_enter Try.func19, Try.ntmps19
      go_wp2_with fail
      refine (boxesOkI_any _ l _ h).mono ?_
      rintro e w1 ⟨rfl, hb1⟩
      rw [hok]
      go_wp2_with fail
      refine (allWithin_any _ cs _ _ _ (hv.below RE.stays hb1)).mono ?_
      rintro e w2 ⟨rfl, rfl⟩
      rw [hin]
      go_wp2
      go_ret2
      exact ⟨rfl, hb1⟩
    · have hne : ((cs.length : Int) != (l.length : Int)) = true := by simp; omega
      clear hno
      go_enter Try.func19, Try.ntmps19
      go_wp2_with fail
      refine (boxesOkI_any _ l _ h).mono ?_
      rintro e w1 ⟨rfl, hb1⟩
      rw [hok]
      go_wp2
      go_ret2
      exact ⟨rfl, hb1⟩
theorem holdI_any (u v : Value) (l : List (Int × Int)) (cs : List Int) (w : World) (h : Rd 2 RPair w u l) (hv : Rd 1 RInt w v cs) :
    Calls Try.prog 19 #[u, v] w (Ret (.tuple #[.int .i64 (hold l cs).1, .int .i64 (hold l cs).2]) w) := by
  rcases hc : (boxesOk l l.length && (cs.length == l.length) && allIn 0 500 cs) with _ | _
  · have e : hold l cs = (0, 0) := by unfold hold; rw [hc]; rfl
    rw [e]; exact holdI_no u v l cs w h hv hc
  · have e : hold l cs = (sumT l cs l.length, sumP l cs l.length) := by unfold hold; rw [hc]; rfl
    rw [e]
    simp only [Bool.and_eq_true, beq_iff_eq] at hc
    exact holdI_yes u v l cs w h hv hc.1.1 hc.1.2 hc.2

end Go.Proofs.Ytkljkkonhkakgaa
