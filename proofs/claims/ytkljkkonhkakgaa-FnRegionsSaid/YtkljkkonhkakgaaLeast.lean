/- leastPrices of the program, l35Least of the reference: both return the same list. Conditions: valid boxes, at most 500 tiles. -/
import Derived.Test.YtkljkkonhkakgaaBoxLaws2
namespace Go.Proofs.Ytkljkkonhkakgaa
open Go.ChangeShapes Go.WideShapes Go.ChangeAt Go.RowKit
set_option linter.unusedVariables false

/-- The least price of m tiles, from the least prices of fewer. -/
def bestOf (out : List Int) (m : Int) : List (Int × Int) → Int → Int
  | [], best => best
  | b :: r, best => bestOf out m r (if best < 0 ∨ out.getD (m - b.1).toNat 0 + b.2 < best then out.getD (m - b.1).toNat 0 + b.2 else best)
def leastGo (l : List (Int × Int)) : Nat → List Int → List Int
  | 0, out => out
  | j + 1, out => leastGo l j (out ++ [bestOf out out.length l (-1)])
def least (l : List (Int × Int)) (n : Nat) : List Int := leastGo l n [0]

/-- What holds of the least prices as they grow. -/
def Priced (out : List Int) : Prop := ∀ (i : Nat) (p : Int), out[i]? = some p → -1 ≤ p ∧ p ≤ 1000 * i
theorem bestOf_le {out : List Int} (hp : Priced out) (m : Nat) (hm : m = out.length) (hm1 : 1 ≤ m) : ∀ (r : List (Int × Int)) (best : Int), (∀ x ∈ r, BoxFine x) → -1 ≤ best → best ≤ 1000 * m → -1 ≤ bestOf out m r best ∧ bestOf out m r best ≤ 1000 * m := by
  intro r
  induction r with
  | nil => intro best _ h1 h2; exact ⟨h1, h2⟩
  | cons x r ih =>
    intro best hx h1 h2
    unfold bestOf
    have F := hx x (List.mem_cons_self)
    unfold BoxFine at F
    have hi : ((m : Int) - x.1).toNat < out.length := by omega
    have hq := hp _ _ (List.getElem?_eq_getElem hi)
    rw [List.getD_eq_getElem?_getD, List.getElem?_eq_getElem hi, Option.getD_some]
    have hb : (((m : Int) - x.1).toNat : Int) ≤ m - 1 := by omega
    apply ih
    · exact fun y hy => hx y (List.mem_cons_of_mem _ hy)
    · split <;> omega
    · split <;> omega
theorem Priced.push {out : List Int} (hp : Priced out) {p : Int} (h1 : -1 ≤ p) (h2 : p ≤ 1000 * out.length) : Priced (out ++ [p]) := by
  intro i q h
  by_cases hi : i < out.length
  · rw [List.getElem?_append_left hi] at h; exact hp i q h
  · have : i = out.length := by have := (List.getElem?_eq_some_iff.1 h).1; simp at this; omega
    subst this
    simp at h
    subst h; exact ⟨h1, h2⟩
theorem priced_start : Priced [0] := by
  intro i q h
  have : i = 0 := by have := (List.getElem?_eq_some_iff.1 h).1; simpa using this
  subst this; simp at h; subst h; omega
theorem leastGo_len (l : List (Int × Int)) : ∀ (j : Nat) (out : List Int), (leastGo l j out).length = out.length + j := by
  intro j
  induction j with
  | zero => intro out; rfl
  | succ j ih => intro out; rw [leastGo, ih]; simp; omega
theorem least_len (l : List (Int × Int)) (n : Nat) : (least l n).length = n + 1 := by unfold least; rw [leastGo_len]; simp; omega
theorem leastGo_priced (l : List (Int × Int)) (hl : ∀ x ∈ l, BoxFine x) : ∀ (j : Nat) (out : List Int), 1 ≤ out.length → Priced out → Priced (leastGo l j out) := by
  intro j
  induction j with
  | zero => intro out _ h; exact h
  | succ j ih =>
    intro out h1 h
    rw [leastGo]
    have b := bestOf_le h out.length rfl h1 l (-1) hl (by omega) (by omega)
    exact ih _ (by simp) (h.push b.1 b.2)
theorem bestOf_go {out : List Int} {m : Int} {l : List (Int × Int)} {k : Nat} {best R : Int} (H : Hid (bestOf out m (l.drop k) best = R)) (h : k < l.length) :
    Hid (bestOf out m (l.drop (k + 1)) (if best < 0 ∨ out.getD (m - l[k].1).toNat 0 + l[k].2 < best then out.getD (m - l[k].1).toNat 0 + l[k].2 else best) = R) := by
  have := H.out
  rw [List.drop_eq_getElem_cons h, bestOf] at this; exact this
theorem bestOf_end {out : List Int} {m : Int} {l : List (Int × Int)} {k : Nat} {best R : Int} (H : Hid (bestOf out m (l.drop k) best = R)) (h : l.length ≤ k) : R = best := by
  have := H.out
  rw [List.drop_of_length_le h, bestOf] at this; exact this.symm

set_option maxRecDepth 100000 in
theorem leastI_any (v : Value) (l : List (Int × Int)) (n : Nat) (w : World) (h : Rd 2 RPair w v l) (Hall : Hid (∀ x ∈ l, BoxFine x)) (hn : n ≤ 500) (hl5 : l.length ≤ 1048576) :
    Calls Try.prog 95 #[v, .int .i64 n] w (RetOwn 3 1 eInt (least l n) w) := by
  obtain ⟨A, c, rfl, hc, hm⟩ := h.form
  go_enter Try.func95, Try.ntmps95
  go_wp2
  go_loopw [5, 6] (fun o i wr => ∃ (out : List Int) (A' : Option Addr) (c' : Nat), 1 ≤ out.length ∧ out.length ≤ n + 1 ∧ i = .int .i64 out.length ∧ o = .slice A' out.length c' ∧ Hid (Priced out) ∧ Hid (leastGo l (n + 1 - out.length) out = least l n) ∧ OwnL 3 1 eInt w.heap.size wr (.slice A' out.length c') out ∧ Below w.heap.size w wr) (fun _ i _ => n + 1 - (intOf i).toNat)
  case atStart => exact ⟨[0], _, _, by decide, by simp, rfl, rfl, Lib.hid priced_start, Lib.hid rfl, World.ownsRow_lit w #[.int .i64 0] 1 (Nat.le_refl _) (by simp [maxLen]) rfl, (Below.refl _ _).al _⟩
  case round =>
    obtain ⟨out, A', c', ho1, ho2, rfl, rfl, Hp, Hg, hown, hbel⟩ := hrel
    by_cases hlt : out.length ≤ n
    · have hltI : (out.length : Int) ≤ n := by omega
      go_wp2
      obtain ⟨wo, rfl⟩ : ∃ wo : World, wo = wr := ⟨_, rfl⟩
      go_loopw [7, 19] (fun q i wi => ∃ (k : Nat) (best : Int), k ≤ l.length ∧ i = .int .i64 k ∧ q = .int .i64 best ∧ -1 ≤ best ∧ best ≤ 1000 * out.length ∧ Hid (bestOf out out.length (l.drop k) best = bestOf out out.length l (-1)) ∧ OwnL 3 1 eInt w.heap.size wi (.slice A' out.length c') out ∧ Below w.heap.size w wi) (fun _ i _ => l.length - (intOf i).toNat)
      case atStart => exact ⟨0, -1, Nat.zero_le _, rfl, rfl, by omega, by omega, Lib.hid rfl, hown, hbel⟩
      case round =>
        obtain ⟨k, best, hk, rfl, rfl, hb1, hb2, Hb, hown, hbel⟩ := hrel
        by_cases hkl : k < l.length
        · obtain ⟨b, off, rfl, hb, h1, h2⟩ := (h.below RE.stays hbel).atPair hkl
          have F := Hall.out l[k] (List.getElem_mem hkl)
          have F1 := F.1; have F2 := F.2.1; have F3 := F.2.2.1; have F4 := F.2.2.2
          clear F
          obtain ⟨s, hs⟩ : ∃ s, s = l[k].1 := ⟨_, rfl⟩
          obtain ⟨p, hp⟩ : ∃ p, p = l[k].2 := ⟨_, rfl⟩
          rw [← hs] at h1 F1 F2; rw [← hp] at h2 F3 F4
          obtain ⟨i, hi⟩ : ∃ i : Nat, i = ((out.length : Int) - s).toNat := ⟨_, rfl⟩
          have hio : i < out.length := by omega
          obtain ⟨q, hq⟩ : ∃ q, q = out[i] := ⟨_, rfl⟩
          have hq2 := Hp.out i q (by rw [hq]; exact List.getElem?_eq_getElem hio)
          have hq3 : -1 ≤ q := hq2.1
          have hq4 : q + 1000 ≤ 1000 * out.length := by have := hq2.2; omega
          obtain ⟨g, hA, hB, hgl⟩ := hown.split hio
          have hs1 := hown.alloc (.cells #[.int .i64 s, .int .i64 p] 34)
          subst hA
          have hcell := hs1.slot lenInt Nat.one_pos hio 0 _ rfl
          rw [Nat.mul_one, Nat.add_zero, ← hq] at hcell
          have hmax : max ((out.length : Int) - s) 0 = (i : Int) := by omega
          have hG := bestOf_go Hb hkl
          rw [← hs, ← hp, ← hi, List.getD_eq_getElem?_getD, List.getElem?_eq_getElem hio, Option.getD_some, ← hq] at hG
          have Hs := Lib.hid hs; have Hpp := Lib.hid hp; have Hi := Lib.hid hi; have Hq := Lib.hid hq
          clear hs hp hi hq hq2 hs1
          have e2 : (if IntKind.i64.wrap ((out.length : Int) - s) < 0 then (0 : Int) else IntKind.i64.wrap ((out.length : Int) - s)) = (i : Int) := by
            rw [IntWalk.i64_in _ (by omega)]; have := Hi.out; split <;> omega
          have e3 : IntKind.i64.wrap (q + p) = q + p := IntWalk.i64_in _ (by omega)
          have hioI : (i : Int) < out.length := by omega
          clear hmax
          go_wp2_with fail
          go_quiet (fail)
          clear e2 e3
          go_wp2
          all_goals
            go_roundw
            case rel => exact ⟨k + 1, _, by omega, by go_num, rfl, by omega, by omega, by first | (rw [if_pos (by omega)] at hG; exact hG) | (rw [if_neg (by omega)] at hG; exact hG), (hown.alloc _).drewN _, below_drewN (hbel.al _) _⟩
            case measure => simp [intOf]; omega
        · have hbe := bestOf_end Hb (by omega)
          have HG : Hid (leastGo l (n + 1 - (out ++ [best]).length) (out ++ [best]) = least l n) := by
            have := Hg.out
            rw [show n + 1 - out.length = (n + 1 - (out ++ [best]).length) + 1 by simp; omega, leastGo, hbe] at this
            exact this
          clear hbe Hb
          go_wp2_with (at_builtin; go_must (refine wpList_app1 (enc := eInt) rowInt lenInt oneInt hbel hown best (by omega) (by unfold maxLen; omega) rfl _ _ rfl rfl rfl ?_); intro v1 w1 own1 hbA hg1 hd1; obtain ⟨A1, c1, rfl, hc1, hm1⟩ := own1.form)
          go_roundw
          case rel => exact ⟨out ++ [best], A1, c1, by simp, by simp; omega, by simp, by simp, Lib.hid (Hp.out.push hb1 hb2), HG, own1, hbA⟩
          case measure => simp [intOf]; omega
    · go_wp2
      go_ret
      have e : n + 1 - out.length = 0 := by omega
      have G := Hg.out
      rw [e, leastGo] at G
      rw [← G]
      exact ⟨_, _, rfl, hown, hbel⟩
end Go.Proofs.Ytkljkkonhkakgaa
