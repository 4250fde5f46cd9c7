/- BestBox, leastPrices, CheapestBoxes: the walks of the program and of the reference. No conditions but valid boxes. -/
import Derived.Test.YtkljkkonhkakgaaBoxLaws
import Derived.IntWalk
namespace Go.Proofs.Ytkljkkonhkakgaa
open Go.ChangeShapes Go.WideShapes Go.ChangeAt Go.RowKit
set_option linter.unusedVariables false

def BoxFine (x : Int × Int) : Prop := 1 ≤ x.1 ∧ x.1 ≤ 50 ∧ 1 ≤ x.2 ∧ x.2 ≤ 1000
theorem boxesOk_all : ∀ (l : List (Int × Int)) (n : Int), boxesOk l n = true → (∀ x ∈ l, BoxFine x) ∧ 1 ≤ n ∧ n ≤ 5 := by
  intro l
  induction l with
  | nil => intro n h; simp [boxesOk, inB] at h; exact ⟨fun x hx => (by cases hx), h⟩
  | cons x r ih =>
    intro n h
    unfold boxesOk at h
    by_cases hx : (!inB x.1 1 50 || !inB x.2 1 1000) = true
    · rw [if_pos hx] at h; cases h
    · rw [if_neg hx] at h
      obtain ⟨h1, h2⟩ := ih n h
      refine ⟨fun y hy => ?_, h2⟩
      rcases List.mem_cons.1 hy with rfl | hy
      · simp [inB] at hx; unfold BoxFine; omega
      · exact h1 y hy
def bestGo (all : List (Int × Int)) : List (Int × Int) → Nat → Nat → Nat
  | [], _, best => best
  | x :: r, k, best => bestGo all r (k + 1) (if x.2 * (all.getD best (0, 0)).1 < (all.getD best (0, 0)).2 * x.1 then k else best)
theorem bestGo_go {l : List (Int × Int)} {k best R : Nat} (H : Hid (bestGo l (l.drop k) k best = R)) (h : k < l.length) (hb : best < l.length) :
    Hid (bestGo l (l.drop (k + 1)) (k + 1) (if l[k].2 * l[best].1 < l[best].2 * l[k].1 then k else best) = R) := by
  have := H.out
  rw [List.drop_eq_getElem_cons h, bestGo] at this
  simp only [List.getD_eq_getElem?_getD, List.getElem?_eq_getElem hb, Option.getD_some] at this
  exact this
theorem bestGo_end {l : List (Int × Int)} {k best R : Nat} (H : Hid (bestGo l (l.drop k) k best = R)) (h : l.length ≤ k) : R = best := by
  have := H.out
  rw [List.drop_of_length_le h, bestGo] at this; exact this.symm
theorem prod_in {a b : Int} (ha : 1 ≤ a) (ha' : a ≤ 1000) (hb : 1 ≤ b) (hb' : b ≤ 1000) : 1 ≤ a * b ∧ a * b ≤ 1000000 := by
  refine ⟨?_, ?_⟩
  · have := Int.mul_le_mul ha hb (by omega) (by omega); simpa using this
  · have := Int.mul_le_mul ha' hb' (by omega) (by omega); simpa using this

theorem bestI_any (v : Value) (l : List (Int × Int)) (w : World) (h : Rd 2 RPair w v l) (ok : boxesOk l l.length = true) :
    Calls Try.prog 21 #[v] w (Ret (.int .i64 (bestGo l l 0 0)) w) := by
  obtain ⟨hall, hn1, hn5⟩ := boxesOk_all _ _ ok
  obtain ⟨A, c, rfl, hc, hm⟩ := h.form
  have Hall := Lib.hid hall; clear hall
  have Hok := Lib.hid ok; clear ok
  go_enter Try.func21, Try.ntmps21
  go_wp2_with fail
  refine (boxesOkI_any _ l _ h).mono ?_
  rintro e w1 ⟨rfl, hb1⟩
  rw [Hok.out]
  go_wp2
  go_loopw [3, 11] (fun o i wr => ∃ k best : Nat, k ≤ l.length ∧ best < l.length ∧ i = .int .i64 k ∧ o = .int .i64 best ∧ Hid (bestGo l (l.drop k) k best = bestGo l l 0 0) ∧ Below w.heap.size w wr) (fun _ i _ => l.length - (intOf i).toNat)
  case atStart => exact ⟨0, 0, Nat.zero_le _, by omega, rfl, rfl, Lib.hid rfl, hb1⟩
  case round =>
    obtain ⟨k, best, hk, hbl, rfl, rfl, Hg, hbel⟩ := hrel
    by_cases hlt : k < l.length
    · obtain ⟨b, off, rfl, hb, h1, h2⟩ := (h.below RE.stays hbel).atPair hlt
      obtain ⟨b', off', e, hb', h3, h4⟩ := (h.below RE.stays hbel).atPair hbl
      injection e with e; injection e with e1 e2 e3; subst e1; subst e2
      have F1 := Hall.out l[k] (List.getElem_mem hlt)
      have F2 := Hall.out l[best] (List.getElem_mem hbl)
      have m1 := prod_in F1.2.2.1 F1.2.2.2 F2.1 (by have := F2.2.1; omega)
      have m2 := prod_in F2.2.2.1 F2.2.2.2 F1.1 (by have := F1.2.1; omega)
      have e1 : IntKind.i64.wrap (l[k].2 * l[best].1) = l[k].2 * l[best].1 := IntWalk.i64_in _ (by omega)
      have e2 : IntKind.i64.wrap (l[best].2 * l[k].1) = l[best].2 * l[k].1 := IntWalk.i64_in _ (by omega)
      have hbz : (best : Int) < l.length := by omega
      go_wp2_with fail
      go_quiet (fail)
      go_wp2
      all_goals
        go_roundw
        case rel => exact ⟨k + 1, _, by omega, by first | exact hbl | exact hlt, by go_num, rfl, by have G := bestGo_go Hg hlt hbl; first | (rw [if_pos (by first | assumption | omega)] at G; exact G) | (rw [if_neg (by omega)] at G; exact G), below_drewN (hbel.al _) _⟩
        case measure => simp [intOf]; omega
    · go_wp2
      go_ret
      exact ⟨retI (by rw [bestGo_end Hg (by omega)]), hbel⟩
theorem bestI_no (v : Value) (l : List (Int × Int)) (w : World) (h : Rd 2 RPair w v l) (ok : boxesOk l l.length = false) :
    Calls Try.prog 21 #[v] w (Ret (.int .i64 (-1)) w) := by
  obtain ⟨A, c, rfl, hc, hm⟩ := h.form
  go_enter Try.func21, Try.ntmps21
  go_wp2_with fail
  refine (boxesOkI_any _ l _ h).mono ?_
  rintro e w1 ⟨rfl, hb1⟩
  rw [ok]
  go_wp2
  go_ret
  exact ⟨rfl, hb1⟩
end Go.Proofs.Ytkljkkonhkakgaa
