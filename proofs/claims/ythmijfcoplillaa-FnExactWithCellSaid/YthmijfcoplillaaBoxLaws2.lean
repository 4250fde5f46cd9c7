/- BestBox, leastPrices, CheapestBoxes: the walks of the program and of the reference. No conditions but valid boxes. -/
import Derived.Test.YthmijfcoplillaaBoxLaws
import Derived.IntWalk
namespace Go.Proofs.Ythmijfcoplillaa
open Go.ChangeShapes Go.WideShapes Go.ChangeAt Go.RowKit
set_option linter.unusedVariables false

def BoxFine (x : Int × Int) : Prop := 1 ≤ x.1 ∧ x.1 ≤ 50 ∧ 1 ≤ x.2 ∧ x.2 ≤ 1000
theorem boxesOk_all : ∀ (l : List (Int × Int)) (n : Int), boxesOk l n = true → (∀ x ∈ l, BoxFine x) ∧ 1 ≤ n ∧ n ≤ 5 := by
  intro l
  induction l with
  | nil => intro n h; simp [boxesOk, inB] at h; exact ⟨fun x hx => (by cases hx), h⟩
  | cons x r ih =>
    intro n h
    unfold boxesOk at h
    by_cases hx : (!inB x.1 1 50 || !inB x.2 1 1000) = true
    · rw [if_pos hx] at h; cases h
    · rw [if_neg hx] at h
      obtain ⟨h1, h2⟩ := ih n h
      refine ⟨fun y hy => ?_, h2⟩
      rcases List.mem_cons.1 hy with rfl | hy
      · simp [inB] at hx; unfold BoxFine; omega
      · exact h1 y hy
def bestGo (all : List (Int × Int)) : List (Int × Int) → Nat → Nat → Nat
  | [], _, best => best
  | x :: r, k, best => bestGo all r (k + 1) (if x.2 * (all.getD best (0, 0)).1 < (all.getD best (0, 0)).2 * x.1 then k else best)
theorem bestGo_go {l : List (Int × Int)} {k best R : Nat} (H : Hid (bestGo l (l.drop k) k best = R)) (h : k < l.length) (hb : best < l.length) :
    Hid (bestGo l (l.drop (k + 1)) (k + 1) (if l[k].2 * l[best].1 < l[best].2 * l[k].1 then k else best) = R) := by
  have := H.out
  rw [List.drop_eq_getElem_cons h, bestGo] at this
  simp only [List.getD_eq_getElem?_getD, List.getElem?_eq_getElem hb, Option.getD_some] at this
  exact this
theorem bestGo_end {l : List (Int × Int)} {k best R : Nat} (H : Hid (bestGo l (l.drop k) k best = R)) (h : l.length ≤ k) : R = best := by
  have := H.out
  rw [List.drop_of_length_le h, bestGo] at this; exact this.symm
theorem prod_in {a b : Int} (ha : 1 ≤ a) (ha' : a ≤ 1000) (hb : 1 ≤ b) (hb' : b ≤ 1000) : 1 ≤ a * b ∧ a * b ≤ 1000000 := by
  refine ⟨?_, ?_⟩
  · have := Int.mul_le_mul ha hb (by omega) (by omega); simpa using this
  · have := Int.mul_le_mul ha' hb' (by omega) (by omega); simpa using this

theorem bestI_any (v : Value) (l : List (Int × Int)) (w : World) (h : Rd 2 RPair w v l) (ok : boxesOk l l.length = true) :
    Calls Try.prog 35 #[v] w (Ret (.int .i64 (bestGo l l 0 0)) w) := by
  obtain ⟨hall, hn1, hn5⟩ := boxesOk_all _ _ ok
  obtain ⟨A, c, rfl, hc, hm⟩ := h.form
  have Hall := Lib.hid hall; clear hall
  have Hok := Lib.hid ok; clear ok
  go_enter Try.func35, Try.ntmps35
  go_wp2_with fail
  refine (boxesOkI_any _ l _ h).mono ?_
  rintro e w1 ⟨rfl, hb1⟩
  rw [Hok.out]
  go_wp2
  go_loopw [3, 11] (fun o i wr => ∃ k best : Nat, k ≤ l.length ∧ best < l.length ∧ i = .int .i64 k ∧ o = .int .i64 best ∧ Hid (bestGo l (l.drop k) k best = bestGo l l 0 0) ∧ Below w.heap.size w wr) (fun _ i _ => l.length - (intOf i).toNat)
  case atStart => exact ⟨0, 0, Nat.zero_le _, by omega, rfl, rfl, Lib.hid rfl, hb1⟩
  case round =>
    obtain ⟨k, best, hk, hbl, rfl, rfl, Hg, hbel⟩ := hrel
    by_cases hlt : k < l.length
    · obtain ⟨b, off, rfl, hb, h1, h2⟩ := (h.below RE.stays hbel).atPair hlt
      obtain ⟨b', off', e, hb', h3, h4⟩ := (h.below RE.stays hbel).atPair hbl
      injection e with e; injection e with e1 e2 e3; subst e1; subst e2
      have F1 := Hall.out l[k] (List.getElem_mem hlt)
      have F2 := Hall.out l[best] (List.getElem_mem hbl)
      have m1 := prod_in F1.2.2.1 F1.2.2.2 F2.1 (by have := F2.2.1; omega)
      have m2 := prod_in F2.2.2.1 F2.2.2.2 F1.1 (by have := F1.2.1; omega)
      have e1 : IntKind.i64.wrap (l[k].2 * l[best].1) = l[k].2 * l[best].1 := IntWalk.i64_in _ (by omega)
      have e2 : IntKind.i64.wrap (l[best].2 * l[k].1) = l[best].2 * l[k].1 := IntWalk.i64_in _ (by omega)
      have hbz : (best : Int) < l.length := by omega
      go_wp2_with fail
      go_quiet (fail)
      go_wp2
      all_goals
        go_roundw
        case rel => exact ⟨k + 1, _, by omega, by first | exact hbl | exact hlt, by go_num, rfl, by have G := bestGo_go Hg hlt hbl; first | (rw [if_pos (by first | assumption | omega)] at G; exact G) | (rw [if_neg (by omega)] at G; exact G), below_drewN (hbel.al _) _⟩
        case measure => simp [intOf]; omega
    · go_wp2
      go_ret
      exact ⟨retI (by rw [bestGo_end Hg (by omega)]), hbel⟩
theorem bestI_no (v : Value) (l : List (Int × Int)) (w : World) (h : Rd 2 RPair w v l) (ok : boxesOk l l.length = false) :
    Calls Try.prog 35 #[v] w (Ret (.int .i64 (-1)) w) := by
  obtain ⟨A, c, rfl, hc, hm⟩ := h.form
  go_enter Try.func35, Try.ntmps35
  go_wp2_with fail
  refine (boxesOkI_any _ l _ h).mono ?_
  rintro e w1 ⟨rfl, hb1⟩
  rw [ok]
  go_wp2
  go_ret
  exact ⟨rfl, hb1⟩
theorem bestS_no (v : Value) (l : List (Int × Int)) (w : World) (h : Rd 2 RPair w v l) (ok : boxesOk l l.length = false) :
    Calls Try.prog 34 #[v] w (Ret (.int .i64 (-1)) w) := by
  obtain ⟨A, c, rfl, hc, hm⟩ := h.form
  go_enter Try.func34, Try.ntmps34
  go_wp2
  refine wp_loop_rounds 1 ?_
  rw [rounds_succ]
  by_cases hl : 0 < l.length
  · go_wp2_with (go_at_call 31; (with_reducible refine (boxesOkS_any _ l _ h).mono ?_); rintro e w' ⟨rfl, rfl⟩)
    go_ret
    exact ⟨rfl, Below.refl _ _⟩
  · go_wp2
    go_ret
    exact ⟨rfl, Below.refl _ _⟩
theorem bestS_any (v : Value) (l : List (Int × Int)) (w : World) (h : Rd 2 RPair w v l) (ok : boxesOk l l.length = true) :
    Calls Try.prog 34 #[v] w (Ret (.int .i64 (bestGo l l 0 0)) w) := by
  obtain ⟨hall, hn1, hn5⟩ := boxesOk_all _ _ ok
  obtain ⟨A, c, rfl, hc, hm⟩ := h.form
  have Hall := Lib.hid hall; clear hall
  have Hok := Lib.hid ok; clear ok
  go_enter Try.func34, Try.ntmps34
  go_wp2
  go_loopw [3, 4] (fun o i wr => ((i = .int .i64 0 ∧ o = .int .i64 (-1)) ∨ ∃ k best : Nat, 1 ≤ k ∧ k ≤ l.length ∧ best < l.length ∧ i = .int .i64 k ∧ o = .int .i64 best ∧ Hid (bestGo l (l.drop k) k best = bestGo l l 0 0)) ∧ Below w.heap.size w wr) (fun _ i _ => l.length - (intOf i).toNat)
  case atStart => exact ⟨.inl ⟨rfl, rfl⟩, Below.refl _ _⟩
  case round =>
    obtain ⟨⟨rfl, rfl⟩ | ⟨k, best, hk0, hk, hbl, rfl, rfl, Hg⟩, hbel⟩ := hrel
    · have hlt : 0 < l.length := by omega
      have hlt' : (0 : Int) < l.length := by omega
      go_wp2_with (go_at_call 31; (with_reducible refine (boxesOkS_any _ l _ (h.below RE.stays hbel)).mono ?_); rintro e w' ⟨rfl, rfl⟩)
      all_goals first
        | (go_ret
           have := Hok.out; simp_all; done)
        | skip
      go_quiet (fail)
      go_wp2
      go_roundw
      case rel => exact ⟨.inr ⟨1, 0, by omega, by omega, hlt, rfl, rfl, by have G := bestGo_go (l := l) (k := 0) (best := 0) (Lib.hid rfl) hlt hlt; rw [if_neg (by omega)] at G; exact G⟩, below_drewN hbel _⟩
      case measure => simp [intOf]; omega
    · by_cases hlt : k < l.length
      · obtain ⟨b, off, rfl, hb, h1, h2⟩ := (h.below RE.stays hbel).atPair hlt
        obtain ⟨b', off', e, hb', h3, h4⟩ := (h.below RE.stays hbel).atPair hbl
        injection e with e; injection e with e1 e2 e3; subst e1; subst e2
        have F1 := Hall.out l[k] (List.getElem_mem hlt)
        have F2 := Hall.out l[best] (List.getElem_mem hbl)
        have m1 := prod_in F1.2.2.1 F1.2.2.2 F2.1 (by have := F2.2.1; omega)
        have m2 := prod_in F2.2.2.1 F2.2.2.2 F1.1 (by have := F1.2.1; omega)
        have e1 : IntKind.i64.wrap (l[k].2 * l[best].1) = l[k].2 * l[best].1 := IntWalk.i64_in _ (by omega)
        have e2 : IntKind.i64.wrap (l[best].2 * l[k].1) = l[best].2 * l[k].1 := IntWalk.i64_in _ (by omega)
        have hbz : (best : Int) < l.length := by omega
        go_wp2_with (go_at_call 31; refine (boxesOkS_any _ l _ (h.below RE.stays hbel)).mono ?_; rintro e w' ⟨rfl, rfl⟩; rw [Hok.out])
        go_quiet (fail)
        go_wp2
        all_goals
          go_roundw
          case rel => exact ⟨.inr ⟨k + 1, _, by omega, by omega, by first | exact hbl | exact hlt, by go_num, rfl, by have G := bestGo_go Hg hlt hbl; first | (rw [if_pos (by first | assumption | omega)] at G; exact G) | (rw [if_neg (by omega)] at G; exact G)⟩, below_drewN hbel _⟩
          case measure => simp [intOf]; omega
      · go_wp2
        go_ret
        exact ⟨retI (by rw [bestGo_end Hg (by omega)]), hbel⟩

/-- What the laws on boxes do: the sizes, the reference on one copy, the program on another, the copies compared. -/
theorem FnExactBestBox_yes (w : World) (v : Value) (l : List (Int × Int))  (h : Rd 2 RPair w v l) (ok : boxesOk l l.length = true) :
    Calls Try.prog 8 #[v] w (Ret (.bool true) w) := by
  by_cases hsz : l.length ≤ 1048576
  · go_enter Try.func8, Try.ntmps8
    go_wp2_with fail
    refine (szBoxs_any _ l _ _ h (by decide) (by decide)).mono ?_
    rintro e w0 ⟨rfl, rfl⟩
    rw [szOf_ok (by omega)]
    go_wp2_with fail
    refine (toBoxs_any _ l _ h hsz).mono ?_
    rintro e w1 ⟨A1, c1, rfl, own1, hb1⟩
    go_wp2_with fail
    refine (bestS_any _ l _ (own1.rd lenBox (by decide)) ok).mono ?_
    rintro e w2 ⟨rfl, hb2⟩
    have B2 := hb1.tr hb2
    go_wp2_with fail
    refine (toBoxs_any _ l _ (h.below RE.stays B2) hsz).mono ?_
    rintro e w3 ⟨A3, c3, rfl, own3, hb3⟩
    have B3 := B2.tr hb3
    go_wp2_with fail
    refine (bestI_any _ l _ (own3.rd lenBox (by decide)) ok).mono ?_
    rintro e w4 ⟨rfl, hb4⟩
    have B4 := B3.tr hb4
    go_wp2_with fail
    refine (toBoxs_any _ l _ (h.below RE.stays B4) hsz).mono ?_
    rintro e w5 ⟨A5, c5, rfl, own5, hb5⟩
    have B5 := B4.tr hb5
    go_wp2_with fail
    refine (eqBoxs_any _ _ l l _ (((own3.below hb4).below hb5).rd lenBox (by decide)) (own5.rd lenBox (by decide))).mono ?_
    rintro e w6 ⟨rfl, hb6⟩
    have B6 := B5.tr hb6
    rw [beq_self_eq_true]
    go_wp2
    go_ret
    exact ⟨rfl, B6⟩
  · go_enter Try.func8, Try.ntmps8
    go_wp2_with fail
    refine (szBoxs_any _ l _ _ h (by decide) (by decide)).mono ?_
    rintro e w0 ⟨rfl, rfl⟩
    rw [szOf_no (by omega)]
    go_wp2
    go_ret
    exact ⟨rfl, Below.refl _ _⟩
theorem FnExactBestBox_no (w : World) (v : Value) (l : List (Int × Int))  (h : Rd 2 RPair w v l) (ok : boxesOk l l.length = false) :
    Calls Try.prog 8 #[v] w (Ret (.bool true) w) := by
  by_cases hsz : l.length ≤ 1048576
  · go_enter Try.func8, Try.ntmps8
    go_wp2_with fail
    refine (szBoxs_any _ l _ _ h (by decide) (by decide)).mono ?_
    rintro e w0 ⟨rfl, rfl⟩
    rw [szOf_ok (by omega)]
    go_wp2_with fail
    refine (toBoxs_any _ l _ h hsz).mono ?_
    rintro e w1 ⟨A1, c1, rfl, own1, hb1⟩
    go_wp2_with fail
    refine (bestS_no _ l _ (own1.rd lenBox (by decide)) ok).mono ?_
    rintro e w2 ⟨rfl, hb2⟩
    have B2 := hb1.tr hb2
    go_wp2_with fail
    refine (toBoxs_any _ l _ (h.below RE.stays B2) hsz).mono ?_
    rintro e w3 ⟨A3, c3, rfl, own3, hb3⟩
    have B3 := B2.tr hb3
    go_wp2_with fail
    refine (bestI_no _ l _ (own3.rd lenBox (by decide)) ok).mono ?_
    rintro e w4 ⟨rfl, hb4⟩
    have B4 := B3.tr hb4
    go_wp2_with fail
    refine (toBoxs_any _ l _ (h.below RE.stays B4) hsz).mono ?_
    rintro e w5 ⟨A5, c5, rfl, own5, hb5⟩
    have B5 := B4.tr hb5
    go_wp2_with fail
    refine (eqBoxs_any _ _ l l _ (((own3.below hb4).below hb5).rd lenBox (by decide)) (own5.rd lenBox (by decide))).mono ?_
    rintro e w6 ⟨rfl, hb6⟩
    have B6 := B5.tr hb6
    rw [beq_self_eq_true]
    go_wp2
    go_ret
    exact ⟨rfl, B6⟩
  · go_enter Try.func8, Try.ntmps8
    go_wp2_with fail
    refine (szBoxs_any _ l _ _ h (by decide) (by decide)).mono ?_
    rintro e w0 ⟨rfl, rfl⟩
    rw [szOf_no (by omega)]
    go_wp2
    go_ret
    exact ⟨rfl, Below.refl _ _⟩
theorem FnExactBestBox_walk (w : World) (v : Value) (l : List (Int × Int)) (h : Rd 2 RPair w v l) (okl : AllOk (fun x => I64 x.1 ∧ I64 x.2) l) :
    Calls Try.prog 8 #[v] w (Ret (.bool true) w) := by
  rcases hb : boxesOk l l.length with _ | _
  · exact FnExactBestBox_no w v l h hb
  · exact FnExactBestBox_yes w v l h hb
end Go.Proofs.Ythmijfcoplillaa
