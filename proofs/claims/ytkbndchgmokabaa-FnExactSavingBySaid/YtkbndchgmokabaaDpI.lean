/- The closures of CheapestPrice and of the profile: the walks. No conditions but sizes. -/
import Derived.Test.YtkbndchgmokabaaDp
import Derived.Test.YtkbndchgmokabaaRegCells
import Derived.Deep.RegionHeld3
namespace Go.Proofs.Ytkbndchgmokabaa
open Go.ChangeShapes Go.WideShapes Go.ChangeAt Go.RowKit
set_option linter.unusedVariables false
set_option linter.unusedSimpArgs false

theorem pow_i64 {k : Nat} (hk : k < 8) : (2 : Int) ^ k = ((2 ^ k : Nat) : Int) ∧ 2 ^ k ≤ 128 :=
  ⟨by simp, Nat.le_trans (Nat.pow_le_pow_right (by decide) (show k ≤ 7 by omega)) (by decide)⟩
theorem minC_any (a b : Int) (w : World) : Calls Try.prog 95 #[.int .i64 a, .int .i64 b] w (Pure (.int .i64 (min a b)) w) := by
  go_enter Try.func95, Try.ntmps95
  go_wp2
  all_goals go_ret
  all_goals exact ⟨retI (by omega), rfl⟩
set_option maxRecDepth 100000 in
theorem withC_any (p : Pr) (n x y : Int) (d : Bool) (g : Nat) (w : World) (hb : Blk w g 29 #[.int .i64 p.1, .int .i64 p.2.1, .int .i64 p.2.2.1, .int .i64 p.2.2.2]) (hx : 0 ≤ x) (h0 : 0 ≤ n) (h1 : n ≤ 1000000) :
    Calls Try.prog 96 #[.int .i64 n, .agg #[.int .i64 x, .int .i64 y, .bool d], .pointer (some ⟨g, 0, none⟩)] w (Ret (.int .i64 (n + domPrice p (x, y, d))) w) := by
  obtain ⟨pa, pb, pc, pd⟩ := p
  have hp := domPrice_in (pa, pb, pc, pd) (x, y, d)
  have hA := (Below.refl w.heap.size w).al (.cells #[.int .i64 x, .int .i64 y, .bool d] 73)
  have hlt := hb.lt
  have hne : g ≠ w.heap.size := by omega
  have z0 := hb.cell 0
  have z1 := hb.cell 1
  have z2 := hb.cell 2
  have z3 := hb.cell 3
  simp only [List.getElem?_toArray, List.getElem?_cons_zero, List.getElem?_cons_succ] at z0 z1 z2 z3
  go_enter Try.func96, Try.ntmps96
  go_wp2_with fail
  refine (domPriceI_any (pa, pb, pc, pd) (x, y, d) _).mono ?_
  rintro e w1 ⟨rfl, hb1⟩
  go_wp2
  go_ret
  exact ⟨rfl, hA.tr hb1⟩
theorem withC_start (p : Pr) (n : Int) (g : Nat) (w : World) :
    Calls Try.prog 96 #[.int .i64 n, .agg #[.int .i64 (-1), .int .i64 0, .bool false], .pointer (some ⟨g, 0, none⟩)] w (Ret (.int .i64 0) w) := by
  go_enter Try.func96, Try.ntmps96
  go_wp2
  go_ret
  exact ⟨rfl, (Below.refl _ _).al _⟩

def Put (r : List Int) (g B : Nat) (w : World) (e : Ending) (w' : World) : Prop := e = .returned (.tuple #[]) ∧ OwnL 3 1 eInt B w' (.slice (some ⟨g, 0, none⟩) 256 256) r ∧ w.grownBy w' (some g)
set_option maxHeartbeats 1000000 in
set_option maxRecDepth 100000 in
theorem putC_any (k : Nat) (n : Int) (g gn g0 ga B : Nat) (nx : List Int) (w : World) (hk : k < 256) (Hl : Hid (nx.length = 256)) (own : OwnL 3 1 eInt B w (.slice (some ⟨g, 0, none⟩) 256 256) nx) (bn : Blk w gn 24 #[.slice (some ⟨g, 0, none⟩) 256 256]) (b0 : Blk w g0 3 #[.int .i64 (-1)]) (hg0 : g0 ≠ g) (ba : Blk w ga 114 #[.func (.func 95) #[] #[]]) :
    Calls Try.prog 156 #[.int .i64 k, .int .i64 n, .pointer (some ⟨gn, 0, none⟩), .pointer (some ⟨g0, 0, none⟩), .pointer (some ⟨ga, 0, none⟩)] w (Put (dpPut (-1) min nx k n) g B w) := by
  have hkl : k < nx.length := by rw [Hl.out]; exact hk
  have hgn : gn ≠ g := by intro e; have := own.apart bn (by decide); rw [e] at this; exact this rfl
  have hga : ga ≠ g := by intro e; have := own.apart ba (by decide); rw [e] at this; exact this rfl
  have zk := own.slot lenInt Nat.one_pos hkl 0 (.int .i64 nx[k]) rfl
  rw [Nat.mul_one, Nat.add_zero] at zk
  have hv : nx.getD k 0 = nx[k] := by rw [List.getD_eq_getElem?_getD, List.getElem?_eq_getElem hkl, Option.getD_some]
  have hsf := own.free
  have zn := bn.c1
  have z0 := b0.c1
  have za := ba.c1
  have hkI : (k : Int) < 256 := by omega
  have hk0 : (0 : Int) ≤ (k : Int) := by omega
  have hR : dpPut (-1) min nx k n = nx.set k (if nx[k] = -1 then n else min nx[k] n) := by unfold dpPut; rw [hv]
  rw [hR]
  obtain ⟨v, hve⟩ : ∃ v, v = nx[k] := ⟨_, rfl⟩
  rw [← hve] at zk ⊢
  clear hv hR hve
  by_cases h1 : v = -1
  · subst h1
    rw [if_pos rfl]
    go_enter Try.func156, Try.ntmps156
    go_wp2_with fail
    go_quiet (fail)
    go_wp2
    go_end0
    exact ⟨rfl, (own.drewN _).store1 lenInt hkl rfl, gr_set (gr_drewN (World.grownBy.refl _ _) _) _ _⟩
  · have h1b : (v == -1) = false := by simpa using h1
    rw [if_neg h1]
    have H1 := Lib.hid h1; clear h1
    go_enter Try.func156, Try.ntmps156
    go_wp2_with fail
    go_quiet (fail)
    have zkd : (w.drewN nq).cell? ⟨g, k, none⟩ = some (.int .i64 v) := zk
    have znd : (w.drewN nq).cell? ⟨gn, 0, none⟩ = some (.slice (some ⟨g, 0, none⟩) 256 256) := zn
    have zad : (w.drewN nq).cell? ⟨ga, 0, none⟩ = some (.func (.func 95) #[] #[]) := za
    have hsfd : ∀ j, (w.drewN nq).frozen? ⟨g, j, none⟩ = false := hsf
    have ownd := own.drewN nq
    have hgr := gr_drewN (World.grownBy.refl w (some g)) nq
    clear zk zn za hsf
    obtain ⟨wd, hwd⟩ : ∃ wd, wd = w.drewN nq := ⟨_, rfl⟩
    rw [← hwd] at zkd znd zad hsfd ownd hgr ⊢
    have hgn2 := hgn.symm
    have hga2 := hga.symm
    clear hwd
    go_wp2_with fail
    refine wp_region_held_drew (S := (fun w' => w'.cell? ⟨gn, 0, none⟩ = some (.slice (some ⟨g, 0, none⟩) 256 256) ∧ w'.cell? ⟨ga, 0, none⟩ = some (.func (.func 95) #[] #[]))) (by kernel_rfl) ?_ (fun hHeld => ?_)
    · (try dsimp only); go_keep
    refine wpAnyH_take (i := 0) (oi := { dst := some 17, op := Go.Op.load 24 (Go.Operand.tmp 2), type := 24, pos := "l07_count.go:20", after := #[], guard := none }) (v := ?_) rfl (by kernel_rfl) (by kernel_rfl) (by kernel_rfl) (fun _ _ _ h => h) (Or.inl ⟨by rfl, ?_⟩) (by assumption) ?_
    rotate_left 1
    · (intro wS hSw; (try dsimp only at hSw); go_simp; (all_goals with_reducible rfl))
    simp only [Act.put, List.setIfInBounds_toArray, List.set_cons_zero, List.set_cons_succ]
    refine wpAnyH_take (i := 1) (oi := { dst := some 18, op := Go.Op.move (Go.Operand.tmp 0), type := 3, pos := "l07_count.go:20", after := #[], guard := none }) (v := ?_) rfl (by kernel_rfl) (by kernel_rfl) (by kernel_rfl) (fun _ _ _ h => h) (Or.inl ⟨by rfl, ?_⟩) (by assumption) ?_
    rotate_left 1
    · (intro wS hSw; (try dsimp only at hSw); go_simp; (all_goals with_reducible rfl))
    simp only [Act.put, List.setIfInBounds_toArray, List.set_cons_zero, List.set_cons_succ]
    refine wpAnyH_take (i := 2) (oi := { dst := some 19, op := Go.Op.load 114 (Go.Operand.tmp 4), type := 114, pos := "l07_count.go:20", after := #[], guard := none }) (v := ?_) rfl (by kernel_rfl) (by kernel_rfl) (by kernel_rfl) (fun _ _ _ h => h) (Or.inl ⟨by rfl, ?_⟩) (by assumption) ?_
    rotate_left 1
    · (intro wS hSw; (try dsimp only at hSw); go_simp; (all_goals with_reducible rfl))
    simp only [Act.put, List.setIfInBounds_toArray, List.set_cons_zero, List.set_cons_succ]
    refine wpAnyH_take (i := 3) (oi := { dst := some 20, op := Go.Op.load 24 (Go.Operand.tmp 2), type := 24, pos := "l07_count.go:20", after := #[], guard := none }) (v := ?_) rfl (by kernel_rfl) (by kernel_rfl) (by kernel_rfl) (fun _ _ _ h => h) (Or.inl ⟨by rfl, ?_⟩) (by assumption) ?_
    rotate_left 1
    · (intro wS hSw; (try dsimp only at hSw); go_simp; (all_goals with_reducible rfl))
    simp only [Act.put, List.setIfInBounds_toArray, List.set_cons_zero, List.set_cons_succ]
    refine wpAnyH_take (i := 4) (oi := { dst := some 21, op := Go.Op.move (Go.Operand.tmp 0), type := 3, pos := "l07_count.go:20", after := #[], guard := none }) (v := ?_) rfl (by kernel_rfl) (by kernel_rfl) (by kernel_rfl) (fun _ _ _ h => h) (Or.inl ⟨by rfl, ?_⟩) (by assumption) ?_
    rotate_left 1
    · (intro wS hSw; (try dsimp only at hSw); go_simp; (all_goals with_reducible rfl))
    simp only [Act.put, List.setIfInBounds_toArray, List.set_cons_zero, List.set_cons_succ]
    refine wpAnyH_take (i := 5) (oi := { dst := some 22, op := Go.Op.indexAddr 24 (Go.Operand.tmp 20) (Go.Operand.tmp 21), type := 0, pos := "l07_count.go:20", after := #[{ on := 3, ground := Go.Ground.data }, { on := 4, ground := Go.Ground.data }], guard := none }) (v := ?_) rfl (by kernel_rfl) (by kernel_rfl) (by kernel_rfl) (fun _ _ _ h => h) (Or.inl ⟨by rfl, ?_⟩) (by assumption) ?_
    rotate_left 1
    · (intro wS hSw; (try dsimp only at hSw); go_simp; (all_goals with_reducible rfl))
    simp only [Act.put, List.setIfInBounds_toArray, List.set_cons_zero, List.set_cons_succ]
    refine wpAnyH_take (i := 7) (oi := { dst := some 24, op := Go.Op.move (Go.Operand.tmp 1), type := 3, pos := "l07_count.go:20", after := #[], guard := none }) (v := ?_) rfl (by kernel_rfl) (by kernel_rfl) (by kernel_rfl) (fun _ _ _ h => h) (Or.inl ⟨by rfl, ?_⟩) (by assumption) ?_
    rotate_left 1
    · (intro wS hSw; (try dsimp only at hSw); go_simp; (all_goals with_reducible rfl))
    simp only [Act.put, List.setIfInBounds_toArray, List.set_cons_zero, List.set_cons_succ]
    refine wpAnyH_ready (rs := [6]) (by kernel_rfl) (by simp) ?_
    refine AllReadyH.cons (o := { dst := some 23, op := Go.Op.load 3 (Go.Operand.tmp 22), type := 3, pos := "l07_count.go:20", after := #[{ on := 5, ground := Go.Ground.data }], guard := none }) rfl (fun K hK => ?_) AllReadyH.nil
    go_simp
    refine hK.out _ _ ?_ (fun hHeld => ?_)
    · (try dsimp only); go_keep
    clear hK K
    (try simp only [Act.put, List.setIfInBounds_toArray, List.set_cons_zero, List.set_cons_succ])
    refine wpAnyH_ready (rs := [8]) (by kernel_rfl) (by simp) ?_
    refine AllReadyH.cons (o := { dst := some 25, op := Go.Op.call { callee := Go.Callee.value (Go.Operand.tmp 19), args := #[Go.Operand.tmp 23, Go.Operand.tmp 24], argTypes := #[3, 3] }, type := 3, pos := "l07_count.go:20", after := #[{ on := 2, ground := Go.Ground.data }, { on := 6, ground := Go.Ground.data }, { on := 7, ground := Go.Ground.data }], guard := none }) rfl (fun K hK => ?_) AllReadyH.nil
    go_simp
    (go_at_call 95; go_must (refine (minC_any v n _).mono ?_; rintro e wX ⟨rfl, rfl⟩); (try go_wp2_with fail))
    refine hK.out _ _ ?_ (fun hHeld => ?_)
    · (try dsimp only); go_keep
    clear hK K
    (try simp only [Act.put, List.setIfInBounds_toArray, List.set_cons_zero, List.set_cons_succ])
    refine wpAnyH_take (i := 9) (oi := { dst := some 26, op := Go.Op.indexAddr 24 (Go.Operand.tmp 17) (Go.Operand.tmp 18), type := 0, pos := "l07_count.go:20", after := #[{ on := 0, ground := Go.Ground.data }, { on := 1, ground := Go.Ground.data }, { on := 0, ground := Go.Ground.phase }, { on := 1, ground := Go.Ground.phase }, { on := 2, ground := Go.Ground.phase }, { on := 3, ground := Go.Ground.phase }, { on := 4, ground := Go.Ground.phase }, { on := 5, ground := Go.Ground.phase }, { on := 6, ground := Go.Ground.phase }, { on := 7, ground := Go.Ground.phase }, { on := 8, ground := Go.Ground.phase }], guard := none }) (v := ?_) rfl (by kernel_rfl) (by kernel_rfl) (by kernel_rfl) (fun _ _ _ h => h) (Or.inl ⟨by rfl, ?_⟩) (by assumption) ?_
    rotate_left 1
    · (intro wS hSw; (try dsimp only at hSw); go_simp; (all_goals with_reducible rfl))
    simp only [Act.put, List.setIfInBounds_toArray, List.set_cons_zero, List.set_cons_succ]
    refine wpAnyH_ready (rs := [10]) (by kernel_rfl) (by simp) ?_
    refine AllReadyH.cons (o := { dst := none, op := Go.Op.store 3 (Go.Operand.tmp 26) (Go.Operand.tmp 25), type := 0, pos := "l07_count.go:20", after := #[{ on := 9, ground := Go.Ground.data }, { on := 8, ground := Go.Ground.data }, { on := 8, ground := Go.Ground.chain }, { on := 0, ground := Go.Ground.phase }, { on := 1, ground := Go.Ground.phase }, { on := 2, ground := Go.Ground.phase }, { on := 3, ground := Go.Ground.phase }, { on := 4, ground := Go.Ground.phase }, { on := 5, ground := Go.Ground.phase }, { on := 6, ground := Go.Ground.phase }, { on := 7, ground := Go.Ground.phase }, { on := 8, ground := Go.Ground.phase }], guard := none }) rfl (fun K hK => ?_) AllReadyH.nil
    go_simp
    refine hK.out _ _ ?_ (fun hHeld => ?_)
    · (try dsimp only); go_keep
    clear hK K
    (try simp only [Act.put, List.setIfInBounds_toArray, List.set_cons_zero, List.set_cons_succ])
    refine wpAnyH_done (by kernel_rfl) ?_ _
    go_wp2
    go_end0
    exact ⟨rfl, (ownd.drewN 1).store1 lenInt hkl rfl, gr_set (gr_drewN hgr 1) _ _⟩
end Go.Proofs.Ytkbndchgmokabaa
