/- The whole walk of the law on ParseAct. Conditions: the library's table of powers and its error for a text that is no number, as its text lays them. -/
import Derived.Test.YtklgbjgjojelbaaDoorPActS
namespace Go.Proofs.YtklgbjgjojelbaaDoor
open Go.ChangeShapes Go.WideShapes Go.ChangeAt Go.RowKit
set_option linter.unusedVariables false
set_option linter.unusedSimpArgs false

set_option maxHeartbeats 4000000 in
set_option maxRecDepth 100000 in
theorem FnExactParseAct_walk (w : World) (ht : Tab w) (hs : Syn w) (s : ByteArray) (hm : s.size ≤ maxLen) : Calls Tryd.prog 3 #[.string s] w (Ret (.bool true) w) := by
  by_cases hl : s.size ≤ 1048576
  · have hli : ¬ ((1048576 : Int) < (s.size : Int)) := by omega
    obtain ⟨k, hk⟩ : ∃ k, k = (paX s).1 := ⟨_, rfl⟩
    obtain ⟨a, ha⟩ : ∃ k, k = (paX s).2.1 := ⟨_, rfl⟩
    obtain ⟨b, hb⟩ : ∃ k, k = (paX s).2.2 := ⟨_, rfl⟩
    obtain ⟨o, ho⟩ : ∃ o, o = paB s := ⟨_, rfl⟩
    have hv : paV s = .tuple #[.agg #[.int .i64 k, .int .i64 a, .int .i64 b], .bool o] := by unfold paV; rw [hk, ha, hb, ho]
    have cI : ∀ W : World, Tab W → Syn W → Calls Tryd.prog 5 #[.string s] W (Ret (.tuple #[.agg #[.int .i64 k, .int .i64 a, .int .i64 b], .bool o]) W) := fun W h1 h2 => by rw [← hv]; exact paI_any s W h1 h2
    have cS : ∀ W : World, Calls Tryd.prog 4 #[.string s] W (Ret (.tuple #[.agg #[.int .i64 k, .int .i64 a, .int .i64 b], .bool o]) W) := fun W => by rw [← hv]; exact paS_any s W
    have cE : ∀ W : World, Calls Tryd.prog 6 #[.agg #[.int .i64 k, .int .i64 a, .int .i64 b], .agg #[.int .i64 k, .int .i64 a, .int .i64 b]] W (Ret (.bool true) W) := fun W => by
      have := eqAct_any (k, a, b) (k, a, b) W
      rw [beq_self_eq_true] at this
      exact this
    have HT := Lib.hid ht; have HS := Lib.hid hs; have HI := Lib.hid cI; have HSp := Lib.hid cS; have HE := Lib.hid cE
    clear ht hs cI cS cE hk ha hb ho hv
    go_enter Tryd.func3, Tryd.ntmps3
    go_wp2_with fail
    refine (HSp.out _).mono ?_
    rintro e w1 ⟨rfl, hb1⟩
    have B1 := hb1.al (.cells #[.int .i64 0, .int .i64 0, .int .i64 0] 23)
    have b1 := Blk.new_ w1 23 #[.int .i64 0, .int .i64 0, .int .i64 0]
    have hg1 := hb1.size
    obtain ⟨g1, hg1'⟩ : ∃ g, g = w1.heap.size := ⟨_, rfl⟩
    have HG1 := Lib.hid hg1'; rw [← hg1'] at b1 hg1; clear hg1'
    go_wp2_with ((try rw [← HG1.out]); refine wpList_storeRowP rfl 23 _ _ rfl g1 #[.int .i64 k, .int .i64 a, .int .i64 b] rfl rfl _ _ b1 (by kernel_rfl) rfl (by simp [Value.oneCell']) ?_; intro w2 b2 hg2; have B2 := B1.grown hg2 B1.size (fun k hk => by injection hk with hk; omega))
    refine (HI.out _ (HT.out.below B2) (HS.out.below B2)).mono ?_
    rintro e w3 ⟨rfl, hb3⟩
    have B3 := (B2.tr hb3).al (.cells #[.int .i64 0, .int .i64 0, .int .i64 0] 23)
    have b3 := Blk.new_ w3 23 #[.int .i64 0, .int .i64 0, .int .i64 0]
    have c3 := (b2.bl hb3).alloc (.cells #[.int .i64 0, .int .i64 0, .int .i64 0] 23)
    have hg3 := (B2.tr hb3).size
    have hl3 := (b2.bl hb3).lt
    go_wp2_with (refine wpList_storeRowP rfl 23 _ _ rfl w3.heap.size #[.int .i64 k, .int .i64 a, .int .i64 b] rfl rfl _ _ b3 (by kernel_rfl) rfl (by simp [Value.oneCell']) ?_; intro w4 b4 hg4; have B4 := B3.grown hg4 B3.size (fun k hk => by injection hk with hk; omega); have c4 := c3.grown hg4 (by simp; omega); have x_0 := b4.cell 0; have x_1 := b4.cell 1; have x_2 := b4.cell 2; simp only [List.getElem?_toArray, List.getElem?_cons_zero, List.getElem?_cons_succ] at x_0 x_1 x_2; have y_0 := c4.cell 0; have y_1 := c4.cell 1; have y_2 := c4.cell 2; simp only [List.getElem?_toArray, List.getElem?_cons_zero, List.getElem?_cons_succ] at y_0 y_1 y_2)
    refine (HE.out _).mono ?_
    rintro e w5 ⟨rfl, hb5⟩
    have B5 := B4.tr hb5
    go_wp2
    all_goals go_ret
    all_goals exact ⟨rfl, B5⟩
  · have hli : (1048576 : Int) < (s.size : Int) := by omega
    go_enter Tryd.func3, Tryd.ntmps3
    go_wp2
    go_ret
    exact ⟨rfl, Below.refl _ _⟩
end Go.Proofs.YtklgbjgjojelbaaDoor
