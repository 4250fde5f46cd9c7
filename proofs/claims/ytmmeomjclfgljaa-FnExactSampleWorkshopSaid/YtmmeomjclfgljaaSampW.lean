/- The sample workshop, on both sides: the walk, with OpenWorkshop's answer as given. No conditions. -/
import Derived.Test.YtmmeomjclfgljaaNewI
import Derived.Test.YtmmeomjclfgljaaK3
import Derived.Test.YtmmeomjclfgljaaLawBase
namespace Go.Proofs.Ytmmeomjclfgljaa
open Go.ChangeShapes Go.WideShapes Go.ChangeAt Go.RowKit
set_option linter.unusedVariables false
set_option linter.unusedSimpArgs false
set_option maxHeartbeats 4000000 in
set_option maxRecDepth 100000 in
theorem sampI_any (z : Fl) (st : Int) (b : Bool) (w : World)
    (CO : ∀ (u : Value) (w : World), Rd 1 RInt w u (rectRows 4 4) → Calls Try.prog 11 #[.agg #[u], .int .i64 12] w (RetWkB z st 0 0 b w)) :
    Calls Try.prog 18 #[] w (RetWk z st 0 0 w) := by
  have CR : ∀ (w : World), Calls Try.prog 61 #[.int .i64 4, .int .i64 4] w (RetReg (rectRows 4 4) w) := fun w => rectI_yes 4 4 w ⟨by decide, by decide⟩ ⟨by decide, by decide⟩
  obtain ⟨y1, y2, y3, y4⟩ := z
  obtain ⟨rr, hrr⟩ : ∃ rr, rr = rectRows 4 4 := ⟨_, rfl⟩
  rw [← hrr] at CO CR
  clear hrr
  have B0 := (Below.refl w.heap.size w).al (.cells #[.slice none 0 0, .slice none 0 0, .slice none 0 0, .slice none 0 0, .int .i64 0, .int .i64 0, .int .i64 0] 32)
  have bR := Blk.new_ w 32 #[.slice none 0 0, .slice none 0 0, .slice none 0 0, .slice none 0 0, .int .i64 0, .int .i64 0, .int .i64 0]
  go_enter Try.func18, Try.ntmps18
  go_wp2_with fail
  refine (CR _).mono ?_
  rintro e w1 ⟨P, q, rfl, oP, hb1⟩
  go_wp2_with fail
  refine (CO _ _ (oP.rd lenInt (by decide))).mono ?_
  rintro e w2 ⟨A1, c1, A2, c2, A3, c3, A4, c4, rfl, oY, hb2⟩
  have oY := (oY.mono (B0.tr hb1).size).alloc (.cells #[.slice none 0 0, .slice none 0 0, .slice none 0 0, .slice none 0 0, .int .i64 0, .int .i64 0, .int .i64 0] 32)
  have B1 := ((B0.tr hb1).tr hb2).al (.cells #[.slice none 0 0, .slice none 0 0, .slice none 0 0, .slice none 0 0, .int .i64 0, .int .i64 0, .int .i64 0] 32)
  have bR1 := ((bR.bl hb1).bl hb2).alloc (.cells #[.slice none 0 0, .slice none 0 0, .slice none 0 0, .slice none 0 0, .int .i64 0, .int .i64 0, .int .i64 0] 32)
  have bO := Blk.new_ w2 32 #[.slice none 0 0, .slice none 0 0, .slice none 0 0, .slice none 0 0, .int .i64 0, .int .i64 0, .int .i64 0]
  have hgO : w.heap.size ≤ w2.heap.size := ((B0.tr hb1).tr hb2).size
  have hRl := ((bR.bl hb1).bl hb2).lt
  have hgR : w.heap.size ≤ w.heap.size := Nat.le_refl _
  clear hb1 hb2 B0 bR
  go_wp2_with (first | (refine wpList_storeRowN rfl 32 _ _ rfl w2.heap.size #[.slice A1 y1.length c1, .slice A2 y2.length c2, .slice A3 y3.length c3, .slice A4 y4.length c4, .int .i64 st, .int .i64 0, .int .i64 0] rfl rfl _ _ bO (by kernel_rfl) rfl (by simp [Value.oneCell']) ?_; intro wS bS hgS; have oS := OwnFl.rowI oY bO (by decide) (by decide) (by decide) hgS; have bRS := bR1.grown hgS (by simp; omega); have BS := B1.grown hgS B1.size (fun k hk => by injection hk with hk; subst hk; exact hgO); have y_0 := bS.cell 0; have y_1 := bS.cell 1; have y_2 := bS.cell 2; have y_3 := bS.cell 3; have y_4 := bS.cell 4; have y_5 := bS.cell 5; have y_6 := bS.cell 6; simp only [List.getElem?_toArray, List.getElem?_cons_zero, List.getElem?_cons_succ] at y_0 y_1 y_2 y_3 y_4 y_5 y_6) | (refine wpList_storeRowN rfl 32 _ _ rfl w.heap.size #[.slice A1 y1.length c1, .slice A2 y2.length c2, .slice A3 y3.length c3, .slice A4 y4.length c4, .int .i64 st, .int .i64 0, .int .i64 0] rfl rfl _ _ bRS (by kernel_rfl) rfl (by simp [Value.oneCell']) ?_; intro wE bE hgE))
  have oE : OwnFl w.heap.size wE _ _ _ _ _ := OwnFl.rowI (oS) bRS (by decide) (by decide) (by decide) hgE
  have BE := BS.grown hgE BS.size (fun k hk => by injection hk with hk; subst hk; exact hgR)
  have q_0 := bE.cell 0
  have q_1 := bE.cell 1
  have q_2 := bE.cell 2
  have q_3 := bE.cell 3
  have q_4 := bE.cell 4
  have q_5 := bE.cell 5
  have q_6 := bE.cell 6
  simp only [List.getElem?_toArray, List.getElem?_cons_zero, List.getElem?_cons_succ] at q_0 q_1 q_2 q_3 q_4 q_5 q_6
  refine bodyPost_ret (v := .agg #[.slice A1 y1.length c1, .slice A2 y2.length c2, .slice A3 y3.length c3, .slice A4 y4.length c4, .int .i64 st, .int .i64 0, .int .i64 0]) (by simp [results, Try.results18, go_sem, q_0, q_1, q_2, q_3, q_4, q_5, q_6]) rfl ⟨A1, c1, A2, c2, A3, c3, A4, c4, rfl, oE, BE⟩
set_option maxHeartbeats 4000000 in
set_option maxRecDepth 100000 in
theorem sampS_any (z : Fl) (st : Int) (b : Bool) (w : World)
    (CO : ∀ (u : Value) (w : World), Rd 1 RInt w u (rectRows 4 4) → Calls Try.prog 9 #[.agg #[u], .int .i64 12] w (RetWkB z st 0 0 b w)) :
    Calls Try.prog 17 #[] w (RetWk z st 0 0 w) := by
  have CR : ∀ (w : World), Calls Try.prog 60 #[.int .i64 4, .int .i64 4] w (RetReg (rectRows 4 4) w) := fun w => rectS_yes 4 4 w ⟨by decide, by decide⟩ ⟨by decide, by decide⟩
  obtain ⟨y1, y2, y3, y4⟩ := z
  obtain ⟨rr, hrr⟩ : ∃ rr, rr = rectRows 4 4 := ⟨_, rfl⟩
  rw [← hrr] at CO CR
  clear hrr
  have B0 := (Below.refl w.heap.size w).al (.cells #[.slice none 0 0, .slice none 0 0, .slice none 0 0, .slice none 0 0, .int .i64 0, .int .i64 0, .int .i64 0] 32)
  have bR := Blk.new_ w 32 #[.slice none 0 0, .slice none 0 0, .slice none 0 0, .slice none 0 0, .int .i64 0, .int .i64 0, .int .i64 0]
  go_enter Try.func17, Try.ntmps17
  go_wp2_with fail
  refine (CR _).mono ?_
  rintro e w1 ⟨P, q, rfl, oP, hb1⟩
  go_wp2_with fail
  refine (CO _ _ (oP.rd lenInt (by decide))).mono ?_
  rintro e w2 ⟨A1, c1, A2, c2, A3, c3, A4, c4, rfl, oY, hb2⟩
  have oY := (oY.mono (B0.tr hb1).size).alloc (.cells #[.slice none 0 0, .slice none 0 0, .slice none 0 0, .slice none 0 0, .int .i64 0, .int .i64 0, .int .i64 0] 32)
  have B1 := ((B0.tr hb1).tr hb2).al (.cells #[.slice none 0 0, .slice none 0 0, .slice none 0 0, .slice none 0 0, .int .i64 0, .int .i64 0, .int .i64 0] 32)
  have bR1 := ((bR.bl hb1).bl hb2).alloc (.cells #[.slice none 0 0, .slice none 0 0, .slice none 0 0, .slice none 0 0, .int .i64 0, .int .i64 0, .int .i64 0] 32)
  have bO := Blk.new_ w2 32 #[.slice none 0 0, .slice none 0 0, .slice none 0 0, .slice none 0 0, .int .i64 0, .int .i64 0, .int .i64 0]
  have hgO : w.heap.size ≤ w2.heap.size := ((B0.tr hb1).tr hb2).size
  have hRl := ((bR.bl hb1).bl hb2).lt
  have hgR : w.heap.size ≤ w.heap.size := Nat.le_refl _
  clear hb1 hb2 B0 bR
  go_wp2_with (first | (refine wpList_storeRowN rfl 32 _ _ rfl w2.heap.size #[.slice A1 y1.length c1, .slice A2 y2.length c2, .slice A3 y3.length c3, .slice A4 y4.length c4, .int .i64 st, .int .i64 0, .int .i64 0] rfl rfl _ _ bO (by kernel_rfl) rfl (by simp [Value.oneCell']) ?_; intro wS bS hgS; have oS := OwnFl.rowI oY bO (by decide) (by decide) (by decide) hgS; have bRS := bR1.grown hgS (by simp; omega); have BS := B1.grown hgS B1.size (fun k hk => by injection hk with hk; subst hk; exact hgO); have y_0 := bS.cell 0; have y_1 := bS.cell 1; have y_2 := bS.cell 2; have y_3 := bS.cell 3; have y_4 := bS.cell 4; have y_5 := bS.cell 5; have y_6 := bS.cell 6; simp only [List.getElem?_toArray, List.getElem?_cons_zero, List.getElem?_cons_succ] at y_0 y_1 y_2 y_3 y_4 y_5 y_6) | (refine wpList_storeRowN rfl 32 _ _ rfl w.heap.size #[.slice A1 y1.length c1, .slice A2 y2.length c2, .slice A3 y3.length c3, .slice A4 y4.length c4, .int .i64 st, .int .i64 0, .int .i64 0] rfl rfl _ _ bRS (by kernel_rfl) rfl (by simp [Value.oneCell']) ?_; intro wE bE hgE))
  have oE : OwnFl w.heap.size wE _ _ _ _ _ := OwnFl.rowI (oS) bRS (by decide) (by decide) (by decide) hgE
  have BE := BS.grown hgE BS.size (fun k hk => by injection hk with hk; subst hk; exact hgR)
  have q_0 := bE.cell 0
  have q_1 := bE.cell 1
  have q_2 := bE.cell 2
  have q_3 := bE.cell 3
  have q_4 := bE.cell 4
  have q_5 := bE.cell 5
  have q_6 := bE.cell 6
  simp only [List.getElem?_toArray, List.getElem?_cons_zero, List.getElem?_cons_succ] at q_0 q_1 q_2 q_3 q_4 q_5 q_6
  refine bodyPost_ret (v := .agg #[.slice A1 y1.length c1, .slice A2 y2.length c2, .slice A3 y3.length c3, .slice A4 y4.length c4, .int .i64 st, .int .i64 0, .int .i64 0]) (by simp [results, Try.results17, go_sem, q_0, q_1, q_2, q_3, q_4, q_5, q_6]) rfl ⟨A1, c1, A2, c2, A3, c3, A4, c4, rfl, oE, BE⟩
end Go.Proofs.Ytmmeomjclfgljaa
