/- A new floor, by the reference: the walk. Conditions: sizes. -/
import Derived.Test.YtmmeomjclfgljaaNewI
import Derived.Test.YtmmeomjclfgljaaFirstS
import Derived.Test.YtmmeomjclfgljaaFlCopy
namespace Go.Proofs.Ytmmeomjclfgljaa
open Go.ChangeShapes Go.WideShapes Go.ChangeAt Go.RowKit
set_option linter.unusedVariables false
set_option linter.unusedSimpArgs false
set_option maxHeartbeats 4000000 in
set_option maxRecDepth 100000 in
theorem newS_any (v : Value) (rows : List Int) (w : World) (h : Rd 1 RInt w v rows) (hl : Small rows.length) : Calls Try.prog 48 #[.agg #[v]] w (RetFlB (newFl rows) (tileB rows) w) := by
  obtain ⟨A, c, rfl, hc, hm⟩ := h.form
  have B0 := ((Below.refl w.heap.size w).al (.cells #[.slice A rows.length c] 26)).al (.cells #[.slice none 0 0, .slice none 0 0, .slice none 0 0, .slice none 0 0] 30)
  have bX := (Blk.new_ w 26 #[.slice A rows.length c]).alloc (.cells #[.slice none 0 0, .slice none 0 0, .slice none 0 0, .slice none 0 0] 30)
  have bR := Blk.new2 (w.alloc (.cells #[.slice A rows.length c] 26)) 30 #[.slice none 0 0, .slice none 0 0, .slice none 0 0, .slice none 0 0] (w.heap.size + 1) (by simp)
  obtain ⟨F, hF⟩ : ∃ F, F = firstRows rows := ⟨_, rfl⟩
  obtain ⟨b, hb⟩ : ∃ b, b = tileB rows := ⟨_, rfl⟩
  have hFl : F.length ≤ 64 := by rw [hF]; exact firstRows_len rows
  have hFs : Small F.length := by unfold Small; omega
  have hsx : Small4 (rows, F, F, []) := ⟨hl, hFs, hFs, by unfold Small; simp⟩
  have CF : ∀ (u : Value) (w : World), Rd 1 RInt w u rows → Calls Try.prog 102 #[.agg #[u]] w (RetDB F b w) := fun u w k1 => by rw [hF, hb]; exact firstTS_any u rows w k1
  have hN0 : b = false → newFl rows = ([], [], [], []) := fun q => by
    rw [hb] at q; unfold tileB at q
    unfold newFl; rw [if_pos (by simpa using q)]
  have hN1 : b = true → newFl rows = (rows, F, F, []) := fun q => by
    rw [hb] at q; unfold tileB at q
    unfold newFl; rw [if_neg (by simpa using q), ← hF]
  obtain ⟨y, hy⟩ : ∃ y, y = newFl rows := ⟨_, rfl⟩
  rw [← hy] at hN0 hN1 ⊢
  rw [← hb]
  have HN0 := Lib.hid hN0; have HN1 := Lib.hid hN1
  clear hF hb hN0 hN1 hy
  have H0 : ∀ w : World, Rd 2 RPair w (.slice none 0 0) ([] : List Cl) := fun w => (OwnL.nil_ (E := 63) (size := 2) (enc := ePair) (B := 0) (w := w)).rd lenCell (by decide)
  go_enter Try.func48, Try.ntmps48
  go_wp2_with fail
  refine (CF _ _ (h.below RE.stays B0)).mono ?_
  rintro e w1 ⟨F1, f1, rfl, oF, hb1⟩
  have B1 := B0.tr hb1
  have bX1 := bX.bl hb1
  have bR1 := bR.bl hb1
  have oF := oF.mono B0.size
  obtain ⟨gX, hgX⟩ : ∃ g, g = w.heap.size := ⟨_, rfl⟩
  obtain ⟨gR, hgR'⟩ : ∃ g, g = w.heap.size + 1 := ⟨_, rfl⟩
  have hgR : w.heap.size ≤ gR := by omega
  rw [← hgR'] at bR1 ⊢
  rw [← hgX] at bX1 ⊢
  clear hgX hgR' hb1 B0 bX bR
  cases b
  · obtain rfl : ([], [], [], []) = y := (HN0.out rfl).symm
    go_wp2_with (refine wpList_storeRowN rfl 30 _ _ rfl gR #[.slice none 0 0, .slice none 0 0, .slice none 0 0, .slice none 0 0] rfl rfl _ _ bR1 (by kernel_rfl) rfl (by simp [Value.oneCell']) ?_; intro wE bE hgE)
    have BE := B1.grown hgE B1.size (fun k hk => by injection hk with hk; subst hk; exact hgR)
    have q_0 := bE.cell 0
    have q_1 := bE.cell 1
    have q_2 := bE.cell 2
    have q_3 := bE.cell 3
    simp only [List.getElem?_toArray, List.getElem?_cons_zero, List.getElem?_cons_succ] at q_0 q_1 q_2 q_3
    refine bodyPost_ret (v := .tuple #[.agg #[.slice none 0 0, .slice none 0 0, .slice none 0 0, .slice none 0 0], .bool false]) (by simp [results, Try.results48, go_sem, q_0, q_1, q_2, q_3]) rfl ⟨none, 0, none, 0, none, 0, none, 0, rfl, own_zero _ _, BE⟩
  · obtain rfl : (rows, F, F, []) = y := (HN1.out rfl).symm
    have z0 := bX1.c1
    go_wp2_with fail
    refine (copyFlS_any _ _ _ _ (rows, F, F, []) _ (h.below RE.stays B1) (oF.rd lenDom (by decide)) (oF.rd lenDom (by decide)) (H0 _) hsx).mono ?_
    rintro e w2 ⟨A1, e1, A2, e2, A3, e3, A4, e4, rfl, oA, hb2⟩
    have oA := oA.mono B1.size
    have B2 := B1.tr hb2
    have bR2 := bR1.bl hb2
    clear z0 hb2 oF B1 bX1 bR1
    go_wp2_with (refine wpList_storeRowN rfl 30 _ _ rfl gR #[.slice A1 rows.length e1, .slice A2 F.length e2, .slice A3 F.length e3, .slice A4 0 e4] rfl rfl _ _ bR2 (by kernel_rfl) rfl (by simp [Value.oneCell']) ?_; intro wE bE hgE)
    have oE := OwnFl.rowI oA bR2 (by decide) (by decide) (by decide) hgE
    have BE := B2.grown hgE B2.size (fun k hk => by injection hk with hk; subst hk; exact hgR)
    have q_0 := bE.cell 0
    have q_1 := bE.cell 1
    have q_2 := bE.cell 2
    have q_3 := bE.cell 3
    simp only [List.getElem?_toArray, List.getElem?_cons_zero, List.getElem?_cons_succ] at q_0 q_1 q_2 q_3
    refine bodyPost_ret (v := .tuple #[.agg #[.slice A1 rows.length e1, .slice A2 F.length e2, .slice A3 F.length e3, .slice A4 0 e4], .bool true]) (by simp [results, Try.results48, go_sem, q_0, q_1, q_2, q_3]) rfl ⟨A1, e1, A2, e2, A3, e3, A4, e4, rfl, oE, BE⟩
end Go.Proofs.Ytmmeomjclfgljaa
