/- A new floor, by the program: the walk. Conditions: sizes. -/
import Derived.Test.YtmmeomjclfgljaaFirstI
import Derived.Test.YtmmeomjclfgljaaCopyDm
import Derived.Test.YtmmeomjclfgljaaLawBase
namespace Go.Proofs.Ytmmeomjclfgljaa
open Go.ChangeShapes Go.WideShapes Go.ChangeAt Go.RowKit
set_option linter.unusedVariables false
set_option linter.unusedSimpArgs false

def newFl (rows : List Int) : Fl := if cntRows rows = 0 then ([], [], [], []) else (rows, firstRows rows, firstRows rows, [])
theorem new_small {rows : List Int} (h : Small rows.length) : Small4 (newFl rows) := by
  have := firstRows_len rows
  unfold newFl
  split
  · exact ⟨by unfold Small; simp, by unfold Small; simp, by unfold Small; simp, by unfold Small; simp⟩
  · exact ⟨h, by unfold Small; simp only; omega, by unfold Small; simp only; omega, by unfold Small; simp⟩
theorem wpList_storeRowN {P : Program} {ops : Array Oper} {rest : List Oper} {o : Oper} {a : Act} {w : World} {Q : Exit → Act → World → Prop} (hgd : o.guard = none) (ty : TypeId) (x y : Operand) (ho : o.op = .store ty x y)
    (g : Nat) (cells : Array Value) (hx : a.eval x = .pointer (some ⟨g, 0, none⟩)) (hy : a.eval y = .agg cells)
    (t : TypeId) (old : Array Value) (hg : Blk w g t old) (hi : (P.info? ty).map (·.size) = some cells.size) (hold : old.size = cells.size) (h1 : cells.all (·.oneCell') = true)
    (h : ∀ w', Blk w' g t cells → w.grownBy w' (some g) → wpList P ops Q rest (a.put o.dst undef) w') : wpList P ops Q (o :: rest) a w :=
  wpList_store_row hgd ty x y ho g cells hx hy t old hg hi hold h1 (h _ (setRow_heap w g old cells t (0, 0) hg) (gr_row cells))
theorem own_zero (B : Nat) (w : World) : OwnFl B w (.slice none 0 0) (.slice none 0 0) (.slice none 0 0) (.slice none 0 0) ([], [], [], []) :=
  ⟨OwnL.nil_, OwnL.nil_, OwnL.nil_, OwnL.nil_, fun g q => by simp [Value.ownBlock] at q⟩
set_option maxHeartbeats 4000000 in
set_option maxRecDepth 100000 in
theorem newI_any (v : Value) (rows : List Int) (w : World) (h : Rd 1 RInt w v rows) (hl : Small rows.length) : Calls Try.prog 52 #[.agg #[v]] w (RetFlB (newFl rows) (tileB rows) w) := by
  obtain ⟨A, c, rfl, hc, hm⟩ := h.form
  have B0 := ((Below.refl w.heap.size w).al (.cells #[.slice A rows.length c] 26)).al (.cells #[.slice none 0 0, .slice none 0 0, .slice none 0 0, .slice none 0 0] 30)
  have bX := (Blk.new_ w 26 #[.slice A rows.length c]).alloc (.cells #[.slice none 0 0, .slice none 0 0, .slice none 0 0, .slice none 0 0] 30)
  have bR := Blk.new2 (w.alloc (.cells #[.slice A rows.length c] 26)) 30 #[.slice none 0 0, .slice none 0 0, .slice none 0 0, .slice none 0 0] (w.heap.size + 1) (by simp)
  obtain ⟨F, hF⟩ : ∃ F, F = firstRows rows := ⟨_, rfl⟩
  obtain ⟨b, hb⟩ : ∃ b, b = tileB rows := ⟨_, rfl⟩
  have hFl : F.length ≤ 64 := by rw [hF]; exact firstRows_len rows
  have hFs : Small F.length := by unfold Small; omega
  have CF : ∀ (u : Value) (w : World), Rd 1 RInt w u rows → Calls Try.prog 105 #[.agg #[u]] w (RetDB F b w) := fun u w k1 => by rw [hF, hb]; exact firstTI_any u rows w k1
  have hN0 : b = false → newFl rows = ([], [], [], []) := fun q => by
    rw [hb] at q; unfold tileB at q
    unfold newFl; rw [if_pos (by simpa using q)]
  have hN1 : b = true → newFl rows = (rows, F, F, []) := fun q => by
    rw [hb] at q; unfold tileB at q
    unfold newFl; rw [if_neg (by simpa using q), ← hF]
  obtain ⟨y, hy⟩ : ∃ y, y = newFl rows := ⟨_, rfl⟩
  rw [← hy] at hN0 hN1 ⊢
  rw [← hb]
  have HN0 := Lib.hid hN0; have HN1 := Lib.hid hN1
  clear hF hb hN0 hN1 hy
  go_enter Try.func52, Try.ntmps52
  go_wp2_with fail
  refine (CF _ _ (h.below RE.stays B0)).mono ?_
  rintro e w1 ⟨F1, f1, rfl, oF, hb1⟩
  have B1 := B0.tr hb1
  have bX1 := bX.bl hb1
  have bR1 := bR.bl hb1
  have oF := oF.mono B0.size
  obtain ⟨gX, hgX⟩ : ∃ g, g = w.heap.size := ⟨_, rfl⟩
  obtain ⟨gR, hgR'⟩ : ∃ g, g = w.heap.size + 1 := ⟨_, rfl⟩
  have hgR : w.heap.size ≤ gR := by omega
  rw [← hgR'] at bR1 ⊢
  rw [← hgX] at bX1 ⊢
  clear hgX hgR' hb1 B0 bX bR
  cases b
  · obtain rfl : ([], [], [], []) = y := (HN0.out rfl).symm
    go_wp2_with (refine wpList_storeRowN rfl 30 _ _ rfl gR #[.slice none 0 0, .slice none 0 0, .slice none 0 0, .slice none 0 0] rfl rfl _ _ bR1 (by kernel_rfl) rfl (by simp [Value.oneCell']) ?_; intro wE bE hgE)
    have BE := B1.grown hgE B1.size (fun k hk => by injection hk with hk; subst hk; exact hgR)
    have q_0 := bE.cell 0
    have q_1 := bE.cell 1
    have q_2 := bE.cell 2
    have q_3 := bE.cell 3
    simp only [List.getElem?_toArray, List.getElem?_cons_zero, List.getElem?_cons_succ] at q_0 q_1 q_2 q_3
    refine bodyPost_ret (v := .tuple #[.agg #[.slice none 0 0, .slice none 0 0, .slice none 0 0, .slice none 0 0], .bool false]) (by simp [results, Try.results52, go_sem, q_0, q_1, q_2, q_3]) rfl ⟨none, 0, none, 0, none, 0, none, 0, rfl, own_zero _ _, BE⟩
  · obtain rfl : (rows, F, F, []) = y := (HN1.out rfl).symm
    have z0 := bX1.c1
    go_wp2_with fail
    refine (copied_any _ rows _ (h.below RE.stays B1) hl).mono ?_
    rintro e w2 ⟨D1, d1, rfl, o1, hb2⟩
    have o1 := o1.mono B1.size
    have oF2 := oF.below hb2
    have B2 := B1.tr hb2
    have bR2 := bR1.bl hb2
    go_wp2_with fail
    refine (copyDomsI_any _ F _ (oF2.rd lenDom (by decide)) hFs).mono ?_
    rintro e w3 ⟨D3, d3, rfl, o3, hb3⟩
    have ap : ∀ g, (Value.slice F1 F.length f1).ownBlock = some g → (Value.slice D3 F.length d3).ownBlock ≠ some g := fun g hg => oF2.early o3 (Nat.le_refl _) hg
    have o3 := o3.mono B2.size
    have B3 := (B2.tr hb3).al (.cells #[] 63)
    have bR3 := (bR2.bl hb3).alloc (.cells #[] 63)
    have o4 : OwnL 63 2 ePair w.heap.size (w3.alloc (.cells #[] 63)) (.slice (some ⟨w3.heap.size, 0, none⟩) 0 0) ([] : List Cl) := (own_empty w3).mono (B2.tr hb3).size
    have oA : OwnFl w.heap.size (w3.alloc (.cells #[] 63)) (.slice D1 rows.length d1) (.slice F1 F.length f1) (.slice D3 F.length d3) (.slice (some ⟨w3.heap.size, 0, none⟩) 0 0) (rows, F, F, []) :=
      ⟨(o1.below hb3).alloc _, (oF2.below hb3).alloc _, o3.alloc _, o4, ap⟩
    clear z0 hb2 hb3 o1 oF oF2 o3 o4 B1 B2 bX1 bR1 bR2
    go_wp2_with (refine wpList_storeRowN rfl 30 _ _ rfl gR #[.slice D1 rows.length d1, .slice F1 F.length f1, .slice D3 F.length d3, .slice (some ⟨w3.heap.size, 0, none⟩) 0 0] rfl rfl _ _ bR3 (by kernel_rfl) rfl (by simp [Value.oneCell']) ?_; intro wE bE hgE)
    have oE := OwnFl.rowI oA bR3 (by decide) (by decide) (by decide) hgE
    have BE := B3.grown hgE B3.size (fun k hk => by injection hk with hk; subst hk; exact hgR)
    have q_0 := bE.cell 0
    have q_1 := bE.cell 1
    have q_2 := bE.cell 2
    have q_3 := bE.cell 3
    simp only [List.getElem?_toArray, List.getElem?_cons_zero, List.getElem?_cons_succ] at q_0 q_1 q_2 q_3
    refine bodyPost_ret (v := .tuple #[.agg #[.slice D1 rows.length d1, .slice F1 F.length f1, .slice D3 F.length d3, .slice (some ⟨w3.heap.size, 0, none⟩) 0 0], .bool true]) (by simp [results, Try.results52, go_sem, q_0, q_1, q_2, q_3]) rfl ⟨D1, d1, F1, f1, D3, d3, some ⟨w3.heap.size, 0, none⟩, 0, rfl, oE, BE⟩
end Go.Proofs.Ytmmeomjclfgljaa
