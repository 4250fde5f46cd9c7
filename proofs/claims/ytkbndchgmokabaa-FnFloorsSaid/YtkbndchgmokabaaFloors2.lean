/- The dominoes that the reference lays one after the other, at random: the walk. Conditions: a valid region, the bytes read as a list. -/
import Derived.Test.YtkbndchgmokabaaFloors1
import Derived.Test.YtkbndchgmokabaaReadS
import Derived.Test.YtkbndchgmokabaaFlipW
namespace Go.Proofs.Ytkbndchgmokabaa
open Go.ChangeShapes Go.WideShapes Go.ChangeAt Go.RowKit
set_option linter.unusedVariables false
set_option linter.unusedSimpArgs false

def Kept (w0 : World) (g : Nat) (w : World) : Prop := w0.heap.size ≤ w.heap.size ∧ ∀ i, i < w0.heap.size → i ≠ g → w.heap[i]? = w0.heap[i]?
theorem Kept.tr {w0 w w' : World} {g : Nat} {row : Option Nat} (h : Kept w0 g w) (hg : w.grownBy w' row) (hr : ∀ k, row = some k → k = g ∨ w0.heap.size ≤ k) : Kept w0 g w' :=
  ⟨Nat.le_trans h.1 hg.size, fun i hi hne => (hg.block i (by have := h.1; omega) (fun e => by rcases hr i e.symm with q | q; exact hne q; omega)).trans (h.2 i hi hne)⟩
theorem Kept.bl {w0 w w' : World} {g : Nat} (h : Kept w0 g w) (hb : Below w.heap.size w w') : Kept w0 g w' :=
  ⟨Nat.le_trans h.1 hb.size, fun i hi hne => (hb.block i (by have := h.1; omega)).trans (h.2 i hi hne)⟩
theorem Kept.al {w0 w : World} {g : Nat} (h : Kept w0 g w) (o : Obj) : Kept w0 g (w.alloc o) := h.bl ((Below.refl _ _).al o)
structure GSt (W : World) (w0 : World) (g : Nat) (u : Value) (n : Nat) (out : List Dm) (v5 : Value) (cs : List Cl) (v6 : Value) (rows : List Int) (v1 : Value) (gR : Nat) (wr : World) : Prop where
  o : OwnL 73 3 eDom w0.heap.size wr v5 out
  c : OwnL 70 2 ePair W.heap.size wr v6 cs
  r : OwnL 3 1 eInt W.heap.size wr v1 rows
  b : Blk wr gR 31 #[v1]
  u : Cur wr g u n
  w : Below W.heap.size W wr
  k : Kept w0 g wr
section
variable {W w0 wr w' : World} {g n gR : Nat} {u v5 v6 v1 : Value} {out : List Dm} {cs : List Cl} {rows : List Int}
theorem GSt.bl (h : GSt W w0 g u n out v5 cs v6 rows v1 gR wr) (hb : Below wr.heap.size wr w') : GSt W w0 g u n out v5 cs v6 rows v1 gR w' :=
  ⟨h.o.below hb, h.c.below hb, h.r.below hb, h.b.bl hb, h.u.bl hb, h.w.tr hb, h.k.bl hb⟩
theorem GSt.al (h : GSt W w0 g u n out v5 cs v6 rows v1 gR wr) (o : Obj) : GSt W w0 g u n out v5 cs v6 rows v1 gR (wr.alloc o) :=
  ⟨h.o.alloc o, h.c.alloc o, h.r.alloc o, h.b.alloc o, h.u.alloc o, h.w.al o, h.k.al o⟩
theorem GSt.cur (h : GSt W w0 g u n out v5 cs v6 rows v1 gR wr) (hg : wr.grownBy w' (some g)) (hc : Cur w' g u n) (hB : Below W.heap.size W w') : GSt W w0 g u n out v5 cs v6 rows v1 gR w' :=
  ⟨h.o.cur h.u (by decide) hg, h.c.cur h.u (by decide) hg, h.r.cur h.u (by decide) hg, h.b.cur h.u (by decide) hg, hc, hB, h.k.tr hg (fun k e => .inl (by injection e with e; exact e.symm))⟩
theorem GSt.app {out' : List Dm} {v5' : Value} {o : Obj} (h : GSt W w0 g u n out v5 cs v6 rows v1 gR wr) (own : OwnL 73 3 eDom w0.heap.size w' v5' out') (hg : (wr.alloc o).grownBy w' v5.ownBlock) (hB : Below W.heap.size W w') : GSt W w0 g u n out' v5' cs v6 rows v1 gR w' :=
  ⟨own, (h.c.alloc o).keptE (h.o.alloc o) (by decide) hg, (h.r.alloc o).keptE (h.o.alloc o) (by decide) hg, (h.b.alloc o).grown hg (fun e => (h.o.apart h.b (by decide)) e.symm), h.u.app o hg (h.o.apart h.u.choose_spec.choose_spec.2 (by decide)), hB, (h.k.al o).tr hg (fun k e => .inr (World.ownsRow.lt h.o k e).1)⟩
end
theorem blk_types {w : World} {g g' : Nat} {t t' : TypeId} {c c' : Array Value} (a : Blk w g t c) (b : Blk w g' t' c') (h : t ≠ t') : g ≠ g' := by
  rintro rfl
  have := a.symm.trans b
  simp at this
  exact h this.2
theorem GSt.put {W w0 wr w' : World} {g n gR gd : Nat} {u v5 v6 v1 : Value} {out : List Dm} {cs : List Cl} {rows : List Int} {cells : Array Value} (h : GSt W w0 g u n out v5 cs v6 rows v1 gR wr) (hgd : v5.ownBlock ≠ some gd) (hb : Blk wr gd 73 cells) (hW : W.heap.size ≤ gd) (hW0 : w0.heap.size ≤ gd) (hg : wr.grownBy w' (some gd)) : GSt W w0 g u n out v5 cs v6 rows v1 gR w' := by
  refine ⟨World.ownsRow.kept h.o hg (.inr hgd), World.ownsRow.kept h.c hg (.inr (h.c.apart hb (by decide))), World.ownsRow.kept h.r hg (.inr (h.r.apart hb (by decide))), h.b.grown hg (fun e => ?_), ?_, h.w.grown hg h.w.size (fun k hk => by injection hk with hk; omega), h.k.tr hg (fun k e => .inr (by injection e with e; omega))⟩
  · injection e with e; exact blk_types h.b hb (by decide) e
  · have hne := h.u.ne hb (by decide)
    obtain ⟨i, x, hi, hk⟩ := h.u
    exact ⟨i, x, hi, hk.grown hg (fun e => by injection e with e; exact hne e.symm)⟩
theorem wpList_appK {P : Program} {ops : Array Oper} {rest : List Oper} {o : Oper} {a : Act} {Q : Exit → Act → World → Prop} {α : Type} {t E : TypeId} {z : Value} {size bytes : Nat} (R : Row P t E z size bytes)
    {enc : α → List Value} (henc : ∀ x, (enc x).length = size) (h1 : ∀ x, ∀ u ∈ enc x, u.oneCell' = true)
    {B : Nat} {w : World} (hB : B ≤ w.heap.size) {v : Value} {l : List α} (hown : OwnL E size enc B w v l) (y : α)
    (hlen : (l.length + 1) * bytes ≤ 140737488355328) (hlen2 : l.length + 1 ≤ maxLen)
    (hgd : o.guard = none) (s x : Operand) (ho : o.op = .call { callee := .builtin .append, args := #[s, x], argTypes := #[t, t] })
    (hs : a.eval s = v) (hx : a.eval x = .slice (some ⟨w.heap.size, 0, none⟩) 1 1)
    (h : ∀ v' w', OwnL E size enc B w' v' (l ++ [y]) → (w.alloc (.cells (enc y).toArray E)).grownBy w' v.ownBlock → wpList P ops Q rest (a.put o.dst v') w') :
    wpList P ops Q (o :: rest) a (w.alloc (.cells (enc y).toArray E)) := by
  have hW : ∃ W0 : World, W0.heap.size = B ∧ Below W0.heap.size W0 w := by
    refine ⟨{ w with heap := w.heap.extract 0 B }, by simp; omega, ⟨rfl, rfl, rfl, by simp; omega, fun k hk => ?_⟩⟩
    simp at hk
    simp [Array.getElem?_extract]; omega
  obtain ⟨W0, rfl, hbel⟩ := hW
  exact wpList_app1 R henc h1 hbel hown y hlen hlen2 hgd s x ho hs hx (fun v' w' k1 k2 k3 k4 => h v' w' k1 k3)
/-- A partial covering of the call's own, in order; the region and the cursor as they were. -/
def SomePart (W w0 : World) (g : Nat) (u : Value) (n : Nat) (rows : List Int) (v1 : Value) (e : Ending) (w' : World) : Prop := ∃ (out : List Dm) (A : Option Addr) (c : Nat), e = .returned (.slice A out.length c) ∧ PartOk (setOf rows) out ∧
  OwnL 73 3 eDom w0.heap.size w' (.slice A out.length c) out ∧ OwnL 3 1 eInt W.heap.size w' v1 rows ∧ Cur w' g u n ∧ Below W.heap.size W w' ∧ Kept w0 g w'

set_option maxHeartbeats 8000000 in
set_option maxRecDepth 100000 in
theorem greedyS_any (W : World) (g : Nat) (v : Value) (l : List Int) (w : World) (h : Rd 1 RByte W v l) (Hok : Hid (AllOk (fun x => 0 ≤ x ∧ x ≤ 255) l)) (hg : W.heap.size ≤ g) (hbel : Below W.heap.size W w) (hcur : Cur w g v l.length)
    (A1 : Option Addr) (c1 : Nat) (rows : List Int) (hr : OwnL 3 1 eInt W.heap.size w (.slice A1 rows.length c1) rows) (Hrows : Hid (RowsOk rows)) :
    Calls Try.prog 100 #[.pointer (some ⟨g, 0, none⟩), .agg #[.slice A1 rows.length c1]] w (SomePart W w g v l.length rows (.slice A1 rows.length c1)) := by
  have hA := (Below.refl w.heap.size w).al (.cells #[.slice A1 rows.length c1] 31)
  have bX := (Blk.new_ w 31 #[.slice A1 rows.length c1]).alloc (.cells #[] 73)
  have ho := own_mt (w.alloc (.cells #[.slice A1 rows.length c1] 31)) (E := 73) (size := 3) (enc := eDom) (w.heap.size + 1) (by simp) w.heap.size (by simp)
  have hr2 := (hr.alloc (.cells #[.slice A1 rows.length c1] 31)).alloc (.cells #[] 73)
  have cur2 := (hcur.alloc (.cells #[.slice A1 rows.length c1] 31)).alloc (.cells #[] 73)
  have B2 := (hbel.al (.cells #[.slice A1 rows.length c1] 31)).al (.cells #[] 73)
  have hcsr : regCells rows = cellsTo (setOf rows) 64 := by unfold regCells; rw [regionOk_iff.2 Hrows.out, if_pos rfl]
  have hle := regCells_le rows
  obtain ⟨s, hs⟩ : ∃ s, s = setOf rows := ⟨_, rfl⟩
  rw [← hs] at hcsr
  obtain ⟨cs, hcs⟩ : ∃ cs, cs = regCells rows := ⟨_, rfl⟩
  rw [← hcs] at hcsr hle
  have Hs := Lib.hid hs; have Hcs := Lib.hid hcs; have Hcsr := Lib.hid hcsr; clear hs hcs hcsr
  go_enter Try.func100, Try.ntmps100
  go_wp2_with fail
  refine (cellsOfS_any _ rows _ (hr2.rd lenInt (by decide))).mono ?_
  rintro e w1 ⟨A6, c6, rfl, own6, hb1⟩
  rw [← Hcs.out] at own6 ⊢
  have st1 : GSt W w g v l.length [] (.slice (some ⟨w.heap.size + 1, 0, none⟩) 0 0) cs (.slice A6 cs.length c6) rows (.slice A1 rows.length c1) w.heap.size w1 :=
    ⟨ho.below hb1, own6.mono B2.size, hr2.below hb1, bX.bl hb1, cur2.bl hb1, B2.tr hb1, ((show Kept w g w from ⟨Nat.le_refl _, fun _ _ _ => rfl⟩).al _ |>.al _).bl hb1⟩
  clear ho own6 hr2 bX cur2 B2 hb1 hA hcur hr
  have hWw := hbel.size
  clear hbel
  obtain ⟨gR, hgR⟩ : ∃ g, g = w.heap.size := ⟨_, rfl⟩
  obtain ⟨gS, hgS⟩ : ∃ g, g = w.heap.size + 1 := ⟨_, rfl⟩
  rw [← hgS] at st1 ⊢
  rw [← hgR] at st1 ⊢
  clear hgR hgS
  go_wp2
  go_loopw [5, 7] (fun s5 s7 wr => ∃ (k : Nat) (out : List Dm) (A5 : Option Addr) (c5 : Nat), k ≤ cs.length ∧ s7 = .int .i64 k ∧ s5 = .slice A5 out.length c5 ∧ Hid (Greedy s cs k out) ∧ GSt W w g v l.length out (.slice A5 out.length c5) cs (.slice A6 cs.length c6) rows (.slice A1 rows.length c1) gR wr) (fun _ i _ => cs.length - (intOf i).toNat)
  case atStart => exact ⟨0, [], _, _, Nat.zero_le _, rfl, rfl, Lib.hid (Greedy.start s cs), st1⟩
  case round =>
    obtain ⟨k, out, A5, c5, hk, rfl, rfl, HG, st⟩ := hrel
    clear st1
    by_cases hlt : k < cs.length
    · have hltI : (k : Int) < (cs.length : Int) := by omega
      obtain ⟨b, off, hA6, hb, q1, q2⟩ := (st.c.rd lenCell (by decide)).atPair hlt
      subst hA6
      obtain ⟨d, hd⟩ : ∃ d, d = cs[k] := ⟨_, rfl⟩
      have hcm : d ∈ cellsTo s 64 := by rw [hd]; rw [← Hcsr.out]; exact List.getElem_mem hlt
      have hcok := (cells_mem hcm).1
      rw [← hd] at q1 q2
      obtain ⟨x, y⟩ := d
      simp only at q1 q2
      obtain ⟨D, hD⟩ : ∃ D, D = domAt out (x, y) := ⟨_, rfl⟩
      have hcv := domAt_neg out (x, y)
      rw [← hD] at hcv
      have HD := Lib.hid hD; have Hd := Lib.hid hd; have Hcok := Lib.hid hcok; have Hcv := Lib.hid hcv; clear hD hd hcok hcv hcm
      go_wp2_with fail
      refine (domAtS_any _ out x y _ (st.o.rd lenDom (by decide))).mono ?_
      rintro e w2 ⟨rfl, hb2⟩
      rw [← HD.out]
      have st2 := st.bl hb2
      by_cases hneg : D < 0
      · have hnone : covOf out (x, y) = none := by
          have := Hcv.out; rw [decide_eq_true hneg] at this; simpa using this.symm
        have Hnone := Lib.hid hnone; clear hnone
        clear hb q1 q2
        obtain ⟨b9, off9, e9, hb, q1, q2⟩ := (st2.c.rd lenCell (by decide)).atPair hlt
        injection e9 with e9; injection e9 with e91 e92 _; subst e91; subst e92
        rw [← Hd.out] at q1 q2
        simp only at q1 q2
        go_wp2_with fail
        go_cut [8] (fun s8 wx => ∃ (gd : Nat) (bd : Bool), s8 = .pointer (some ⟨gd, 0, none⟩) ∧ Blk wx gd 73 #[.int .i64 x, .int .i64 y, .bool bd] ∧ Hid ((Value.slice A5 out.length c5).ownBlock ≠ some gd) ∧ W.heap.size ≤ gd ∧ w.heap.size ≤ gd ∧ GSt W w g v l.length out (.slice A5 out.length c5) cs (.slice (some ⟨b, off, none⟩) cs.length c6) rows (.slice A1 rows.length c1) gR wx)
        case first =>
          have stX := st2.bl ((Below.refl _ _).drew)
          have hWs := stX.w.size
          have hgl : g < w2.drew.heap.size := by obtain ⟨i, xx, hi, hk9⟩ := stX.u; exact hk9.lt
          have QC : Hid (∀ wX : World, OwnL 70 2 ePair W.heap.size wX (.slice (some ⟨b, off, none⟩) cs.length c6) cs → b < wX.heap.size ∧ wX.cell? ⟨b, off + k * 2, none⟩ = some (.int .i64 x) ∧ wX.cell? ⟨b, off + k * 2 + 1, none⟩ = some (.int .i64 y)) := Lib.hid (fun wX hX => by
            obtain ⟨b9, off9, e9, r0, r1, r2⟩ := (hX.rd lenCell (by decide)).atPair hlt
            injection e9 with e9; injection e9 with e91 e92 _; subst e91; subst e92
            rw [← Hd.out] at r1 r2
            exact ⟨r0, r1, r2⟩)
          refine wp_region_held_drew (S := (fun w' => w'.cell? ⟨b, off + k * 2, none⟩ = some (.int .i64 x) ∧ w'.cell? ⟨b, off + k * 2 + 1, none⟩ = some (.int .i64 y))) (by kernel_rfl) ?_ (fun hHeld => ?_)
          · (try dsimp only); (try go_keep)
          refine wpAnyH_take (i := 0) (oi := { dst := some 27, op := Go.Op.move (Go.Operand.tmp 6), type := 46, pos := "l06_tiling.go:91", after := #[], guard := none }) (v := ?_) rfl (by kernel_rfl) (by kernel_rfl) (by kernel_rfl) (fun _ _ _ h => h) (Or.inl ⟨by rfl, ?_⟩) (by assumption) ?_
          rotate_left 1
          · (intro wS hSw; (try dsimp only at hSw); go_simp; (all_goals with_reducible rfl))
          simp only [Act.put, List.setIfInBounds_toArray, List.set_cons_zero, List.set_cons_succ]
          refine wpAnyH_take (i := 1) (oi := { dst := some 28, op := Go.Op.move (Go.Operand.tmp 7), type := 3, pos := "l06_tiling.go:91", after := #[], guard := none }) (v := ?_) rfl (by kernel_rfl) (by kernel_rfl) (by kernel_rfl) (fun _ _ _ h => h) (Or.inl ⟨by rfl, ?_⟩) (by assumption) ?_
          rotate_left 1
          · (intro wS hSw; (try dsimp only at hSw); go_simp; (all_goals with_reducible rfl))
          simp only [Act.put, List.setIfInBounds_toArray, List.set_cons_zero, List.set_cons_succ]
          refine wpAnyH_take (i := 2) (oi := { dst := some 29, op := Go.Op.indexAddr 46 (Go.Operand.tmp 27) (Go.Operand.tmp 28), type := 0, pos := "l06_tiling.go:91", after := #[{ on := 0, ground := Go.Ground.data }, { on := 1, ground := Go.Ground.data }], guard := none }) (v := ?_) rfl (by kernel_rfl) (by kernel_rfl) (by kernel_rfl) (fun _ _ _ h => h) (Or.inl ⟨by rfl, ?_⟩) (by assumption) ?_
          rotate_left 1
          · (intro wS hSw; (try dsimp only at hSw); go_simp; (all_goals with_reducible rfl))
          simp only [Act.put, List.setIfInBounds_toArray, List.set_cons_zero, List.set_cons_succ]
          refine wpAnyH_take (i := 3) (oi := { dst := some 30, op := Go.Op.fieldAddr 70 (Go.Operand.tmp 29) 0, type := 0, pos := "l06_tiling.go:91", after := #[{ on := 2, ground := Go.Ground.data }], guard := none }) (v := ?_) rfl (by kernel_rfl) (by kernel_rfl) (by kernel_rfl) (fun _ _ _ h => h) (Or.inl ⟨by rfl, ?_⟩) (by assumption) ?_
          rotate_left 1
          · (intro wS hSw; (try dsimp only at hSw); go_simp; (all_goals with_reducible rfl))
          simp only [Act.put, List.setIfInBounds_toArray, List.set_cons_zero, List.set_cons_succ]
          refine wpAnyH_take (i := 4) (oi := { dst := some 31, op := Go.Op.load 3 (Go.Operand.tmp 30), type := 3, pos := "l06_tiling.go:91", after := #[{ on := 3, ground := Go.Ground.data }], guard := none }) (v := ?_) rfl (by kernel_rfl) (by kernel_rfl) (by kernel_rfl) (fun _ _ _ h => h) (Or.inl ⟨by rfl, ?_⟩) (by assumption) ?_
          rotate_left 1
          · (intro wS hSw; (try dsimp only at hSw); go_simp; (all_goals with_reducible rfl))
          simp only [Act.put, List.setIfInBounds_toArray, List.set_cons_zero, List.set_cons_succ]
          refine wpAnyH_take (i := 5) (oi := { dst := some 32, op := Go.Op.move (Go.Operand.tmp 6), type := 46, pos := "l06_tiling.go:91", after := #[], guard := none }) (v := ?_) rfl (by kernel_rfl) (by kernel_rfl) (by kernel_rfl) (fun _ _ _ h => h) (Or.inl ⟨by rfl, ?_⟩) (by assumption) ?_
          rotate_left 1
          · (intro wS hSw; (try dsimp only at hSw); go_simp; (all_goals with_reducible rfl))
          simp only [Act.put, List.setIfInBounds_toArray, List.set_cons_zero, List.set_cons_succ]
          refine wpAnyH_take (i := 6) (oi := { dst := some 33, op := Go.Op.move (Go.Operand.tmp 7), type := 3, pos := "l06_tiling.go:91", after := #[], guard := none }) (v := ?_) rfl (by kernel_rfl) (by kernel_rfl) (by kernel_rfl) (fun _ _ _ h => h) (Or.inl ⟨by rfl, ?_⟩) (by assumption) ?_
          rotate_left 1
          · (intro wS hSw; (try dsimp only at hSw); go_simp; (all_goals with_reducible rfl))
          simp only [Act.put, List.setIfInBounds_toArray, List.set_cons_zero, List.set_cons_succ]
          refine wpAnyH_take (i := 7) (oi := { dst := some 34, op := Go.Op.indexAddr 46 (Go.Operand.tmp 32) (Go.Operand.tmp 33), type := 0, pos := "l06_tiling.go:91", after := #[{ on := 5, ground := Go.Ground.data }, { on := 6, ground := Go.Ground.data }], guard := none }) (v := ?_) rfl (by kernel_rfl) (by kernel_rfl) (by kernel_rfl) (fun _ _ _ h => h) (Or.inl ⟨by rfl, ?_⟩) (by assumption) ?_
          rotate_left 1
          · (intro wS hSw; (try dsimp only at hSw); go_simp; (all_goals with_reducible rfl))
          simp only [Act.put, List.setIfInBounds_toArray, List.set_cons_zero, List.set_cons_succ]
          refine wpAnyH_take (i := 8) (oi := { dst := some 35, op := Go.Op.fieldAddr 70 (Go.Operand.tmp 34) 1, type := 0, pos := "l06_tiling.go:91", after := #[{ on := 7, ground := Go.Ground.data }], guard := none }) (v := ?_) rfl (by kernel_rfl) (by kernel_rfl) (by kernel_rfl) (fun _ _ _ h => h) (Or.inl ⟨by rfl, ?_⟩) (by assumption) ?_
          rotate_left 1
          · (intro wS hSw; (try dsimp only at hSw); go_simp; (all_goals with_reducible rfl))
          simp only [Act.put, List.setIfInBounds_toArray, List.set_cons_zero, List.set_cons_succ]
          refine wpAnyH_take (i := 9) (oi := { dst := some 36, op := Go.Op.load 3 (Go.Operand.tmp 35), type := 3, pos := "l06_tiling.go:91", after := #[{ on := 8, ground := Go.Ground.data }], guard := none }) (v := ?_) rfl (by kernel_rfl) (by kernel_rfl) (by kernel_rfl) (fun _ _ _ h => h) (Or.inl ⟨by rfl, ?_⟩) (by assumption) ?_
          rotate_left 1
          · (intro wS hSw; (try dsimp only at hSw); go_simp; (all_goals with_reducible rfl))
          simp only [Act.put, List.setIfInBounds_toArray, List.set_cons_zero, List.set_cons_succ]
          refine wpAnyH_take (i := 10) (oi := { dst := some 37, op := Go.Op.move (Go.Operand.tmp 0), type := 124, pos := "l06_tiling.go:91", after := #[], guard := none }) (v := ?_) rfl (by kernel_rfl) (by kernel_rfl) (by kernel_rfl) (fun _ _ _ h => h) (Or.inl ⟨by rfl, ?_⟩) (by assumption) ?_
          rotate_left 1
          · (intro wS hSw; (try dsimp only at hSw); go_simp; (all_goals with_reducible rfl))
          simp only [Act.put, List.setIfInBounds_toArray, List.set_cons_zero, List.set_cons_succ]
          refine wpAnyH_ready (rs := [11, 13]) (by kernel_rfl) (by simp) ?_
          refine AllReadyH.cons (o := { dst := some 38, op := Go.Op.call { callee := Go.Callee.value (Go.Operand.func 159), args := #[Go.Operand.tmp 37, Go.Operand.const (Go.Value.int Go.IntKind.i64 2)], argTypes := #[124, 3] }, type := 4, pos := "l06_tiling.go:91", after := #[{ on := 10, ground := Go.Ground.data }], guard := none }) rfl (fun K hK => ?_) ?_
          go_simp
          (go_at_call 159; go_must (refine (once_any 2 W g _ l _ h Hok hg (by first | exact stX.w | exact stX.w.al _) (by first | exact stX.u | exact stX.u.alloc _) (by decide)).mono ?_; rintro e wX ⟨bd, rfl, curX, BX, gX⟩; have stY : GSt W w g v l.length out (.slice A5 out.length c5) cs (.slice (some ⟨b, off, none⟩) cs.length c6) rows (.slice A1 rows.length c1) gR wX := (by first | exact stX.cur gX curX BX | exact (stX.al _).cur gX curX BX); obtain ⟨hbX, p1, p2⟩ := QC.out _ stY.c; (try have bZ := (Blk.new_ w2.drew 73 #[.int .i64 0, .int .i64 0, .bool false]).grown gX (by simp; simp at hgl; omega)); have hdz : (Value.slice A5 out.length c5).ownBlock ≠ some w2.drew.heap.size := (by intro q; have := World.ownsRow.lt stX.o _ q; omega); have hdY : (Value.slice A5 out.length c5).ownBlock ≠ some wX.heap.size := (by intro q; have := World.ownsRow.lt stY.o _ q; omega)); (try go_wp2_with fail))
          refine hK.out _ _ ?_ (fun hHeld => ?_)
          · (try dsimp only); (try go_keep)
          clear hK K
          (try simp only [Act.put, List.setIfInBounds_toArray, List.set_cons_zero, List.set_cons_succ])
          refine wpAnyH_take (i := 12) (oi := { dst := some 39, op := Go.Op.build 73 #[(0, Go.Operand.tmp 31), (1, Go.Operand.tmp 36), (2, Go.Operand.tmp 38)], type := 73, pos := "l06_tiling.go:91", after := #[{ on := 4, ground := Go.Ground.data }, { on := 9, ground := Go.Ground.data }, { on := 11, ground := Go.Ground.data }], guard := none }) (v := ?_) rfl (by kernel_rfl) (by kernel_rfl) (by kernel_rfl) (fun _ _ _ h => h) (Or.inl ⟨by rfl, ?_⟩) (by assumption) ?_
          rotate_left 1
          · (intro wS hSw; (try dsimp only at hSw); go_simp; (all_goals with_reducible rfl))
          simp only [Act.put, List.setIfInBounds_toArray, List.set_cons_zero, List.set_cons_succ]
          refine wpAnyH_ready (rs := [13]) (by kernel_rfl) (by simp) ?_
          refine AllReadyH.cons (o := { dst := some 8, op := Go.Op.alloc 73, type := 0, pos := "l06_tiling.go:91", after := #[], guard := none }) rfl (fun K hK => ?_) AllReadyH.nil
          go_simp
          refine hK.out _ _ ?_ (fun hHeld => ?_)
          · (try dsimp only); (try go_keep)
          clear hK K
          (try simp only [Act.put, List.setIfInBounds_toArray, List.set_cons_zero, List.set_cons_succ])
          refine wpAnyH_ready (rs := [14]) (by kernel_rfl) (by simp) ?_
          refine AllReadyH.cons (o := { dst := none, op := Go.Op.store 73 (Go.Operand.tmp 8) (Go.Operand.tmp 39), type := 0, pos := "l06_tiling.go:91", after := #[{ on := 13, ground := Go.Ground.data }, { on := 12, ground := Go.Ground.data }, { on := 11, ground := Go.Ground.chain }, { on := 0, ground := Go.Ground.phase }, { on := 1, ground := Go.Ground.phase }, { on := 2, ground := Go.Ground.phase }, { on := 3, ground := Go.Ground.phase }, { on := 4, ground := Go.Ground.phase }, { on := 5, ground := Go.Ground.phase }, { on := 6, ground := Go.Ground.phase }, { on := 7, ground := Go.Ground.phase }, { on := 8, ground := Go.Ground.phase }, { on := 9, ground := Go.Ground.phase }, { on := 10, ground := Go.Ground.phase }, { on := 11, ground := Go.Ground.phase }, { on := 12, ground := Go.Ground.phase }, { on := 13, ground := Go.Ground.phase }], guard := none }) rfl (fun K hK => ?_) AllReadyH.nil
          (first | (refine step_storeRow rfl 73 _ _ rfl w2.heap.size #[.int .i64 x, .int .i64 y, .bool bd] rfl rfl _ _ bZ (by kernel_rfl) rfl (by simp [Value.oneCell']) ?_; intro wS hbS hgS; have stS := stY.put hdz bZ (by simpa using hWs) (by simpa using stX.k.1) hgS; obtain ⟨hbS2, p1, p2⟩ := QC.out _ stS.c) | (refine step_storeRow rfl 73 _ _ rfl wX.heap.size #[.int .i64 x, .int .i64 y, .bool bd] rfl rfl _ _ (Blk.new_ wX 73 #[.int .i64 0, .int .i64 0, .bool false]) (by kernel_rfl) rfl (by simp [Value.oneCell']) ?_; intro wS hbS hgS; have stS := (stY.al _).put hdY (Blk.new_ wX 73 #[.int .i64 0, .int .i64 0, .bool false]) stY.w.size stY.k.1 hgS; obtain ⟨hbS2, p1, p2⟩ := QC.out _ stS.c))
          refine hK.out _ _ ?_ (fun hHeld => ?_)
          · (try dsimp only); (try go_keep)
          clear hK K
          (try simp only [Act.put, List.setIfInBounds_toArray, List.set_cons_zero, List.set_cons_succ])
          refine wpAnyH_done (by kernel_rfl) ?_ _
          rotate_left 1
          refine AllReadyH.cons (o := { dst := some 8, op := Go.Op.alloc 73, type := 0, pos := "l06_tiling.go:91", after := #[], guard := none }) rfl (fun K hK => ?_) AllReadyH.nil
          go_simp
          refine hK.out _ _ ?_ (fun hHeld => ?_)
          · (try dsimp only); (try go_keep)
          clear hK K
          (try simp only [Act.put, List.setIfInBounds_toArray, List.set_cons_zero, List.set_cons_succ])
          refine wpAnyH_ready (rs := [11]) (by kernel_rfl) (by simp) ?_
          refine AllReadyH.cons (o := { dst := some 38, op := Go.Op.call { callee := Go.Callee.value (Go.Operand.func 159), args := #[Go.Operand.tmp 37, Go.Operand.const (Go.Value.int Go.IntKind.i64 2)], argTypes := #[124, 3] }, type := 4, pos := "l06_tiling.go:91", after := #[{ on := 10, ground := Go.Ground.data }], guard := none }) rfl (fun K hK => ?_) AllReadyH.nil
          go_simp
          (go_at_call 159; go_must (refine (once_any 2 W g _ l _ h Hok hg (by first | exact stX.w | exact stX.w.al _) (by first | exact stX.u | exact stX.u.alloc _) (by decide)).mono ?_; rintro e wX ⟨bd, rfl, curX, BX, gX⟩; have stY : GSt W w g v l.length out (.slice A5 out.length c5) cs (.slice (some ⟨b, off, none⟩) cs.length c6) rows (.slice A1 rows.length c1) gR wX := (by first | exact stX.cur gX curX BX | exact (stX.al _).cur gX curX BX); obtain ⟨hbX, p1, p2⟩ := QC.out _ stY.c; (try have bZ := (Blk.new_ w2.drew 73 #[.int .i64 0, .int .i64 0, .bool false]).grown gX (by simp; simp at hgl; omega)); have hdz : (Value.slice A5 out.length c5).ownBlock ≠ some w2.drew.heap.size := (by intro q; have := World.ownsRow.lt stX.o _ q; omega); have hdY : (Value.slice A5 out.length c5).ownBlock ≠ some wX.heap.size := (by intro q; have := World.ownsRow.lt stY.o _ q; omega)); (try go_wp2_with fail))
          refine hK.out _ _ ?_ (fun hHeld => ?_)
          · (try dsimp only); (try go_keep)
          clear hK K
          (try simp only [Act.put, List.setIfInBounds_toArray, List.set_cons_zero, List.set_cons_succ])
          refine wpAnyH_take (i := 12) (oi := { dst := some 39, op := Go.Op.build 73 #[(0, Go.Operand.tmp 31), (1, Go.Operand.tmp 36), (2, Go.Operand.tmp 38)], type := 73, pos := "l06_tiling.go:91", after := #[{ on := 4, ground := Go.Ground.data }, { on := 9, ground := Go.Ground.data }, { on := 11, ground := Go.Ground.data }], guard := none }) (v := ?_) rfl (by kernel_rfl) (by kernel_rfl) (by kernel_rfl) (fun _ _ _ h => h) (Or.inl ⟨by rfl, ?_⟩) (by assumption) ?_
          rotate_left 1
          · (intro wS hSw; (try dsimp only at hSw); go_simp; (all_goals with_reducible rfl))
          simp only [Act.put, List.setIfInBounds_toArray, List.set_cons_zero, List.set_cons_succ]
          refine wpAnyH_ready (rs := [14]) (by kernel_rfl) (by simp) ?_
          refine AllReadyH.cons (o := { dst := none, op := Go.Op.store 73 (Go.Operand.tmp 8) (Go.Operand.tmp 39), type := 0, pos := "l06_tiling.go:91", after := #[{ on := 13, ground := Go.Ground.data }, { on := 12, ground := Go.Ground.data }, { on := 11, ground := Go.Ground.chain }, { on := 0, ground := Go.Ground.phase }, { on := 1, ground := Go.Ground.phase }, { on := 2, ground := Go.Ground.phase }, { on := 3, ground := Go.Ground.phase }, { on := 4, ground := Go.Ground.phase }, { on := 5, ground := Go.Ground.phase }, { on := 6, ground := Go.Ground.phase }, { on := 7, ground := Go.Ground.phase }, { on := 8, ground := Go.Ground.phase }, { on := 9, ground := Go.Ground.phase }, { on := 10, ground := Go.Ground.phase }, { on := 11, ground := Go.Ground.phase }, { on := 12, ground := Go.Ground.phase }, { on := 13, ground := Go.Ground.phase }], guard := none }) rfl (fun K hK => ?_) AllReadyH.nil
          (first | (refine step_storeRow rfl 73 _ _ rfl w2.heap.size #[.int .i64 x, .int .i64 y, .bool bd] rfl rfl _ _ bZ (by kernel_rfl) rfl (by simp [Value.oneCell']) ?_; intro wS hbS hgS; have stS := stY.put hdz bZ (by simpa using hWs) (by simpa using stX.k.1) hgS; obtain ⟨hbS2, p1, p2⟩ := QC.out _ stS.c) | (refine step_storeRow rfl 73 _ _ rfl wX.heap.size #[.int .i64 x, .int .i64 y, .bool bd] rfl rfl _ _ (Blk.new_ wX 73 #[.int .i64 0, .int .i64 0, .bool false]) (by kernel_rfl) rfl (by simp [Value.oneCell']) ?_; intro wS hbS hgS; have stS := (stY.al _).put hdY (Blk.new_ wX 73 #[.int .i64 0, .int .i64 0, .bool false]) stY.w.size stY.k.1 hgS; obtain ⟨hbS2, p1, p2⟩ := QC.out _ stS.c))
          refine hK.out _ _ ?_ (fun hHeld => ?_)
          · (try dsimp only); (try go_keep)
          clear hK K
          (try simp only [Act.put, List.setIfInBounds_toArray, List.set_cons_zero, List.set_cons_succ])
          refine wpAnyH_done (by kernel_rfl) ?_ _
          all_goals
            go_wp2_with fail
            go_meet
            first | exact ⟨_, bd, rfl, hbS, Lib.hid hdz, by simpa using hWs, by simpa using stX.k.1, stS⟩ | exact ⟨_, bd, rfl, hbS, Lib.hid hdY, stY.w.size, stY.k.1, stS⟩
        case rest =>
          obtain ⟨gd, bd0, rfl, hbd0, HdO, hWd, hW0d, st3⟩ := hcut
          clear hb q1 q2 st2 st
          have hol := sorted_len HG.out.1.sorted
          have H8 : Hid ((out.length + 1) * 24 ≤ 140737488355328) := Lib.hid (by omega)
          have HM : Hid (out.length + 1 ≤ maxLen) := Lib.hid (by unfold maxLen; omega)
          go_wp2
          go_loopw [5, 9] (fun s5 s9 wi => ∃ (i : Nat) (bd : Bool), i ≤ 2 ∧ s9 = .int .i64 i ∧ s5 = .slice A5 out.length c5 ∧ Blk wi gd 73 #[.int .i64 x, .int .i64 y, .bool bd] ∧ GSt W w g v l.length out (.slice A5 out.length c5) cs (.slice (some ⟨b, off, none⟩) cs.length c6) rows (.slice A1 rows.length c1) gR wi) (fun _ i _ => 2 - (intOf i).toNat)
          case atStart => exact ⟨0, bd0, by omega, rfl, rfl, hbd0, st3⟩
          case round =>
            obtain ⟨i, bd, hi, rfl, rfl, hbd, sti⟩ := hrel
            clear hbd0 st3
            by_cases hi2 : i < 2
            · have hiI : (i : Int) < 2 := by omega
              have zd_0 := hbd.cell 0
              have zd_1 := hbd.cell 1
              have zd_2 := hbd.cell 2
              simp only [List.getElem?_toArray, List.getElem?_cons_zero, List.getElem?_cons_succ] at zd_0 zd_1 zd_2
              obtain ⟨sx, sy, hsc⟩ : ∃ sx sy, sec (x, y, bd) = (sx, sy) := ⟨_, _, rfl⟩
              have Hsec := Lib.hid hsc; clear hsc
              go_wp2_with fail
              refine (secondS_eq x y bd sx sy Hsec _).mono ?_
              rintro e w3 ⟨rfl, hb3⟩
              have st4 := (sti.bl hb3).al (.cells #[.int .i64 sx, .int .i64 sy] 70)
              have hbd4 := (hbd.bl hb3).alloc (.cells #[.int .i64 sx, .int .i64 sy] 70)
              have bB := Blk.new_ w3 70 #[.int .i64 sx, .int .i64 sy]
              clear zd_0 zd_1 zd_2
              have zd_0 := hbd4.cell 0
              have zd_1 := hbd4.cell 1
              have zd_2 := hbd4.cell 2
              simp only [List.getElem?_toArray, List.getElem?_cons_zero, List.getElem?_cons_succ] at zd_0 zd_1 zd_2
              go_wp2_with fail
              refine (domOkS_any x y bd _).mono ?_
              rintro e w4 ⟨rfl, hb4⟩
              have st5 := st4.bl hb4
              have hbd5 := hbd4.bl hb4
              have bB5 := bB.bl hb4
              rcases hok : domOk (x, y, bd) with _ | _
              · clear hok
                clear zd_0 zd_1 zd_2
                have zd_0 := hbd5.cell 0
                have zd_1 := hbd5.cell 1
                have zd_2 := hbd5.cell 2
                simp only [List.getElem?_toArray, List.getElem?_cons_zero, List.getElem?_cons_succ] at zd_0 zd_1 zd_2
                have fd : ∀ j, w4.frozen? ⟨gd, j, none⟩ = false := fun j => hbd5.frozen j
                go_wp2
                go_roundw
                case rel => exact ⟨i + 1, !bd, by omega, by go_num, rfl, hbd5.st 2 _ _ rfl, st5.put HdO.out hbd5 hWd hW0d (gr_set (World.grownBy.refl _ _) _ _)⟩
                case measure => simp [intOf]; omega
              · have hcs2 := (domOk_cells hok).2
                rw [Hsec.out] at hcs2
                have Hcs2 := Lib.hid hcs2; have Hok2 := Lib.hid hok; clear hcs2 hok
                have zR := st5.b.c1
                have zb_0 := bB5.cell 0
                have zb_1 := bB5.cell 1
                simp only [List.getElem?_toArray, List.getElem?_cons_zero, List.getElem?_cons_succ] at zb_0 zb_1
                obtain ⟨I, hI⟩ : ∃ I, I = (cellIx (sx, sy)).toNat := ⟨_, rfl⟩
                have HI := Lib.hid hI; clear hI
                go_wp2_with fail
                refine (hasCellS_yes _ rows sx sy s I _ (st5.r.rd lenInt (by decide)) Hcs2.out Hrows Hs HI.out).mono ?_
                rintro e w5 ⟨rfl, hb5⟩
                have st6 := st5.bl hb5
                have hbd6 := hbd5.bl hb5
                have bB6 := bB5.bl hb5
                clear zR zb_0 zb_1
                rcases hbit : s.testBit I with _ | _
                · clear hbit
                  clear zd_0 zd_1 zd_2
                  have zd_0 := hbd6.cell 0
                  have zd_1 := hbd6.cell 1
                  have zd_2 := hbd6.cell 2
                  simp only [List.getElem?_toArray, List.getElem?_cons_zero, List.getElem?_cons_succ] at zd_0 zd_1 zd_2
                  have fd : ∀ j, w5.frozen? ⟨gd, j, none⟩ = false := fun j => hbd6.frozen j
                  go_wp2
                  go_roundw
                  case rel => exact ⟨i + 1, !bd, by omega, by go_num, rfl, hbd6.st 2 _ _ rfl, st6.put HdO.out hbd6 hWd hW0d (gr_set (World.grownBy.refl _ _) _ _)⟩
                  case measure => simp [intOf]; omega
                · have Hbit := Lib.hid hbit; clear hbit
                  have zb_0 := bB6.cell 0
                  have zb_1 := bB6.cell 1
                  simp only [List.getElem?_toArray, List.getElem?_cons_zero, List.getElem?_cons_succ] at zb_0 zb_1
                  obtain ⟨D2, hD2⟩ : ∃ D, D = domAt out (sx, sy) := ⟨_, rfl⟩
                  have hcv2 := domAt_neg out (sx, sy)
                  rw [← hD2] at hcv2
                  have HD2 := Lib.hid hD2; have Hcv2 := Lib.hid hcv2; clear hD2 hcv2
                  go_wp2_with fail
                  refine (domAtS_any _ out sx sy _ (st6.o.rd lenDom (by decide))).mono ?_
                  rintro e w6 ⟨rfl, hb6⟩
                  rw [← HD2.out]
                  have st7 := st6.bl hb6
                  have hbd7 := hbd6.bl hb6
                  by_cases hneg2 : D2 < 0
                  · have hnone2 : covOf out (sx, sy) = none := by
                      have := Hcv2.out; rw [decide_eq_true hneg2] at this; simpa using this.symm
                    have HGn : Hid (Greedy s cs (k + 1) (out ++ [(x, y, bd)])) := Lib.hid (by
                      have hG := HG.out
                      rw [Hcsr.out] at hG ⊢
                      refine hG.app (by rw [← Hcsr.out]; exact hlt) (d := (x, y, bd)) (Hd.out.trans (List.getElem_of_eq Hcsr.out hlt)) Hok2.out ?_ Hnone.out (by rw [Hsec.out]; exact hnone2)
                      unfold domJ; rw [Hsec.out, ← HI.out]; exact Hbit.out)
                    clear hnone2 zd_0 zd_1 zd_2
                    have zd_0 := hbd7.cell 0
                    have zd_1 := hbd7.cell 1
                    have zd_2 := hbd7.cell 2
                    simp only [List.getElem?_toArray, List.getElem?_cons_zero, List.getElem?_cons_succ] at zd_0 zd_1 zd_2
                    go_wp2_with (at_builtin; go_must (refine wpList_appK (enc := eDom) rowDom lenDom oneDom st7.k.1 st7.o ((x, y, bd) : Dm) H8.out HM.out rfl _ _ rfl rfl rfl ?_); intro v8 w8 own8 hg8; obtain ⟨A8, c8, rfl, hc8, hm8⟩ := own8.form)
                    have st8 := st7.app own8 hg8 ((st7.w.al _).grown hg8 (by have := st7.w.size; simp; omega) (fun k hk => by have := (World.ownsRow.lt st7.o k hk).1; omega))
                    go_roundw
                    case rel => exact ⟨k + 1, out ++ [(x, y, bd)], A8, c8, by omega, by go_num, by simp, HGn, st8⟩
                    case measure => simp [intOf]; omega
                  · have hnn2 : 0 ≤ D2 := by omega
                    clear zd_0 zd_1 zd_2
                    have zd_0 := hbd7.cell 0
                    have zd_1 := hbd7.cell 1
                    have zd_2 := hbd7.cell 2
                    simp only [List.getElem?_toArray, List.getElem?_cons_zero, List.getElem?_cons_succ] at zd_0 zd_1 zd_2
                    have fd : ∀ j, w6.frozen? ⟨gd, j, none⟩ = false := fun j => hbd7.frozen j
                    go_wp2
                    go_roundw
                    case rel => exact ⟨i + 1, !bd, by omega, by go_num, rfl, hbd7.st 2 _ _ rfl, st7.put HdO.out hbd7 hWd hW0d (gr_set (World.grownBy.refl _ _) _ _)⟩
                    case measure => simp [intOf]; omega
            · obtain rfl : i = 2 := by omega
              go_wp2
              go_roundw
              case rel => exact ⟨k + 1, out, A5, c5, by omega, by go_num, rfl, Lib.hid HG.out.next, sti⟩
              case measure => simp [intOf]; omega
      · have hnn : 0 ≤ D := by omega
        go_wp2
        go_roundw
        case rel => exact ⟨k + 1, out, A5, c5, by omega, by go_num, rfl, Lib.hid HG.out.next, st2⟩
        case measure => simp [intOf]; omega
    · obtain rfl : k = cs.length := by omega
      go_wp2
      go_ret
      exact ⟨out, A5, c5, rfl, by rw [← Hs.out]; exact HG.out.1, st.o, st.r, st.u, st.w, st.k⟩
end Go.Proofs.Ytkbndchgmokabaa
