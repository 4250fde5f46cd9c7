/- FnCheapest: for all bytes the law returns true. No conditions. -/
import Derived.Test.YtmmeomjclfgljaaTilDraw
import Derived.Test.YtmmeomjclfgljaaCtI
import Derived.Test.YtmmeomjclfgljaaSaving
import Derived.Test.YtmmeomjclfgljaaTilsPl
import Derived.Test.YtmmeomjclfgljaaK9
namespace Go.Proofs.Ytmmeomjclfgljaa
open Go.ChangeShapes Go.WideShapes Go.ChangeAt Go.RowKit
set_option linter.unusedVariables false
set_option linter.unusedSimpArgs false

theorem cost_floor (p : Pr) (t : List Dm) : costOf p t = floorPrice p t := by
  unfold costOf floorPrice floorTo; rw [List.take_length]
theorem prIn_ok {p : Pr} (h : PrIn p) : pricesOk p = true := by
  unfold PrIn at h
  exact pricesOk_iff.2 ⟨by omega, by omega, by omega, by omega⟩
theorem few_list {rows : List Int} (h : Few rows) : listRows rows = tils (setOf rows) ∧ tils (setOf rows) ≠ [] := by
  obtain ⟨hr, h1, h2⟩ := h
  have hc : cntRows rows = ((tils (setOf rows)).length : Nat) := by unfold cntRows; rw [if_pos (regionOk_iff.2 hr), cntSet_is (setOf_lt hr)]
  refine ⟨by unfold listRows; rw [if_pos (by simp [inB]; omega)], fun e => ?_⟩
  rw [e] at hc; simp at hc; omega
/-- What the cheapest price and the cheapest tiling are. -/
theorem cheap_facts {p : Pr} {rows : List Int} (hp : pricesOk p = true) (hf : Few rows) : 0 ≤ cheapestPrice p rows ∧ cheapB p rows = true ∧ cheapT p rows ∈ tils (setOf rows) ∧ floorPrice p (cheapT p rows) = cheapestPrice p rows ∧ ∀ t ∈ tils (setOf rows), cheapestPrice p rows ≤ floorPrice p t := by
  obtain ⟨hl, hne⟩ := few_list hf
  have hln : decide ((listRows rows).length ≠ 0) = true := by
    rw [hl]; exact decide_eq_true (fun e => hne (List.eq_nil_of_length_eq_zero e))
  have hB : cheapB p rows = true := by unfold cheapB; rw [hp, hln]; rfl
  have hT : cheapT p rows = ctOf (floorPrice p) (tils (setOf rows)) := by unfold cheapT; rw [hp, hln, hl]; rfl
  have hm : cheapT p rows ∈ tils (setOf rows) := by rw [hT]; exact ctOf_mem hne
  have hle : ∀ t ∈ tils (setOf rows), floorPrice p (cheapT p rows) ≤ floorPrice p t := by rw [hT]; exact ctOf_le _ _
  have hC : cheapestPrice p rows = (cheapDp p (setOf rows) 64).getD 0 0 := by unfold cheapestPrice; rw [hp, regionOk_iff.2 hf.1]; rfl
  have hs := setOf_lt hf.1
  have a1 := (cheap_is p hs (floorPrice p (cheapT p rows))).2 ⟨_, hm, by rw [cost_floor]; exact Int.le_refl _⟩
  obtain ⟨t, ht, a2⟩ := (cheap_is p hs ((cheapDp p (setOf rows) 64).getD 0 0)).1 ⟨a1.1, Int.le_refl _⟩
  rw [cost_floor] at a2
  have a3 := hle t ht
  have a4 : floorPrice p (cheapT p rows) = cheapestPrice p rows := by rw [hC]; omega
  have a5 := (floorTo_in p (cheapT p rows) (cheapT p rows).length).1
  refine ⟨by rw [← a4]; exact a5, hB, hm, a4, fun t ht => by rw [← a4]; exact hle t ht⟩
theorem bigC_any (v : Value) (l : List Int) (w : World) (h : Rd 1 RByte w v l) : Calls Try.prog 25 #[v] w (Pure (.bool (decide (1048576 < l.length))) w) := by
  obtain ⟨A, c, rfl, hc, hm⟩ := h.form
  go_enter Try.func25, Try.ntmps25
  go_wp2
  go_ret
  exact ⟨by simp; omega, rfl⟩
def DrawnPr (w : World) (e : Ending) (w' : World) : Prop := ∃ (pa pb pc pd : Int) (rows : List Int) (A : Option Addr) (c : Nat) (t : List Dm) (T : Option Addr) (d : Nat), e = .returned (.tuple #[.agg #[.int .i64 pa, .int .i64 pb, .int .i64 pc, .int .i64 pd], .agg #[.slice A rows.length c], .slice T t.length d]) ∧
  PrIn (pa, pb, pc, pd) ∧ Few rows ∧ t ∈ tils (setOf rows) ∧ OwnL 3 1 eInt w.heap.size w' (.slice A rows.length c) rows ∧ OwnL 66 3 eDom w.heap.size w' (.slice T t.length d) t ∧ Below w.heap.size w w'
abbrev oFnCheapest0 : Oper := { dst := some 18, op := Go.Op.load 47 (Go.Operand.tmp 6), type := 47, pos := "l34_cost.go:159", after := #[], guard := none }
abbrev oFnCheapest1 : Oper := { dst := some 19, op := Go.Op.load 26 (Go.Operand.tmp 7), type := 26, pos := "l34_cost.go:159", after := #[{ on := 3, ground := Go.Ground.gcOnly Go.Departure.lateStores }], guard := none }
abbrev oFnCheapest2 : Oper := { dst := some 20, op := Go.Op.move (Go.Operand.tmp 8), type := 27, pos := "l34_cost.go:159", after := #[{ on := 4, ground := Go.Ground.gcOnly Go.Departure.lateStores }], guard := none }
abbrev oFnCheapest3 : Oper := { dst := none, op := Go.Op.store 47 (Go.Operand.tmp 2) (Go.Operand.tmp 18), type := 0, pos := "l34_cost.go:159", after := #[{ on := 0, ground := Go.Ground.data }, { on := 0, ground := Go.Ground.phase }, { on := 1, ground := Go.Ground.textOnly Go.Departure.lateStores }, { on := 2, ground := Go.Ground.textOnly Go.Departure.lateStores }], guard := none }
abbrev oFnCheapest4 : Oper := { dst := none, op := Go.Op.store 26 (Go.Operand.tmp 3) (Go.Operand.tmp 19), type := 0, pos := "l34_cost.go:159", after := #[{ on := 1, ground := Go.Ground.data }, { on := 3, ground := Go.Ground.chain }, { on := 0, ground := Go.Ground.phase }, { on := 1, ground := Go.Ground.phase }, { on := 2, ground := Go.Ground.textOnly Go.Departure.lateStores }, { on := 3, ground := Go.Ground.phase }], guard := none }
abbrev oFnCheapest5 : Oper := { dst := some 4, op := Go.Op.assign (Go.Operand.tmp 20), type := 27, pos := "l34_cost.go:159", after := #[{ on := 2, ground := Go.Ground.data }, { on := 4, ground := Go.Ground.chain }, { on := 0, ground := Go.Ground.phase }, { on := 1, ground := Go.Ground.phase }, { on := 2, ground := Go.Ground.phase }, { on := 3, ground := Go.Ground.phase }, { on := 4, ground := Go.Ground.phase }], guard := none }
set_option maxHeartbeats 2000000 in
set_option maxRecDepth 100000 in
theorem drawPr_any (v : Value) (l : List Int) (w : World) (h : Rd 1 RByte w v l) (ok : AllOk (fun x => 0 ≤ x ∧ x ≤ 255) l) (hl : l.length ≤ 1048576) : Calls Try.prog 40 #[v] w (DrawnPr w) := by
  have Hok := Lib.hid ok
  have hx0 := (Blk.new_ w 47 #[.int .i64 0, .int .i64 0, .int .i64 0, .int .i64 0]).alloc (.cells #[.slice none 0 0] 26)
  have hx1 := Blk.new2 (w.alloc (.cells #[.int .i64 0, .int .i64 0, .int .i64 0, .int .i64 0] 47)) 26 #[.slice none 0 0] (w.heap.size + 1) (by simp)
  have hA := ((Below.refl w.heap.size w).al (.cells #[.int .i64 0, .int .i64 0, .int .i64 0, .int .i64 0] 47)).al (.cells #[.slice none 0 0] 26)
  go_enter Try.func40, Try.ntmps40
  go_wp2_with fail
  refine (new_any _ l _ (h.below RE.stays hA) ok hl).mono ?_
  rintro e w1 ⟨g, rfl, hg, hcur, hb1⟩
  go_wp2_with fail
  refine (prDraw_any _ g _ l _ (h.below RE.stays hA) Hok hg hb1 hcur).mono ?_
  rintro e w2 ⟨⟨pa, pb, pc, pd⟩, rfl, hp, cur2, B2, k2⟩
  simp only
  have bP := Blk.new_ w2 47 #[.int .i64 pa, .int .i64 pb, .int .i64 pc, .int .i64 pd]
  have cur2' := cur2.alloc (.cells #[.int .i64 pa, .int .i64 pb, .int .i64 pc, .int .i64 pd] 47)
  have hPg := cur2'.ne bP (by decide)
  go_wp2_with fail
  refine (tilDraw_any _ g _ l _ (h.below RE.stays hA) Hok hg (B2.al _) cur2').mono ?_
  rintro e w3 ⟨rows, A, c, t, T, d, rfl, ro, ot, hf, ht, cur3, B3, k3⟩
  have bP3 := (k3.blk bP hPg).alloc (.cells #[.slice A rows.length c] 26)
  have bR3 := Blk.new_ w3 26 #[.slice A rows.length c]
  have x0 := (hx0.below B3 hx0.lt).alloc (.cells #[.slice A rows.length c] 26)
  have x1 := (hx1.below B3 hx1.lt).alloc (.cells #[.slice A rows.length c] 26)
  have hw2 : w.heap.size ≤ (w2.alloc (.cells #[.int .i64 pa, .int .i64 pb, .int .i64 pc, .int .i64 pd] 47)).heap.size := by have := B2.size; simp at this ⊢; omega
  have ro3 := (ro.mono hw2).alloc (.cells #[.slice A rows.length c] 26)
  have ot3 := (ot.mono hw2).alloc (.cells #[.slice A rows.length c] 26)
  have B4 := (hA.tr B3).al (.cells #[.slice A rows.length c] 26)
  have h2 : w.heap.size + 1 < w2.heap.size := by have := B2.size; simp at this; omega
  have h3 : w2.heap.size < w3.heap.size := (k3.blk bP hPg).lt
  clear hx0 hx1 hcur hb1 cur2 B2 k2 bP cur2' hPg ro ot cur3 B3 k3 hw2
  go_upto_region 4 with (fail)
  obtain ⟨W, hW⟩ : ∃ W, W = w3.alloc (.cells #[.slice A rows.length c] 26) := ⟨_, rfl⟩
  obtain ⟨gR, hgR⟩ : ∃ q, q = w3.heap.size := ⟨_, rfl⟩
  obtain ⟨gP, hgP⟩ : ∃ q, q = w2.heap.size := ⟨_, rfl⟩
  rw [← hW] at bP3 bR3 x0 x1 ro3 ot3 B4 ⊢
  rw [← hgR] at bR3 ⊢
  rw [← hgP] at bP3 ⊢
  have n1 : w.heap.size ≠ gR := by omega
  have n2 : w.heap.size ≠ gP := by omega
  have n3 : w.heap.size + 1 ≠ gR := by omega
  have n4 : w.heap.size + 1 ≠ gP := by omega
  clear hW hgR hgP h2 h3 hg
  have bP3 := bP3.bl ((Below.refl _ _).drew)
  have bR3 := bR3.bl ((Below.refl _ _).drew)
  have x0 := x0.bl ((Below.refl _ _).drew)
  have x1 := x1.bl ((Below.refl _ _).drew)
  have ro3 := ro3.below ((Below.refl _ _).drew)
  have ot3 := ot3.below ((Below.refl _ _).drew)
  have B4 := B4.tr ((Below.refl _ _).drew)
  have p_0 := bP3.cell 0
  have p_1 := bP3.cell 1
  have p_2 := bP3.cell 2
  have p_3 := bP3.cell 3
  simp only [List.getElem?_toArray, List.getElem?_cons_zero, List.getElem?_cons_succ] at p_0 p_1 p_2 p_3
  have zr := bR3.c1
  refine wp_region_held_drew (S := (fun w' => w'.cell? ⟨gP, 0, none⟩ = some (.int .i64 pa) ∧ w'.cell? ⟨gP, 1, none⟩ = some (.int .i64 pb) ∧ w'.cell? ⟨gP, 2, none⟩ = some (.int .i64 pc) ∧ w'.cell? ⟨gP, 3, none⟩ = some (.int .i64 pd) ∧ w'.cell? ⟨gR, 0, none⟩ = some (.slice A rows.length c))) (by kernel_rfl) ?_ (fun hHeld => ?_)
  · (try dsimp only); (try go_keep)
  refine tk 0 oFnCheapest0 rfl (by kernel_rfl) (v := ?_) (fun _ _ _ h => h) (Or.inl ⟨by rfl, ?_⟩) (by assumption) ?_
  rotate_left 1
  · (intro wS hSw; (try dsimp only at hSw); dsimp only [oFnCheapest0]; go_simp; (all_goals with_reducible rfl))
  simp only [oFnCheapest0, putL, List.set]
  refine tk 1 oFnCheapest1 rfl (by kernel_rfl) (v := ?_) (fun _ _ _ h => h) (Or.inl ⟨by rfl, ?_⟩) (by assumption) ?_
  rotate_left 1
  · (intro wS hSw; (try dsimp only at hSw); dsimp only [oFnCheapest1]; go_simp; (all_goals with_reducible rfl))
  simp only [oFnCheapest1, putL, List.set]
  refine tk 2 oFnCheapest2 rfl (by kernel_rfl) (v := ?_) (fun _ _ _ h => h) (Or.inl ⟨by rfl, ?_⟩) (by assumption) ?_
  rotate_left 1
  · (intro wS hSw; (try dsimp only at hSw); dsimp only [oFnCheapest2]; go_simp; (all_goals with_reducible rfl))
  simp only [oFnCheapest2, putL, List.set]
  refine wpAnyH_ready (rs := [3]) (by kernel_rfl) (by simp) ?_
  refine AllReadyH.cons (o := oFnCheapest3) rfl (fun K hK => ?_) AllReadyH.nil
  (have x0' := x0; have x1' := x1; refine step_storeRow rfl 47 _ _ rfl w.heap.size #[.int .i64 pa, .int .i64 pb, .int .i64 pc, .int .i64 pd] rfl rfl _ _ x0 (by kernel_rfl) rfl (by simp [Value.oneCell']) ?_; intro wX x0 gX; have bP3 := bP3.grown gX (by simp; omega); have bR3 := bR3.grown gX (by simp; omega); have x1 := x1.grown gX (by simp); have ro3 : OwnL 3 1 eInt w.heap.size wX (.slice A rows.length c) rows := World.ownsRow.kept ro3 gX (.inr (ro3.apart x0' (by decide))); have ot3 : OwnL 66 3 eDom w.heap.size wX (.slice T t.length d) t := World.ownsRow.kept ot3 gX (.inr (ot3.apart x0' (by decide))); have B4 := B4.grown gX B4.size (fun k hk => by injection hk with hk; omega); have p_0 := bP3.cell 0; have p_1 := bP3.cell 1; have p_2 := bP3.cell 2; have p_3 := bP3.cell 3; simp only [List.getElem?_toArray, List.getElem?_cons_zero, List.getElem?_cons_succ] at p_0 p_1 p_2 p_3; have zr := bR3.c1)
  refine hK.out _ _ ?_ (fun hHeld => ?_)
  · (try dsimp only); (try go_keep)
  clear hK K
  (try simp only [Act.put, List.setIfInBounds_toArray, List.set_cons_zero, List.set_cons_succ])
  refine wpAnyH_ready (rs := [4]) (by kernel_rfl) (by simp) ?_
  refine AllReadyH.cons (o := oFnCheapest4) rfl (fun K hK => ?_) AllReadyH.nil
  (have x0' := x0; have x1' := x1; refine step_storeRow rfl 26 _ _ rfl (w.heap.size + 1) #[.slice A rows.length c] rfl rfl _ _ x1 (by kernel_rfl) rfl (by simp [Value.oneCell']) ?_; intro wX x1 gX; have bP3 := bP3.grown gX (by simp; omega); have bR3 := bR3.grown gX (by simp; omega); have x0 := x0.grown gX (by simp); have ro3 : OwnL 3 1 eInt w.heap.size wX (.slice A rows.length c) rows := World.ownsRow.kept ro3 gX (.inr (ro3.apart x1' (by decide))); have ot3 : OwnL 66 3 eDom w.heap.size wX (.slice T t.length d) t := World.ownsRow.kept ot3 gX (.inr (ot3.apart x1' (by decide))); have B4 := B4.grown gX B4.size (fun k hk => by injection hk with hk; omega); have p_0 := bP3.cell 0; have p_1 := bP3.cell 1; have p_2 := bP3.cell 2; have p_3 := bP3.cell 3; simp only [List.getElem?_toArray, List.getElem?_cons_zero, List.getElem?_cons_succ] at p_0 p_1 p_2 p_3; have zr := bR3.c1)
  refine hK.out _ _ ?_ (fun hHeld => ?_)
  · (try dsimp only); (try go_keep)
  clear hK K
  (try simp only [Act.put, List.setIfInBounds_toArray, List.set_cons_zero, List.set_cons_succ])
  refine tk 5 oFnCheapest5 rfl (by kernel_rfl) (v := ?_) (fun _ _ _ h => h) (Or.inl ⟨by rfl, ?_⟩) (by assumption) ?_
  rotate_left 1
  · (intro wS hSw; (try dsimp only at hSw); dsimp only [oFnCheapest5]; go_simp; (all_goals with_reducible rfl))
  simp only [oFnCheapest5, putL, List.set]
  refine wpAnyH_done (by kernel_rfl) ?_ _
  all_goals
    go_wp2_with fail
    have q_0 := x0.cell 0
    have q_1 := x0.cell 1
    have q_2 := x0.cell 2
    have q_3 := x0.cell 3
    simp only [List.getElem?_toArray, List.getElem?_cons_zero, List.getElem?_cons_succ] at q_0 q_1 q_2 q_3
    have qr := x1.c1
    refine bodyPost_ret (v := .tuple #[.agg #[.int .i64 pa, .int .i64 pb, .int .i64 pc, .int .i64 pd], .agg #[.slice A rows.length c], .slice T t.length d]) (by simp [results, Try.results40, go_sem, q_0, q_1, q_2, q_3, qr]) rfl ⟨pa, pb, pc, pd, rows, A, c, t, T, d, rfl, hp, hf, ht, ro3, ot3, B4⟩
abbrev oFnCheapest6 : Oper := { dst := some 39, op := Go.Op.move (Go.Operand.tmp 10), type := 3, pos := "laws.go:872", after := #[], guard := none }
abbrev oFnCheapest7 : Oper := { dst := some 40, op := Go.Op.load 47 (Go.Operand.tmp 3), type := 47, pos := "laws.go:872", after := #[], guard := none }
abbrev oFnCheapest8 : Oper := { dst := some 41, op := Go.Op.move (Go.Operand.tmp 5), type := 27, pos := "laws.go:872", after := #[], guard := none }
abbrev oFnCheapest9 : Oper := { dst := some 42, op := Go.Op.move (Go.Operand.tmp 11), type := 3, pos := "laws.go:872", after := #[], guard := none }
abbrev oFnCheapest10 : Oper := { dst := some 43, op := Go.Op.indexAddr 27 (Go.Operand.tmp 41) (Go.Operand.tmp 42), type := 0, pos := "laws.go:872", after := #[{ on := 2, ground := Go.Ground.data }, { on := 3, ground := Go.Ground.data }], guard := none }
abbrev oFnCheapest11 : Oper := { dst := some 44, op := Go.Op.load 66 (Go.Operand.tmp 43), type := 66, pos := "laws.go:872", after := #[{ on := 4, ground := Go.Ground.data }], guard := none }
abbrev oFnCheapest12 : Oper := { dst := some 45, op := Go.Op.call { callee := Go.Callee.value (Go.Operand.func 43), args := #[Go.Operand.tmp 40, Go.Operand.tmp 44], argTypes := #[47, 66] }, type := 3, pos := "laws.go:872", after := #[{ on := 1, ground := Go.Ground.data }, { on := 5, ground := Go.Ground.data }], guard := none }
abbrev oFnCheapest13 : Oper := { dst := some 46, op := Go.Op.binOp Go.BinOp.add 3 (Go.Operand.tmp 39) (Go.Operand.tmp 45) 3, type := 3, pos := "laws.go:872", after := #[{ on := 0, ground := Go.Ground.data }, { on := 6, ground := Go.Ground.data }], guard := none }
abbrev oFnCheapest14 : Oper := { dst := some 10, op := Go.Op.assign (Go.Operand.tmp 46), type := 3, pos := "laws.go:872", after := #[{ on := 7, ground := Go.Ground.data }, { on := 6, ground := Go.Ground.chain }, { on := 0, ground := Go.Ground.phase }, { on := 1, ground := Go.Ground.phase }, { on := 2, ground := Go.Ground.phase }, { on := 3, ground := Go.Ground.phase }, { on := 4, ground := Go.Ground.phase }, { on := 5, ground := Go.Ground.phase }, { on := 6, ground := Go.Ground.phase }, { on := 7, ground := Go.Ground.phase }], guard := none }
set_option maxHeartbeats 4000000 in
set_option maxRecDepth 100000 in
theorem FnCheapest_walk (w : World) (v : Value) (l : List Int) (h : Rd 1 RByte w v l) (ok : AllOk (fun x => 0 ≤ x ∧ x ≤ 255) l) : Calls Try.prog 7 #[v] w (Ret (.bool true) w) := by
  by_cases hsz : 1048576 < l.length
  · have hd : decide (1048576 < l.length) = true := by simpa using hsz
    have Hd := Lib.hid hd; clear hd
    go_enter Try.func7, Try.ntmps7
    go_wp2_with fail
    refine (bigC_any _ l _ h).mono ?_
    rintro e w0 ⟨rfl, rfl⟩
    rw [Hd.out]
    go_wp2
    go_ret
    exact ⟨rfl, Below.refl _ _⟩
  · have hd : decide (1048576 < l.length) = false := by simpa using hsz
    have Hd := Lib.hid hd; clear hd
    have hl : l.length ≤ 1048576 := by omega
    have Hok := Lib.hid ok; clear ok
    go_enter Try.func7, Try.ntmps7
    go_wp2_with fail
    refine (bigC_any _ l _ h).mono ?_
    rintro e w0 ⟨rfl, rfl⟩
    rw [Hd.out]
    go_wp2_with fail
    refine (drawPr_any _ l _ h Hok.out hl).mono ?_
    rintro e w1 ⟨pa, pb, pc, pd, rows, A, c, t, T, d, rfl, hp, hf, ht, ro, ot, hb1⟩
    have hpk := prIn_ok hp
    obtain ⟨f1, f2, f3, f4, f5⟩ := cheap_facts hpk hf
    have f6 := f5 t ht
    have hti := tils_tiling hf.1 ht
    have hci := tils_tiling hf.1 f3
    have htl := tils_len ht
    have hcl := tils_len f3
    have f7 := (floorTo_in (pa, pb, pc, pd) t t.length).2
    have hS : savingBy (pa, pb, pc, pd) rows t = floorPrice (pa, pb, pc, pd) t - cheapestPrice (pa, pb, pc, pd) rows := by
      unfold savingBy; rw [hti, decide_eq_false (by omega)]; rfl
    have CN : ∀ (u : Value) (w : World), Rd 1 RInt w u rows → Calls Try.prog 41 #[.agg #[.int .i64 pa, .int .i64 pb, .int .i64 pc, .int .i64 pd], .agg #[u]] w (Ret (.int .i64 (cheapestPrice (pa, pb, pc, pd) rows)) w) := fun u w k1 => cheapestI_any (pa, pb, pc, pd) u rows w k1
    have CT : ∀ (u : Value) (w : World), Rd 1 RInt w u rows → Calls Try.prog 21 #[.agg #[.int .i64 pa, .int .i64 pb, .int .i64 pc, .int .i64 pd], .agg #[u]] w (RetTB (cheapT (pa, pb, pc, pd) rows) true w) := fun u w k1 => by have := ctI_any (pa, pb, pc, pd) u rows w k1; rw [f2] at this; exact this
    have CS : ∀ (u z : Value) (w : World), Rd 1 RInt w u rows → Rd 3 RDom w z t → Calls Try.prog 42 #[.agg #[.int .i64 pa, .int .i64 pb, .int .i64 pc, .int .i64 pd], .agg #[u], z] w (Ret (.int .i64 (floorPrice (pa, pb, pc, pd) t - cheapestPrice (pa, pb, pc, pd) rows)) w) := fun u z w k1 k2 => by have := savingI_any (pa, pb, pc, pd) u z rows t w k1 k2; rw [hS] at this; exact this
    have CF1 : ∀ (z : Value) (w : World), Rd 3 RDom w z (cheapT (pa, pb, pc, pd) rows) → Calls Try.prog 45 #[.agg #[.int .i64 pa, .int .i64 pb, .int .i64 pc, .int .i64 pd], z] w (Ret (.int .i64 (cheapestPrice (pa, pb, pc, pd) rows)) w) := fun z w k2 => by have := floorPriceI_any (pa, pb, pc, pd) z _ w k2 (by omega); rw [f4] at this; exact this
    have CF2 : ∀ (z : Value) (w : World), Rd 3 RDom w z t → Calls Try.prog 45 #[.agg #[.int .i64 pa, .int .i64 pb, .int .i64 pc, .int .i64 pd], z] w (Ret (.int .i64 (floorPrice (pa, pb, pc, pd) t)) w) := fun z w k2 => floorPriceI_any (pa, pb, pc, pd) z _ w k2 (by omega)
    have CI : ∀ (u z : Value) (w : World), Rd 1 RInt w u rows → Rd 3 RDom w z (cheapT (pa, pb, pc, pd) rows) → Calls Try.prog 44 #[.agg #[u], z] w (Ret (.bool true) w) := fun u z w k1 k2 => by have := tilingS_any u z rows _ w k1 k2; rw [hci] at this; exact this
    have CP : ∀ (w : World), Calls Try.prog 46 #[.agg #[.int .i64 pa, .int .i64 pb, .int .i64 pc, .int .i64 pd]] w (Ret (.bool true) w) := fun w => by have := pricesOkI_any pa pb pc pd w; rw [hpk] at this; exact this
    have hT0 : floorTo (pa, pb, pc, pd) t t.length = floorPrice (pa, pb, pc, pd) t := rfl
    obtain ⟨K, hK⟩ : ∃ K, K = cheapT (pa, pb, pc, pd) rows := ⟨_, rfl⟩
    obtain ⟨n, hn⟩ : ∃ n, n = cheapestPrice (pa, pb, pc, pd) rows := ⟨_, rfl⟩
    obtain ⟨F, hF⟩ : ∃ F, F = floorPrice (pa, pb, pc, pd) t := ⟨_, rfl⟩
    rw [← hK] at CT CF1 CI hcl
    rw [← hn] at CN CS CF1 f1 f6
    rw [← hF] at CS CF2 hT0 f6
    rw [hT0] at f7
    obtain ⟨S, hSd⟩ : ∃ S, S = F - n := ⟨_, rfl⟩
    rw [← hSd] at CS
    have hS0 : 0 ≤ S := by omega
    have hwS : IntKind.i64.wrap (F - n) = S := by rw [hSd]; exact IntWalk.i64_in _ (by omega)
    have g1 : decide ((0 : Int) ≤ n) = true := decide_eq_true f1
    have g2 : decide ((0 : Int) ≤ S) = true := decide_eq_true hS0
    have HT0 := Lib.hid hT0; have HF := Lib.hid hF; have HSd := Lib.hid hSd; have Htl := Lib.hid htl
    clear hp hf ht f2 f3 f4 f5 hti hci hS hK hn hF hSd hT0 hpk htl
    have bP := (Blk.new_ w1 47 #[.int .i64 pa, .int .i64 pb, .int .i64 pc, .int .i64 pd]).alloc (.cells #[.slice A rows.length c] 26)
    have bR := Blk.new2 (w1.alloc (.cells #[.int .i64 pa, .int .i64 pb, .int .i64 pc, .int .i64 pd] 47)) 26 #[.slice A rows.length c] (w1.heap.size + 1) (by simp)
    have B2 := (hb1.al (.cells #[.int .i64 pa, .int .i64 pb, .int .i64 pc, .int .i64 pd] 47)).al (.cells #[.slice A rows.length c] 26)
    have ro2 := (ro.alloc (.cells #[.int .i64 pa, .int .i64 pb, .int .i64 pc, .int .i64 pd] 47)).alloc (.cells #[.slice A rows.length c] 26)
    have ot2 := (ot.alloc (.cells #[.int .i64 pa, .int .i64 pb, .int .i64 pc, .int .i64 pd] 47)).alloc (.cells #[.slice A rows.length c] 26)
    clear hb1 ro ot
    go_upto_region 4 with (fail)
    obtain ⟨W, hW⟩ : ∃ W, W = (w1.alloc (.cells #[.int .i64 pa, .int .i64 pb, .int .i64 pc, .int .i64 pd] 47)).alloc (.cells #[.slice A rows.length c] 26) := ⟨_, rfl⟩
    obtain ⟨gR, hgR⟩ : ∃ q, q = w1.heap.size + 1 := ⟨_, rfl⟩
    obtain ⟨gP, hgP⟩ : ∃ q, q = w1.heap.size := ⟨_, rfl⟩
    rw [← hW] at bP bR B2 ro2 ot2 ⊢
    rw [← hgR] at bR ⊢
    rw [← hgP] at bP ⊢
    clear hW hgR hgP
    have p_0 := bP.cell 0
    have p_1 := bP.cell 1
    have p_2 := bP.cell 2
    have p_3 := bP.cell 3
    simp only [List.getElem?_toArray, List.getElem?_cons_zero, List.getElem?_cons_succ] at p_0 p_1 p_2 p_3
    have zr := bR.c1
    go_wp2_with fail
    refine (CN _ _ (ro2.rd lenInt (by decide))).mono ?_
    rintro e w3 ⟨rfl, hb3⟩
    replace bP := bP.bl hb3
    replace bR := bR.bl hb3
    have ro3 := ro2.below hb3
    have ot3 := ot2.below hb3
    have B3 := B2.tr hb3
    clear ro2 ot2 B2 hb3 p_0 p_1 p_2 p_3 zr
    have p_0 := bP.cell 0
    have p_1 := bP.cell 1
    have p_2 := bP.cell 2
    have p_3 := bP.cell 3
    simp only [List.getElem?_toArray, List.getElem?_cons_zero, List.getElem?_cons_succ] at p_0 p_1 p_2 p_3
    have zr := bR.c1
    go_wp2_with fail
    refine (CT _ _ (ro3.rd lenInt (by decide))).mono ?_
    rintro e w4 ⟨C, c', rfl, oK, hb4⟩
    have oK4 := oK.mono B3.size
    replace bP := bP.bl hb4
    replace bR := bR.bl hb4
    have ro4 := ro3.below hb4
    have ot4 := ot3.below hb4
    have B4 := B3.tr hb4
    clear ro3 ot3 B3 hb4 p_0 p_1 p_2 p_3 zr
    have p_0 := bP.cell 0
    have p_1 := bP.cell 1
    have p_2 := bP.cell 2
    have p_3 := bP.cell 3
    simp only [List.getElem?_toArray, List.getElem?_cons_zero, List.getElem?_cons_succ] at p_0 p_1 p_2 p_3
    have zr := bR.c1
    go_wp2_with fail
    refine (CS _ _ _ (ro4.rd lenInt (by decide)) (ot4.rd lenDom (by decide))).mono ?_
    rintro e w5 ⟨rfl, hb5⟩
    have oK5 := oK4.below hb5
    clear oK oK4
    replace bP := bP.bl hb5
    replace bR := bR.bl hb5
    have ro5 := ro4.below hb5
    have ot5 := ot4.below hb5
    have B5 := B4.tr hb5
    clear ro4 ot4 B4 hb5 p_0 p_1 p_2 p_3 zr
    go_wp2_with fail
    go_loopw [10, 11] (fun s10 s11 wr => ∃ k : Nat, k ≤ t.length ∧ s11 = .int .i64 k ∧ s10 = .int .i64 (floorTo (pa, pb, pc, pd) t k) ∧ OwnL 3 1 eInt w.heap.size wr (.slice A rows.length c) rows ∧ OwnL 66 3 eDom w.heap.size wr (.slice T t.length d) t ∧ OwnL 66 3 eDom w.heap.size wr (.slice C K.length c') K ∧ Below w.heap.size w wr ∧ Blk wr gP 47 #[.int .i64 pa, .int .i64 pb, .int .i64 pc, .int .i64 pd] ∧ Blk wr gR 26 #[.slice A rows.length c]) (fun _ i _ => t.length - (intOf i).toNat)
    case atStart => exact ⟨0, Nat.zero_le _, rfl, rfl, ro5, ot5, oK5, B5, bP, bR⟩
    case round =>
      obtain ⟨k, hk, rfl, rfl, ro6, ot6, oK6, B6, bP6, bR6⟩ := hrel
      clear ro5 ot5 oK5 B5 bP bR
      by_cases hlt : k < t.length
      · have hltI : (k : Int) < (t.length : Int) := by omega
        obtain ⟨b, off, rfl, hb, q1, q2, q3⟩ := (ot6.rd lenDom (by decide)).atDom hlt
        obtain ⟨e, he⟩ : ∃ e, e = t[k] := ⟨_, rfl⟩
        have hst := floorTo_step (pa, pb, pc, pd) t k hlt
        have hin := floorTo_in (pa, pb, pc, pd) t k
        have hdin := domPrice_in (pa, pb, pc, pd) t[k]
        rw [← he] at q1 q2 q3 hst hdin
        obtain ⟨ex, ey, ed⟩ := e
        simp only at q1 q2 q3
        have hkl := Htl.out
        obtain ⟨m, hm⟩ : ∃ m, m = floorTo (pa, pb, pc, pd) t k := ⟨_, rfl⟩
        obtain ⟨m2, hm2⟩ : ∃ m2, m2 = floorTo (pa, pb, pc, pd) t (k + 1) := ⟨_, rfl⟩
        rw [← hm] at hst hin ⊢
        rw [← hm2] at hst
        have hwr : IntKind.i64.wrap (m + domPrice (pa, pb, pc, pd) (ex, ey, ed)) = m2 := by rw [hst]; exact IntWalk.i64_in _ (by omega)
        have Hm2 := Lib.hid hm2; have Hst := Lib.hid hst
        clear hm hm2 he hst hin hdin
        have p_0 := bP6.cell 0
        have p_1 := bP6.cell 1
        have p_2 := bP6.cell 2
        have p_3 := bP6.cell 3
        simp only [List.getElem?_toArray, List.getElem?_cons_zero, List.getElem?_cons_succ] at p_0 p_1 p_2 p_3
        have hPl := bP6.lt
        go_upto_region 11 with (fail)
        obtain ⟨V, hV⟩ : ∃ V, V = wr := ⟨_, rfl⟩
        rw [← hV] at ro6 ot6 oK6 B6 bP6 bR6 p_0 p_1 p_2 p_3 q1 q2 q3 hb hPl ⊢
        clear hV
        have Bw : Below V.heap.size V V.drew := (Below.refl _ _).drew
        have hz : V.heap.size ≤ V.drew.heap.size := by simp
        refine wp_region_held_drew (S := (fun w' => w'.cell? ⟨gP, 0, none⟩ = some (.int .i64 pa) ∧ w'.cell? ⟨gP, 1, none⟩ = some (.int .i64 pb) ∧ w'.cell? ⟨gP, 2, none⟩ = some (.int .i64 pc) ∧ w'.cell? ⟨gP, 3, none⟩ = some (.int .i64 pd) ∧ w'.cell? ⟨b, off + k * 3, none⟩ = some (.int .i64 ex) ∧ w'.cell? ⟨b, off + k * 3 + 1, none⟩ = some (.int .i64 ey) ∧ w'.cell? ⟨b, off + k * 3 + 2, none⟩ = some (.bool ed))) (by kernel_rfl) ?_ (fun hHeld => ?_)
        · (try dsimp only); (try go_keep)
        refine tk 0 oFnCheapest6 rfl (by kernel_rfl) (v := ?_) (fun _ _ _ h => h) (Or.inl ⟨by rfl, ?_⟩) (by assumption) ?_
        rotate_left 1
        · (intro wS hSw; (try dsimp only at hSw); dsimp only [oFnCheapest6]; go_simp; (all_goals with_reducible rfl))
        simp only [oFnCheapest6, putL, List.set]
        refine tk 1 oFnCheapest7 rfl (by kernel_rfl) (v := ?_) (fun _ _ _ h => h) (Or.inl ⟨by rfl, ?_⟩) (by assumption) ?_
        rotate_left 1
        · (intro wS hSw; (try dsimp only at hSw); dsimp only [oFnCheapest7]; go_simp; (all_goals with_reducible rfl))
        simp only [oFnCheapest7, putL, List.set]
        refine tk 2 oFnCheapest8 rfl (by kernel_rfl) (v := ?_) (fun _ _ _ h => h) (Or.inl ⟨by rfl, ?_⟩) (by assumption) ?_
        rotate_left 1
        · (intro wS hSw; (try dsimp only at hSw); dsimp only [oFnCheapest8]; go_simp; (all_goals with_reducible rfl))
        simp only [oFnCheapest8, putL, List.set]
        refine tk 3 oFnCheapest9 rfl (by kernel_rfl) (v := ?_) (fun _ _ _ h => h) (Or.inl ⟨by rfl, ?_⟩) (by assumption) ?_
        rotate_left 1
        · (intro wS hSw; (try dsimp only at hSw); dsimp only [oFnCheapest9]; go_simp; (all_goals with_reducible rfl))
        simp only [oFnCheapest9, putL, List.set]
        refine tk 4 oFnCheapest10 rfl (by kernel_rfl) (v := ?_) (fun _ _ _ h => h) (Or.inl ⟨by rfl, ?_⟩) (by assumption) ?_
        rotate_left 1
        · (intro wS hSw; (try dsimp only at hSw); dsimp only [oFnCheapest10]; go_simp; (all_goals with_reducible rfl))
        simp only [oFnCheapest10, putL, List.set]
        refine tk 5 oFnCheapest11 rfl (by kernel_rfl) (v := ?_) (fun _ _ _ h => h) (Or.inl ⟨by rfl, ?_⟩) (by assumption) ?_
        rotate_left 1
        · (intro wS hSw; (try dsimp only at hSw); dsimp only [oFnCheapest11]; go_simp; (all_goals with_reducible rfl))
        simp only [oFnCheapest11, putL, List.set]
        refine wpAnyH_ready (rs := [6]) (by kernel_rfl) (by simp) ?_
        refine AllReadyH.cons (o := oFnCheapest12) rfl (fun K hK => ?_) AllReadyH.nil
        dsimp only [oFnCheapest12]
        go_simp
        (first | (go_at_call 43; go_must (refine (domPriceI_any (pa, pb, pc, pd) (ex, ey, ed) _).mono ?_; rintro e wX ⟨rfl, hbX⟩; obtain ⟨hcX, hfX, hzX⟩ := bkn hbX V.heap.size hz; have hz := hzX; have Bw := Bw.tr hbX); (try go_wp2_with fail)))
        refine hK.out _ _ ?_ (fun hHeld => ?_)
        · (try dsimp only); (try go_keep)
        clear hK K
        (try simp only [Act.put, List.setIfInBounds_toArray, List.set_cons_zero, List.set_cons_succ])
        refine tk 7 oFnCheapest13 rfl (by kernel_rfl) (v := ?_) (fun _ _ _ h => h) (Or.inl ⟨by rfl, ?_⟩) (by assumption) ?_
        rotate_left 1
        · (intro wS hSw; (try dsimp only at hSw); dsimp only [oFnCheapest13]; go_simp; (all_goals with_reducible rfl))
        simp only [oFnCheapest13, putL, List.set]
        refine tk 8 oFnCheapest14 rfl (by kernel_rfl) (v := ?_) (fun _ _ _ h => h) (Or.inl ⟨by rfl, ?_⟩) (by assumption) ?_
        rotate_left 1
        · (intro wS hSw; (try dsimp only at hSw); dsimp only [oFnCheapest14]; go_simp; (all_goals with_reducible rfl))
        simp only [oFnCheapest14, putL, List.set]
        refine wpAnyH_done (by kernel_rfl) ?_ _
        go_wp2
        go_roundw
        case rel => exact ⟨k + 1, by omega, by go_num, by rw [Hm2.out], ro6.below Bw, ot6.below Bw, oK6.below Bw, B6.tr Bw, bP6.bl Bw, bR6.bl Bw⟩
        case measure => simp [intOf]; omega
      · obtain rfl : k = t.length := by omega
        rw [HT0.out]
        clear hlt
        have p_0 := bP6.cell 0
        have p_1 := bP6.cell 1
        have p_2 := bP6.cell 2
        have p_3 := bP6.cell 3
        simp only [List.getElem?_toArray, List.getElem?_cons_zero, List.getElem?_cons_succ] at p_0 p_1 p_2 p_3
        have zr := bR6.c1
        go_wp2_with fail
        refine (CI _ _ _ (ro6.rd lenInt (by decide)) (oK6.rd lenDom (by decide))).mono ?_
        rintro e w7 ⟨rfl, hb7⟩
        have bP7 := bP6.bl hb7
        have B7 := B6.tr hb7
        have ot7 := ot6.below hb7
        have oK7 := oK6.below hb7
        clear p_0 p_1 p_2 p_3 zr ro6 ot6 oK6 B6 bP6 bR6 hb7
        have p_0 := bP7.cell 0
        have p_1 := bP7.cell 1
        have p_2 := bP7.cell 2
        have p_3 := bP7.cell 3
        simp only [List.getElem?_toArray, List.getElem?_cons_zero, List.getElem?_cons_succ] at p_0 p_1 p_2 p_3
        go_wp2_with fail
        refine (CF1 _ _ (oK7.rd lenDom (by decide))).mono ?_
        rintro e w8 ⟨rfl, hb8⟩
        have bP8 := bP7.bl hb8
        have B8 := B7.tr hb8
        have ot8 := ot7.below hb8
        clear p_0 p_1 p_2 p_3 ot7 oK7 B7 bP7 hb8
        have p_0 := bP8.cell 0
        have p_1 := bP8.cell 1
        have p_2 := bP8.cell 2
        have p_3 := bP8.cell 3
        simp only [List.getElem?_toArray, List.getElem?_cons_zero, List.getElem?_cons_succ] at p_0 p_1 p_2 p_3
        go_wp2_with fail
        refine (CF2 _ _ (ot8.rd lenDom (by decide))).mono ?_
        rintro e w9 ⟨rfl, hb9⟩
        have bP9 := bP8.bl hb9
        have B9 := B8.tr hb9
        clear p_0 p_1 p_2 p_3 ot8 B8 bP8 hb9
        have p_0 := bP9.cell 0
        have p_1 := bP9.cell 1
        have p_2 := bP9.cell 2
        have p_3 := bP9.cell 3
        simp only [List.getElem?_toArray, List.getElem?_cons_zero, List.getElem?_cons_succ] at p_0 p_1 p_2 p_3
        go_wp2_with fail
        refine (CP _).mono ?_
        rintro e w10 ⟨rfl, hb10⟩
        go_wp2
        go_ret
        exact ⟨rfl, B9.tr hb10⟩
end Go.Proofs.Ytmmeomjclfgljaa
