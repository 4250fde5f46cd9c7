/- A workshop opened, on both sides: the walk, with WorkshopOk's answer as given. Conditions: sizes. -/
import Derived.Test.YtmmeomjclfgljaaNewS
import Derived.Test.YtmmeomjclfgljaaLawBase
namespace Go.Proofs.Ytmmeomjclfgljaa
open Go.ChangeShapes Go.WideShapes Go.ChangeAt Go.RowKit
set_option linter.unusedVariables false
set_option linter.unusedSimpArgs false

def openFl (b : Bool) (rows : List Int) : Fl := if b = true then newFl rows else ([], [], [], [])
def openSt (b : Bool) (rows : List Int) (stock : Int) : Int := if b = true then stock - ((newFl rows).2.2.1.length : Int) else 0
theorem open_small {b : Bool} {rows : List Int} (h : Small rows.length) : Small4 (openFl b rows) := by
  unfold openFl
  split
  · exact new_small h
  · exact ⟨by unfold Small; simp, by unfold Small; simp, by unfold Small; simp, by unfold Small; simp⟩
def RetFl4 (y1 : List Int) (y2 y3 : List Dm) (y4 : List Cl) (b : Bool) (w : World) (e : Ending) (w' : World) : Prop := ∃ A1 c1 A2 c2 A3 c3 A4 c4, e = .returned (.tuple #[.agg #[.slice A1 y1.length c1, .slice A2 y2.length c2, .slice A3 y3.length c3, .slice A4 y4.length c4], .bool b]) ∧
  OwnFl w.heap.size w' (.slice A1 y1.length c1) (.slice A2 y2.length c2) (.slice A3 y3.length c3) (.slice A4 y4.length c4) (y1, y2, y3, y4) ∧ Below w.heap.size w w'
set_option maxHeartbeats 4000000 in
set_option maxRecDepth 100000 in
theorem openI_any (v : Value) (rows : List Int) (stock : Int) (k : Bool) (w : World) (h : Rd 1 RInt w v rows) (hl : Small rows.length)
    (CW0 : ∀ (u1 u2 u3 u4 : Value) (w : World), Rd 1 RInt w u1 (newFl rows).1 → Rd 3 RDom w u2 (newFl rows).2.1 → Rd 3 RDom w u3 (newFl rows).2.2.1 → Rd 2 RPair w u4 (newFl rows).2.2.2 → Calls Try.prog 54 #[.agg #[u1, u2, u3, u4, .int .i64 (stock - ((newFl rows).2.2.1.length : Int)), .int .i64 0, .int .i64 0]] w (Ret (.bool k) w)) :
    Calls Try.prog 11 #[.agg #[v], .int .i64 stock] w (RetWkB (openFl (tileB rows && inB stock 0 20000 && k) rows) (openSt (tileB rows && inB stock 0 20000 && k) rows stock) 0 0 (tileB rows && inB stock 0 20000 && k) w) := by
  have CN0 := fun (u : Value) (w : World) (k1 : Rd 1 RInt w u rows) => newI_any u rows w k1 hl
  have hs0 := new_small hl
  obtain ⟨bb, hbb⟩ : ∃ bb, bb = (tileB rows && inB stock 0 20000 && k) := ⟨_, rfl⟩
  rw [← hbb]
  obtain ⟨zz, hzz⟩ : ∃ zz, zz = openFl bb rows := ⟨_, rfl⟩
  obtain ⟨ss, hss⟩ : ∃ ss, ss = openSt bb rows stock := ⟨_, rfl⟩
  rw [← hzz, ← hss]
  unfold openFl at hzz
  unfold openSt at hss
  obtain ⟨b, hb⟩ : ∃ b, b = tileB rows := ⟨_, rfl⟩
  obtain ⟨i, hi⟩ : ∃ i, i = inB stock 0 20000 := ⟨_, rfl⟩
  have CI : ∀ (w : World), Calls Try.prog 53 #[.int .i64 stock, .int .i64 0, .int .i64 20000] w (Pure (.bool i) w) := fun w => by rw [hi]; exact within_any stock 0 20000 w
  have hI : i = true → 0 ≤ stock ∧ stock ≤ 20000 := fun q => by rw [hi] at q; simpa [inB] using q
  rw [← hb, ← hi] at hbb
  rw [← hb] at CN0
  have h64 : (newFl rows).2.2.1.length ≤ 64 := by
    unfold newFl; split
    · simp
    · exact firstRows_len rows
  obtain ⟨y, hy⟩ : ∃ y, y = newFl rows := ⟨_, rfl⟩
  rw [← hy] at CN0 CW0 hzz hss hs0 h64
  obtain ⟨y1, y2, y3, y4⟩ := y
  have CN : ∀ (u : Value) (w : World), Rd 1 RInt w u rows → Calls Try.prog 52 #[.agg #[u]] w (RetFl4 y1 y2 y3 y4 b w) := fun u w k1 => CN0 u w k1
  have H64 : y3.length ≤ 64 := h64
  obtain ⟨st, hst⟩ : ∃ st, st = stock - (y3.length : Int) := ⟨_, rfl⟩
  have CW : ∀ (u1 u2 u3 u4 : Value) (w : World), Rd 1 RInt w u1 y1 → Rd 3 RDom w u2 y2 → Rd 3 RDom w u3 y3 → Rd 2 RPair w u4 y4 → Calls Try.prog 54 #[.agg #[u1, u2, u3, u4, .int .i64 st, .int .i64 0, .int .i64 0]] w (Ret (.bool k) w) := fun u1 u2 u3 u4 w k1 k2 k3 k4 => by rw [hst]; exact CW0 u1 u2 u3 u4 w k1 k2 k3 k4
  have hW : i = true → IntKind.i64.wrap (stock - (y3.length : Int)) = st := fun q => by
    have := hI q
    rw [hst]; exact IntWalk.i64_in _ (by omega)
  have hz0 : bb = false → zz = ([], [], [], []) ∧ ss = 0 := fun q => by subst q; exact ⟨hzz, hss⟩
  have hz1 : bb = true → zz = (y1, y2, y3, y4) ∧ ss = st := fun q => by subst q; exact ⟨hzz, by rw [hss, hst]; rfl⟩
  have HW := Lib.hid hW; have HB := Lib.hid hbb; have HZ0 := Lib.hid hz0; have HZ1 := Lib.hid hz1
  clear CN0 CW0 hzz hss hs0 h64 hst hW hbb hz0 hz1 hy hi hb hI H64
  obtain ⟨A, c, rfl, hc, hm⟩ := h.form
  have B0 := ((Below.refl w.heap.size w).al (.cells #[.slice A rows.length c] 26)).al (.cells #[.slice none 0 0, .slice none 0 0, .slice none 0 0, .slice none 0 0, .int .i64 0, .int .i64 0, .int .i64 0] 32)
  have bX := (Blk.new_ w 26 #[.slice A rows.length c]).alloc (.cells #[.slice none 0 0, .slice none 0 0, .slice none 0 0, .slice none 0 0, .int .i64 0, .int .i64 0, .int .i64 0] 32)
  have bR := Blk.new2 (w.alloc (.cells #[.slice A rows.length c] 26)) 32 #[.slice none 0 0, .slice none 0 0, .slice none 0 0, .slice none 0 0, .int .i64 0, .int .i64 0, .int .i64 0] (w.heap.size + 1) (by simp)
  go_enter Try.func11, Try.ntmps11
  go_wp2_with fail
  refine (CN _ _ (h.below RE.stays B0)).mono ?_
  rintro e w1 ⟨A1, c1, A2, c2, A3, c3, A4, c4, rfl, oY, hb1⟩
  have oY := (oY.mono B0.size).alloc (.cells #[.slice none 0 0, .slice none 0 0, .slice none 0 0, .slice none 0 0] 30)
  have B1 := (B0.tr hb1).al (.cells #[.slice none 0 0, .slice none 0 0, .slice none 0 0, .slice none 0 0] 30)
  have bR1 := (bR.bl hb1).alloc (.cells #[.slice none 0 0, .slice none 0 0, .slice none 0 0, .slice none 0 0] 30)
  have bO := Blk.new_ w1 30 #[.slice none 0 0, .slice none 0 0, .slice none 0 0, .slice none 0 0]
  have hgO : w.heap.size ≤ w1.heap.size := (B0.tr hb1).size
  have hRl := (bR.bl hb1).lt
  obtain ⟨gR, hgR'⟩ : ∃ g, g = w.heap.size + 1 := ⟨_, rfl⟩
  have hgR : w.heap.size ≤ gR := by omega
  rw [← hgR'] at bR1 hRl ⊢
  clear hgR' hb1 B0 bX bR
  cases b
  · obtain rfl : bb = false := by rw [HB.out]; rfl
    obtain rfl : ([], [], [], []) = zz := (HZ0.out rfl).1.symm
    obtain rfl : 0 = ss := (HZ0.out rfl).2.symm
    go_wp2_with (first | (refine wpList_storeRowN rfl 30 _ _ rfl w1.heap.size #[.slice A1 y1.length c1, .slice A2 y2.length c2, .slice A3 y3.length c3, .slice A4 y4.length c4] rfl rfl _ _ bO (by kernel_rfl) rfl (by simp [Value.oneCell']) ?_; intro wS bS hgS; have oS := OwnFl.rowI oY bO (by decide) (by decide) (by decide) hgS; have bRS := bR1.grown hgS (by simp; omega); have BS := B1.grown hgS B1.size (fun k hk => by injection hk with hk; subst hk; exact hgO); have y_0 := bS.cell 0; have y_1 := bS.cell 1; have y_2 := bS.cell 2; have y_3 := bS.cell 3; simp only [List.getElem?_toArray, List.getElem?_cons_zero, List.getElem?_cons_succ] at y_0 y_1 y_2 y_3) | (refine wpList_storeRowN rfl 32 _ _ rfl gR #[.slice none 0 0, .slice none 0 0, .slice none 0 0, .slice none 0 0, .int .i64 0, .int .i64 0, .int .i64 0] rfl rfl _ _ bRS (by kernel_rfl) rfl (by simp [Value.oneCell']) ?_; intro wE bE hgE))
    have oE : OwnFl w.heap.size wE _ _ _ _ _ := OwnFl.rowI (own_zero w.heap.size wS) bRS (by decide) (by decide) (by decide) hgE
    have BE := BS.grown hgE BS.size (fun k hk => by injection hk with hk; subst hk; exact hgR)
    have q_0 := bE.cell 0
    have q_1 := bE.cell 1
    have q_2 := bE.cell 2
    have q_3 := bE.cell 3
    have q_4 := bE.cell 4
    have q_5 := bE.cell 5
    have q_6 := bE.cell 6
    simp only [List.getElem?_toArray, List.getElem?_cons_zero, List.getElem?_cons_succ] at q_0 q_1 q_2 q_3 q_4 q_5 q_6
    refine bodyPost_ret (v := .tuple #[.agg #[.slice none 0 0, .slice none 0 0, .slice none 0 0, .slice none 0 0, .int .i64 0, .int .i64 0, .int .i64 0], .bool false]) (by simp [results, Try.results11, go_sem, q_0, q_1, q_2, q_3, q_4, q_5, q_6]) rfl ⟨none, 0, none, 0, none, 0, none, 0, rfl, oE, BE⟩
  · cases i
    · obtain rfl : bb = false := by rw [HB.out]; rfl
      obtain rfl : ([], [], [], []) = zz := (HZ0.out rfl).1.symm
      obtain rfl : 0 = ss := (HZ0.out rfl).2.symm
      go_wp2_with (first | (refine wpList_storeRowN rfl 30 _ _ rfl w1.heap.size #[.slice A1 y1.length c1, .slice A2 y2.length c2, .slice A3 y3.length c3, .slice A4 y4.length c4] rfl rfl _ _ bO (by kernel_rfl) rfl (by simp [Value.oneCell']) ?_; intro wS bS hgS; have oS := OwnFl.rowI oY bO (by decide) (by decide) (by decide) hgS; have bRS := bR1.grown hgS (by simp; omega); have BS := B1.grown hgS B1.size (fun k hk => by injection hk with hk; subst hk; exact hgO); have y_0 := bS.cell 0; have y_1 := bS.cell 1; have y_2 := bS.cell 2; have y_3 := bS.cell 3; simp only [List.getElem?_toArray, List.getElem?_cons_zero, List.getElem?_cons_succ] at y_0 y_1 y_2 y_3) | (go_at_call 53; (with_reducible refine (CI _).mono ?_); rintro e w' ⟨rfl, rfl⟩) | (refine wpList_storeRowN rfl 32 _ _ rfl gR #[.slice none 0 0, .slice none 0 0, .slice none 0 0, .slice none 0 0, .int .i64 0, .int .i64 0, .int .i64 0] rfl rfl _ _ bRS (by kernel_rfl) rfl (by simp [Value.oneCell']) ?_; intro wE bE hgE))
      have oE : OwnFl w.heap.size wE _ _ _ _ _ := OwnFl.rowI (own_zero w.heap.size wS) bRS (by decide) (by decide) (by decide) hgE
      have BE := BS.grown hgE BS.size (fun k hk => by injection hk with hk; subst hk; exact hgR)
      have q_0 := bE.cell 0
      have q_1 := bE.cell 1
      have q_2 := bE.cell 2
      have q_3 := bE.cell 3
      have q_4 := bE.cell 4
      have q_5 := bE.cell 5
      have q_6 := bE.cell 6
      simp only [List.getElem?_toArray, List.getElem?_cons_zero, List.getElem?_cons_succ] at q_0 q_1 q_2 q_3 q_4 q_5 q_6
      refine bodyPost_ret (v := .tuple #[.agg #[.slice none 0 0, .slice none 0 0, .slice none 0 0, .slice none 0 0, .int .i64 0, .int .i64 0, .int .i64 0], .bool false]) (by simp [results, Try.results11, go_sem, q_0, q_1, q_2, q_3, q_4, q_5, q_6]) rfl ⟨none, 0, none, 0, none, 0, none, 0, rfl, oE, BE⟩
    · have hw := HW.out rfl
      go_wp2_with (first | (refine wpList_storeRowN rfl 30 _ _ rfl w1.heap.size #[.slice A1 y1.length c1, .slice A2 y2.length c2, .slice A3 y3.length c3, .slice A4 y4.length c4] rfl rfl _ _ bO (by kernel_rfl) rfl (by simp [Value.oneCell']) ?_; intro wS bS hgS; have oS := OwnFl.rowI oY bO (by decide) (by decide) (by decide) hgS; have bRS := bR1.grown hgS (by simp; omega); have BS := B1.grown hgS B1.size (fun k hk => by injection hk with hk; subst hk; exact hgO); have y_0 := bS.cell 0; have y_1 := bS.cell 1; have y_2 := bS.cell 2; have y_3 := bS.cell 3; simp only [List.getElem?_toArray, List.getElem?_cons_zero, List.getElem?_cons_succ] at y_0 y_1 y_2 y_3) | (go_at_call 53; (with_reducible refine (CI _).mono ?_); rintro e w' ⟨rfl, rfl⟩) | (refine wpList_storeRowN rfl 32 _ _ rfl wS.heap.size #[.slice A1 y1.length c1, .slice A2 y2.length c2, .slice A3 y3.length c3, .slice A4 y4.length c4, .int .i64 st, .int .i64 0, .int .i64 0] rfl rfl _ _ (Blk.new_ wS 32 #[.slice none 0 0, .slice none 0 0, .slice none 0 0, .slice none 0 0, .int .i64 0, .int .i64 0, .int .i64 0]) (by kernel_rfl) rfl (by simp [Value.oneCell']) ?_; intro wU bU hgU; have oU := OwnFl.rowI (oS.alloc (.cells #[.slice none 0 0, .slice none 0 0, .slice none 0 0, .slice none 0 0, .int .i64 0, .int .i64 0, .int .i64 0] 32)) (Blk.new_ wS 32 #[.slice none 0 0, .slice none 0 0, .slice none 0 0, .slice none 0 0, .int .i64 0, .int .i64 0, .int .i64 0]) (by decide) (by decide) (by decide) hgU; have bRU := (bRS.alloc (.cells #[.slice none 0 0, .slice none 0 0, .slice none 0 0, .slice none 0 0, .int .i64 0, .int .i64 0, .int .i64 0] 32)).grown hgU (by have := bRS.lt; simp; omega); have BU := (BS.al (.cells #[.slice none 0 0, .slice none 0 0, .slice none 0 0, .slice none 0 0, .int .i64 0, .int .i64 0, .int .i64 0] 32)).grown hgU (BS.al (.cells #[.slice none 0 0, .slice none 0 0, .slice none 0 0, .slice none 0 0, .int .i64 0, .int .i64 0, .int .i64 0] 32)).size (fun k hk => by injection hk with hk; subst hk; exact BS.size); have p_0 := bU.cell 0; have p_1 := bU.cell 1; have p_2 := bU.cell 2; have p_3 := bU.cell 3; have p_4 := bU.cell 4; have p_5 := bU.cell 5; have p_6 := bU.cell 6; simp only [List.getElem?_toArray, List.getElem?_cons_zero, List.getElem?_cons_succ] at p_0 p_1 p_2 p_3 p_4 p_5 p_6))
      refine (CW _ _ _ _ _ (oU.ra) (oU.rb) (oU.rc) (oU.rd)).mono ?_
      rintro e w2 ⟨rfl, hb2⟩
      have B2 := BU.tr hb2
      have bR2 := bRU.bl hb2
      have bW2 := bU.bl hb2
      have oY2 := oU.below hb2
      clear p_0 p_1 p_2 p_3 p_4 p_5 p_6 y_0 y_1 y_2 y_3 BU bRU bU oU hb2 BS bRS bS oS bR1 bO B1 oY
      cases k
      · obtain rfl : bb = false := by rw [HB.out]; rfl
        obtain rfl : ([], [], [], []) = zz := (HZ0.out rfl).1.symm
        obtain rfl : 0 = ss := (HZ0.out rfl).2.symm
        go_wp2_with (refine wpList_storeRowN rfl 32 _ _ rfl gR #[.slice none 0 0, .slice none 0 0, .slice none 0 0, .slice none 0 0, .int .i64 0, .int .i64 0, .int .i64 0] rfl rfl _ _ bR2 (by kernel_rfl) rfl (by simp [Value.oneCell']) ?_; intro wE bE hgE)
        have oE : OwnFl w.heap.size wE _ _ _ _ _ := OwnFl.rowI (own_zero w.heap.size w2) bR2 (by decide) (by decide) (by decide) hgE
        have BE := B2.grown hgE B2.size (fun k hk => by injection hk with hk; subst hk; exact hgR)
        have q_0 := bE.cell 0
        have q_1 := bE.cell 1
        have q_2 := bE.cell 2
        have q_3 := bE.cell 3
        have q_4 := bE.cell 4
        have q_5 := bE.cell 5
        have q_6 := bE.cell 6
        simp only [List.getElem?_toArray, List.getElem?_cons_zero, List.getElem?_cons_succ] at q_0 q_1 q_2 q_3 q_4 q_5 q_6
        refine bodyPost_ret (v := .tuple #[.agg #[.slice none 0 0, .slice none 0 0, .slice none 0 0, .slice none 0 0, .int .i64 0, .int .i64 0, .int .i64 0], .bool false]) (by simp [results, Try.results11, go_sem, q_0, q_1, q_2, q_3, q_4, q_5, q_6]) rfl ⟨none, 0, none, 0, none, 0, none, 0, rfl, oE, BE⟩
      · obtain rfl : bb = true := by rw [HB.out]; rfl
        obtain rfl : (y1, y2, y3, y4) = zz := (HZ1.out rfl).1.symm
        obtain rfl : st = ss := (HZ1.out rfl).2.symm
        have p_0 := bW2.cell 0
        have p_1 := bW2.cell 1
        have p_2 := bW2.cell 2
        have p_3 := bW2.cell 3
        have p_4 := bW2.cell 4
        have p_5 := bW2.cell 5
        have p_6 := bW2.cell 6
        simp only [List.getElem?_toArray, List.getElem?_cons_zero, List.getElem?_cons_succ] at p_0 p_1 p_2 p_3 p_4 p_5 p_6
        go_wp2_with (refine wpList_storeRowN rfl 32 _ _ rfl gR #[.slice A1 y1.length c1, .slice A2 y2.length c2, .slice A3 y3.length c3, .slice A4 y4.length c4, .int .i64 st, .int .i64 0, .int .i64 0] rfl rfl _ _ bR2 (by kernel_rfl) rfl (by simp [Value.oneCell']) ?_; intro wE bE hgE)
        have oE : OwnFl w.heap.size wE _ _ _ _ _ := OwnFl.rowI (oY2) bR2 (by decide) (by decide) (by decide) hgE
        have BE := B2.grown hgE B2.size (fun k hk => by injection hk with hk; subst hk; exact hgR)
        have q_0 := bE.cell 0
        have q_1 := bE.cell 1
        have q_2 := bE.cell 2
        have q_3 := bE.cell 3
        have q_4 := bE.cell 4
        have q_5 := bE.cell 5
        have q_6 := bE.cell 6
        simp only [List.getElem?_toArray, List.getElem?_cons_zero, List.getElem?_cons_succ] at q_0 q_1 q_2 q_3 q_4 q_5 q_6
        refine bodyPost_ret (v := .tuple #[.agg #[.slice A1 y1.length c1, .slice A2 y2.length c2, .slice A3 y3.length c3, .slice A4 y4.length c4, .int .i64 st, .int .i64 0, .int .i64 0], .bool true]) (by simp [results, Try.results11, go_sem, q_0, q_1, q_2, q_3, q_4, q_5, q_6]) rfl ⟨A1, c1, A2, c2, A3, c3, A4, c4, rfl, oE, BE⟩
set_option maxHeartbeats 4000000 in
set_option maxRecDepth 100000 in
theorem openS_any (v : Value) (rows : List Int) (stock : Int) (k : Bool) (w : World) (h : Rd 1 RInt w v rows) (hl : Small rows.length)
    (CW0 : ∀ (u1 u2 u3 u4 : Value) (w : World), Rd 1 RInt w u1 (newFl rows).1 → Rd 3 RDom w u2 (newFl rows).2.1 → Rd 3 RDom w u3 (newFl rows).2.2.1 → Rd 2 RPair w u4 (newFl rows).2.2.2 → Calls Try.prog 50 #[.agg #[u1, u2, u3, u4, .int .i64 (stock - ((newFl rows).2.2.1.length : Int)), .int .i64 0, .int .i64 0]] w (Ret (.bool k) w)) :
    Calls Try.prog 9 #[.agg #[v], .int .i64 stock] w (RetWkB (openFl (tileB rows && inB stock 0 20000 && k) rows) (openSt (tileB rows && inB stock 0 20000 && k) rows stock) 0 0 (tileB rows && inB stock 0 20000 && k) w) := by
  have CN0 := fun (u : Value) (w : World) (k1 : Rd 1 RInt w u rows) => newS_any u rows w k1 hl
  have hs0 := new_small hl
  obtain ⟨bb, hbb⟩ : ∃ bb, bb = (tileB rows && inB stock 0 20000 && k) := ⟨_, rfl⟩
  rw [← hbb]
  obtain ⟨zz, hzz⟩ : ∃ zz, zz = openFl bb rows := ⟨_, rfl⟩
  obtain ⟨ss, hss⟩ : ∃ ss, ss = openSt bb rows stock := ⟨_, rfl⟩
  rw [← hzz, ← hss]
  unfold openFl at hzz
  unfold openSt at hss
  obtain ⟨b, hb⟩ : ∃ b, b = tileB rows := ⟨_, rfl⟩
  obtain ⟨i, hi⟩ : ∃ i, i = inB stock 0 20000 := ⟨_, rfl⟩
  have CI : ∀ (w : World), Calls Try.prog 49 #[.int .i64 stock, .int .i64 0, .int .i64 20000] w (Pure (.bool i) w) := fun w => by rw [hi]; exact in_any stock 0 20000 w
  have hI : i = true → 0 ≤ stock ∧ stock ≤ 20000 := fun q => by rw [hi] at q; simpa [inB] using q
  rw [← hb, ← hi] at hbb
  rw [← hb] at CN0
  have h64 : (newFl rows).2.2.1.length ≤ 64 := by
    unfold newFl; split
    · simp
    · exact firstRows_len rows
  obtain ⟨y, hy⟩ : ∃ y, y = newFl rows := ⟨_, rfl⟩
  rw [← hy] at CN0 CW0 hzz hss hs0 h64
  obtain ⟨y1, y2, y3, y4⟩ := y
  have CN : ∀ (u : Value) (w : World), Rd 1 RInt w u rows → Calls Try.prog 48 #[.agg #[u]] w (RetFl4 y1 y2 y3 y4 b w) := fun u w k1 => CN0 u w k1
  have H64 : y3.length ≤ 64 := h64
  obtain ⟨st, hst⟩ : ∃ st, st = stock - (y3.length : Int) := ⟨_, rfl⟩
  have CW : ∀ (u1 u2 u3 u4 : Value) (w : World), Rd 1 RInt w u1 y1 → Rd 3 RDom w u2 y2 → Rd 3 RDom w u3 y3 → Rd 2 RPair w u4 y4 → Calls Try.prog 50 #[.agg #[u1, u2, u3, u4, .int .i64 st, .int .i64 0, .int .i64 0]] w (Ret (.bool k) w) := fun u1 u2 u3 u4 w k1 k2 k3 k4 => by rw [hst]; exact CW0 u1 u2 u3 u4 w k1 k2 k3 k4
  have hW : i = true → IntKind.i64.wrap (stock - (y3.length : Int)) = st := fun q => by
    have := hI q
    rw [hst]; exact IntWalk.i64_in _ (by omega)
  have hz0 : bb = false → zz = ([], [], [], []) ∧ ss = 0 := fun q => by subst q; exact ⟨hzz, hss⟩
  have hz1 : bb = true → zz = (y1, y2, y3, y4) ∧ ss = st := fun q => by subst q; exact ⟨hzz, by rw [hss, hst]; rfl⟩
  have HW := Lib.hid hW; have HB := Lib.hid hbb; have HZ0 := Lib.hid hz0; have HZ1 := Lib.hid hz1
  clear CN0 CW0 hzz hss hs0 h64 hst hW hbb hz0 hz1 hy hi hb hI H64
  obtain ⟨A, c, rfl, hc, hm⟩ := h.form
  have B0 := ((Below.refl w.heap.size w).al (.cells #[.slice A rows.length c] 26)).al (.cells #[.slice none 0 0, .slice none 0 0, .slice none 0 0, .slice none 0 0, .int .i64 0, .int .i64 0, .int .i64 0] 32)
  have bX := (Blk.new_ w 26 #[.slice A rows.length c]).alloc (.cells #[.slice none 0 0, .slice none 0 0, .slice none 0 0, .slice none 0 0, .int .i64 0, .int .i64 0, .int .i64 0] 32)
  have bR := Blk.new2 (w.alloc (.cells #[.slice A rows.length c] 26)) 32 #[.slice none 0 0, .slice none 0 0, .slice none 0 0, .slice none 0 0, .int .i64 0, .int .i64 0, .int .i64 0] (w.heap.size + 1) (by simp)
  go_enter Try.func9, Try.ntmps9
  go_wp2_with fail
  refine (CN _ _ (h.below RE.stays B0)).mono ?_
  rintro e w1 ⟨A1, c1, A2, c2, A3, c3, A4, c4, rfl, oY, hb1⟩
  have oY := (oY.mono B0.size).alloc (.cells #[.slice none 0 0, .slice none 0 0, .slice none 0 0, .slice none 0 0] 30)
  have B1 := (B0.tr hb1).al (.cells #[.slice none 0 0, .slice none 0 0, .slice none 0 0, .slice none 0 0] 30)
  have bR1 := (bR.bl hb1).alloc (.cells #[.slice none 0 0, .slice none 0 0, .slice none 0 0, .slice none 0 0] 30)
  have bO := Blk.new_ w1 30 #[.slice none 0 0, .slice none 0 0, .slice none 0 0, .slice none 0 0]
  have hgO : w.heap.size ≤ w1.heap.size := (B0.tr hb1).size
  have hRl := (bR.bl hb1).lt
  obtain ⟨gR, hgR'⟩ : ∃ g, g = w.heap.size + 1 := ⟨_, rfl⟩
  have hgR : w.heap.size ≤ gR := by omega
  rw [← hgR'] at bR1 hRl ⊢
  clear hgR' hb1 B0 bX bR
  cases b
  · obtain rfl : bb = false := by rw [HB.out]; rfl
    obtain rfl : ([], [], [], []) = zz := (HZ0.out rfl).1.symm
    obtain rfl : 0 = ss := (HZ0.out rfl).2.symm
    go_wp2_with (first | (refine wpList_storeRowN rfl 30 _ _ rfl w1.heap.size #[.slice A1 y1.length c1, .slice A2 y2.length c2, .slice A3 y3.length c3, .slice A4 y4.length c4] rfl rfl _ _ bO (by kernel_rfl) rfl (by simp [Value.oneCell']) ?_; intro wS bS hgS; have oS := OwnFl.rowI oY bO (by decide) (by decide) (by decide) hgS; have bRS := bR1.grown hgS (by simp; omega); have BS := B1.grown hgS B1.size (fun k hk => by injection hk with hk; subst hk; exact hgO); have y_0 := bS.cell 0; have y_1 := bS.cell 1; have y_2 := bS.cell 2; have y_3 := bS.cell 3; simp only [List.getElem?_toArray, List.getElem?_cons_zero, List.getElem?_cons_succ] at y_0 y_1 y_2 y_3) | (refine wpList_storeRowN rfl 32 _ _ rfl gR #[.slice none 0 0, .slice none 0 0, .slice none 0 0, .slice none 0 0, .int .i64 0, .int .i64 0, .int .i64 0] rfl rfl _ _ bRS (by kernel_rfl) rfl (by simp [Value.oneCell']) ?_; intro wE bE hgE))
    have oE : OwnFl w.heap.size wE _ _ _ _ _ := OwnFl.rowI (own_zero w.heap.size wS) bRS (by decide) (by decide) (by decide) hgE
    have BE := BS.grown hgE BS.size (fun k hk => by injection hk with hk; subst hk; exact hgR)
    have q_0 := bE.cell 0
    have q_1 := bE.cell 1
    have q_2 := bE.cell 2
    have q_3 := bE.cell 3
    have q_4 := bE.cell 4
    have q_5 := bE.cell 5
    have q_6 := bE.cell 6
    simp only [List.getElem?_toArray, List.getElem?_cons_zero, List.getElem?_cons_succ] at q_0 q_1 q_2 q_3 q_4 q_5 q_6
    refine bodyPost_ret (v := .tuple #[.agg #[.slice none 0 0, .slice none 0 0, .slice none 0 0, .slice none 0 0, .int .i64 0, .int .i64 0, .int .i64 0], .bool false]) (by simp [results, Try.results9, go_sem, q_0, q_1, q_2, q_3, q_4, q_5, q_6]) rfl ⟨none, 0, none, 0, none, 0, none, 0, rfl, oE, BE⟩
  · cases i
    · obtain rfl : bb = false := by rw [HB.out]; rfl
      obtain rfl : ([], [], [], []) = zz := (HZ0.out rfl).1.symm
      obtain rfl : 0 = ss := (HZ0.out rfl).2.symm
      go_wp2_with (first | (refine wpList_storeRowN rfl 30 _ _ rfl w1.heap.size #[.slice A1 y1.length c1, .slice A2 y2.length c2, .slice A3 y3.length c3, .slice A4 y4.length c4] rfl rfl _ _ bO (by kernel_rfl) rfl (by simp [Value.oneCell']) ?_; intro wS bS hgS; have oS := OwnFl.rowI oY bO (by decide) (by decide) (by decide) hgS; have bRS := bR1.grown hgS (by simp; omega); have BS := B1.grown hgS B1.size (fun k hk => by injection hk with hk; subst hk; exact hgO); have y_0 := bS.cell 0; have y_1 := bS.cell 1; have y_2 := bS.cell 2; have y_3 := bS.cell 3; simp only [List.getElem?_toArray, List.getElem?_cons_zero, List.getElem?_cons_succ] at y_0 y_1 y_2 y_3) | (go_at_call 49; (with_reducible refine (CI _).mono ?_); rintro e w' ⟨rfl, rfl⟩) | (refine wpList_storeRowN rfl 32 _ _ rfl gR #[.slice none 0 0, .slice none 0 0, .slice none 0 0, .slice none 0 0, .int .i64 0, .int .i64 0, .int .i64 0] rfl rfl _ _ bRS (by kernel_rfl) rfl (by simp [Value.oneCell']) ?_; intro wE bE hgE))
      have oE : OwnFl w.heap.size wE _ _ _ _ _ := OwnFl.rowI (own_zero w.heap.size wS) bRS (by decide) (by decide) (by decide) hgE
      have BE := BS.grown hgE BS.size (fun k hk => by injection hk with hk; subst hk; exact hgR)
      have q_0 := bE.cell 0
      have q_1 := bE.cell 1
      have q_2 := bE.cell 2
      have q_3 := bE.cell 3
      have q_4 := bE.cell 4
      have q_5 := bE.cell 5
      have q_6 := bE.cell 6
      simp only [List.getElem?_toArray, List.getElem?_cons_zero, List.getElem?_cons_succ] at q_0 q_1 q_2 q_3 q_4 q_5 q_6
      refine bodyPost_ret (v := .tuple #[.agg #[.slice none 0 0, .slice none 0 0, .slice none 0 0, .slice none 0 0, .int .i64 0, .int .i64 0, .int .i64 0], .bool false]) (by simp [results, Try.results9, go_sem, q_0, q_1, q_2, q_3, q_4, q_5, q_6]) rfl ⟨none, 0, none, 0, none, 0, none, 0, rfl, oE, BE⟩
    · have hw := HW.out rfl
      go_wp2_with (first | (refine wpList_storeRowN rfl 30 _ _ rfl w1.heap.size #[.slice A1 y1.length c1, .slice A2 y2.length c2, .slice A3 y3.length c3, .slice A4 y4.length c4] rfl rfl _ _ bO (by kernel_rfl) rfl (by simp [Value.oneCell']) ?_; intro wS bS hgS; have oS := OwnFl.rowI oY bO (by decide) (by decide) (by decide) hgS; have bRS := bR1.grown hgS (by simp; omega); have BS := B1.grown hgS B1.size (fun k hk => by injection hk with hk; subst hk; exact hgO); have y_0 := bS.cell 0; have y_1 := bS.cell 1; have y_2 := bS.cell 2; have y_3 := bS.cell 3; simp only [List.getElem?_toArray, List.getElem?_cons_zero, List.getElem?_cons_succ] at y_0 y_1 y_2 y_3) | (go_at_call 49; (with_reducible refine (CI _).mono ?_); rintro e w' ⟨rfl, rfl⟩) | (refine wpList_storeRowN rfl 32 _ _ rfl wS.heap.size #[.slice A1 y1.length c1, .slice A2 y2.length c2, .slice A3 y3.length c3, .slice A4 y4.length c4, .int .i64 st, .int .i64 0, .int .i64 0] rfl rfl _ _ (Blk.new_ wS 32 #[.slice none 0 0, .slice none 0 0, .slice none 0 0, .slice none 0 0, .int .i64 0, .int .i64 0, .int .i64 0]) (by kernel_rfl) rfl (by simp [Value.oneCell']) ?_; intro wU bU hgU; have oU := OwnFl.rowI (oS.alloc (.cells #[.slice none 0 0, .slice none 0 0, .slice none 0 0, .slice none 0 0, .int .i64 0, .int .i64 0, .int .i64 0] 32)) (Blk.new_ wS 32 #[.slice none 0 0, .slice none 0 0, .slice none 0 0, .slice none 0 0, .int .i64 0, .int .i64 0, .int .i64 0]) (by decide) (by decide) (by decide) hgU; have bRU := (bRS.alloc (.cells #[.slice none 0 0, .slice none 0 0, .slice none 0 0, .slice none 0 0, .int .i64 0, .int .i64 0, .int .i64 0] 32)).grown hgU (by have := bRS.lt; simp; omega); have BU := (BS.al (.cells #[.slice none 0 0, .slice none 0 0, .slice none 0 0, .slice none 0 0, .int .i64 0, .int .i64 0, .int .i64 0] 32)).grown hgU (BS.al (.cells #[.slice none 0 0, .slice none 0 0, .slice none 0 0, .slice none 0 0, .int .i64 0, .int .i64 0, .int .i64 0] 32)).size (fun k hk => by injection hk with hk; subst hk; exact BS.size); have p_0 := bU.cell 0; have p_1 := bU.cell 1; have p_2 := bU.cell 2; have p_3 := bU.cell 3; have p_4 := bU.cell 4; have p_5 := bU.cell 5; have p_6 := bU.cell 6; simp only [List.getElem?_toArray, List.getElem?_cons_zero, List.getElem?_cons_succ] at p_0 p_1 p_2 p_3 p_4 p_5 p_6))
      refine (CW _ _ _ _ _ (oU.ra) (oU.rb) (oU.rc) (oU.rd)).mono ?_
      rintro e w2 ⟨rfl, hb2⟩
      have B2 := BU.tr hb2
      have bR2 := bRU.bl hb2
      have bW2 := bU.bl hb2
      have oY2 := oU.below hb2
      clear p_0 p_1 p_2 p_3 p_4 p_5 p_6 y_0 y_1 y_2 y_3 BU bRU bU oU hb2 BS bRS bS oS bR1 bO B1 oY
      cases k
      · obtain rfl : bb = false := by rw [HB.out]; rfl
        obtain rfl : ([], [], [], []) = zz := (HZ0.out rfl).1.symm
        obtain rfl : 0 = ss := (HZ0.out rfl).2.symm
        go_wp2_with (refine wpList_storeRowN rfl 32 _ _ rfl gR #[.slice none 0 0, .slice none 0 0, .slice none 0 0, .slice none 0 0, .int .i64 0, .int .i64 0, .int .i64 0] rfl rfl _ _ bR2 (by kernel_rfl) rfl (by simp [Value.oneCell']) ?_; intro wE bE hgE)
        have oE : OwnFl w.heap.size wE _ _ _ _ _ := OwnFl.rowI (own_zero w.heap.size w2) bR2 (by decide) (by decide) (by decide) hgE
        have BE := B2.grown hgE B2.size (fun k hk => by injection hk with hk; subst hk; exact hgR)
        have q_0 := bE.cell 0
        have q_1 := bE.cell 1
        have q_2 := bE.cell 2
        have q_3 := bE.cell 3
        have q_4 := bE.cell 4
        have q_5 := bE.cell 5
        have q_6 := bE.cell 6
        simp only [List.getElem?_toArray, List.getElem?_cons_zero, List.getElem?_cons_succ] at q_0 q_1 q_2 q_3 q_4 q_5 q_6
        refine bodyPost_ret (v := .tuple #[.agg #[.slice none 0 0, .slice none 0 0, .slice none 0 0, .slice none 0 0, .int .i64 0, .int .i64 0, .int .i64 0], .bool false]) (by simp [results, Try.results9, go_sem, q_0, q_1, q_2, q_3, q_4, q_5, q_6]) rfl ⟨none, 0, none, 0, none, 0, none, 0, rfl, oE, BE⟩
      · obtain rfl : bb = true := by rw [HB.out]; rfl
        obtain rfl : (y1, y2, y3, y4) = zz := (HZ1.out rfl).1.symm
        obtain rfl : st = ss := (HZ1.out rfl).2.symm
        have p_0 := bW2.cell 0
        have p_1 := bW2.cell 1
        have p_2 := bW2.cell 2
        have p_3 := bW2.cell 3
        have p_4 := bW2.cell 4
        have p_5 := bW2.cell 5
        have p_6 := bW2.cell 6
        simp only [List.getElem?_toArray, List.getElem?_cons_zero, List.getElem?_cons_succ] at p_0 p_1 p_2 p_3 p_4 p_5 p_6
        go_wp2_with (refine wpList_storeRowN rfl 32 _ _ rfl gR #[.slice A1 y1.length c1, .slice A2 y2.length c2, .slice A3 y3.length c3, .slice A4 y4.length c4, .int .i64 st, .int .i64 0, .int .i64 0] rfl rfl _ _ bR2 (by kernel_rfl) rfl (by simp [Value.oneCell']) ?_; intro wE bE hgE)
        have oE : OwnFl w.heap.size wE _ _ _ _ _ := OwnFl.rowI (oY2) bR2 (by decide) (by decide) (by decide) hgE
        have BE := B2.grown hgE B2.size (fun k hk => by injection hk with hk; subst hk; exact hgR)
        have q_0 := bE.cell 0
        have q_1 := bE.cell 1
        have q_2 := bE.cell 2
        have q_3 := bE.cell 3
        have q_4 := bE.cell 4
        have q_5 := bE.cell 5
        have q_6 := bE.cell 6
        simp only [List.getElem?_toArray, List.getElem?_cons_zero, List.getElem?_cons_succ] at q_0 q_1 q_2 q_3 q_4 q_5 q_6
        refine bodyPost_ret (v := .tuple #[.agg #[.slice A1 y1.length c1, .slice A2 y2.length c2, .slice A3 y3.length c3, .slice A4 y4.length c4, .int .i64 st, .int .i64 0, .int .i64 0], .bool true]) (by simp [results, Try.results9, go_sem, q_0, q_1, q_2, q_3, q_4, q_5, q_6]) rfl ⟨A1, c1, A2, c2, A3, c3, A4, c4, rfl, oE, BE⟩
end Go.Proofs.Ytmmeomjclfgljaa
