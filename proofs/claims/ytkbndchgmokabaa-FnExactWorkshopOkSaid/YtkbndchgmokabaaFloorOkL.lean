/- The laws FnExactFloorOk and FnExactWorkshopOk: floors and workshops copied and compared, and the walks of the laws. No conditions. -/
import Derived.Test.YtkbndchgmokabaaFlipS3
import Derived.Test.YtkbndchgmokabaaRegConv
namespace Go.Proofs.Ytkbndchgmokabaa
open Go.ChangeShapes Go.WideShapes Go.ChangeAt Go.RowKit
set_option linter.unusedVariables false
set_option linter.unusedSimpArgs false

abbrev Fl := List Int × List Dm × List Dm × List Cl
def RFloor (w : World) (cs : List Value) (x : Fl) : Prop := ∃ a b c d, cs = a ++ b ++ c ++ d ∧ RSl 1 RInt w a x.1 ∧ RSl 3 RDom w b x.2.1 ∧ RSl 3 RDom w c x.2.2.1 ∧ RSl 2 RPair w d x.2.2.2
def FloorIn (x : Fl) : Prop := AllOk I64 x.1 ∧ AllOk (fun x => I64 x.1 ∧ I64 x.2.1 ∧ Always x.2.2) x.2.1 ∧ AllOk (fun x => I64 x.1 ∧ I64 x.2.1 ∧ Always x.2.2) x.2.2.1 ∧ AllOk (fun x => I64 x.1 ∧ I64 x.2) x.2.2.2
theorem o_floor {W : World} : Opens Try.prog W 95 4 RFloor FloorIn :=
  Opens.struct4 (n0 := 1) (n1 := 1) (n2 := 1) (n3 := 1) Try.underlying95 (by kernel_rfl) rfl rfl rfl rfl o_region o_doms o_doms o_cells
theorem RFloor.form {w : World} {cs : List Value} {x : Fl} (h : RFloor w cs x) : ∃ v1 v2 v3 v4, cs = [v1, v2, v3, v4] ∧ Rd 1 RInt w v1 x.1 ∧ Rd 3 RDom w v2 x.2.1 ∧ Rd 3 RDom w v3 x.2.2.1 ∧ Rd 2 RPair w v4 x.2.2.2 := by
  obtain ⟨a, b, c, d, rfl, ⟨v1, rfl, h1⟩, ⟨v2, rfl, h2⟩, ⟨v3, rfl, h3⟩, ⟨v4, rfl, h4⟩⟩ := h
  exact ⟨v1, v2, v3, v4, rfl, h1, h2, h3, h4⟩
/-- The call returned a floor of its own, and wrote nothing that was there. -/
def RetFloor (x : Fl) (w : World) (e : Ending) (w' : World) : Prop := ∃ A1 c1 A2 c2 A3 c3 A4 c4, e = .returned (.agg #[.slice A1 x.1.length c1, .slice A2 x.2.1.length c2, .slice A3 x.2.2.1.length c3, .slice A4 x.2.2.2.length c4]) ∧
  OwnL 3 1 eInt w.heap.size w' (.slice A1 x.1.length c1) x.1 ∧ OwnL 73 3 eDom w.heap.size w' (.slice A2 x.2.1.length c2) x.2.1 ∧ OwnL 73 3 eDom w.heap.size w' (.slice A3 x.2.2.1.length c3) x.2.2.1 ∧ OwnL 70 2 ePair w.heap.size w' (.slice A4 x.2.2.2.length c4) x.2.2.2 ∧ Below w.heap.size w w'
def Small4 (x : Fl) : Prop := Small x.1.length ∧ Small x.2.1.length ∧ Small x.2.2.1.length ∧ Small x.2.2.2.length
set_option maxHeartbeats 2000000 in
set_option maxRecDepth 100000 in
theorem toFloor_any (v1 v2 v3 v4 : Value) (x : Fl) (w : World) (h1 : Rd 1 RInt w v1 x.1) (h2 : Rd 3 RDom w v2 x.2.1) (h3 : Rd 3 RDom w v3 x.2.2.1) (h4 : Rd 2 RPair w v4 x.2.2.2) (hs : Small4 x) : Calls Try.prog 75 #[.agg #[v1, v2, v3, v4]] w (RetFloor x w) := by
  obtain ⟨rows, f, n, cs⟩ := x
  simp only at h1 h2 h3 h4
  obtain ⟨s1, s2, s3, s4⟩ := hs
  simp only at s1 s2 s3 s4
  obtain ⟨A1, c1, rfl, hc1, hm1⟩ := h1.form
  obtain ⟨A2, c2, rfl, hc2, hm2⟩ := h2.form
  obtain ⟨A3, c3, rfl, hc3, hm3⟩ := h3.form
  obtain ⟨A4, c4, rfl, hc4, hm4⟩ := h4.form
  obtain ⟨L, hL⟩ : ∃ L : Array Value, L = #[.slice A1 rows.length c1, .slice A2 f.length c2, .slice A3 n.length c3, .slice A4 cs.length c4] := ⟨_, rfl⟩
  have hA := (((Below.refl w.heap.size w).al (.cells #[.slice A1 rows.length c1, .slice A2 f.length c2, .slice A3 n.length c3, .slice A4 cs.length c4] 95)).al (.cells #[.slice none 0 0, .slice none 0 0, .slice none 0 0, .slice none 0 0] 88)).al (.cells #[.slice none 0 0, .slice none 0 0, .slice none 0 0, .slice none 0 0] 88)
  have bA := ((Blk.new_ w 95 #[.slice A1 rows.length c1, .slice A2 f.length c2, .slice A3 n.length c3, .slice A4 cs.length c4]).alloc (.cells #[.slice none 0 0, .slice none 0 0, .slice none 0 0, .slice none 0 0] 88)).alloc (.cells #[.slice none 0 0, .slice none 0 0, .slice none 0 0, .slice none 0 0] 88)
  have bR := (Blk.new2 (w.alloc (.cells #[.slice A1 rows.length c1, .slice A2 f.length c2, .slice A3 n.length c3, .slice A4 cs.length c4] 95)) 88 #[.slice none 0 0, .slice none 0 0, .slice none 0 0, .slice none 0 0] (w.heap.size + 1) (by simp)).alloc (.cells #[.slice none 0 0, .slice none 0 0, .slice none 0 0, .slice none 0 0] 88)
  have bO := Blk.new2 ((w.alloc (.cells #[.slice A1 rows.length c1, .slice A2 f.length c2, .slice A3 n.length c3, .slice A4 cs.length c4] 95)).alloc (.cells #[.slice none 0 0, .slice none 0 0, .slice none 0 0, .slice none 0 0] 88)) 88 #[.slice none 0 0, .slice none 0 0, .slice none 0 0, .slice none 0 0] (w.heap.size + 1 + 1) (by simp)
  clear hL L
  go_enter Try.func75, Try.ntmps75
  go_wp2_with fail
  refine (toRegion_any _ rows _ (h1.below RE.stays hA) s1).mono ?_
  rintro e w1 ⟨B1, d1, rfl, own1, hb1⟩
  have bA1 := bA.bl hb1
  have bR1 := bR.bl hb1
  have bO1 := bO.bl hb1
  have BB1 := hA.tr hb1
  have own1 := own1.mono hA.size
  clear bA bR bO hb1 hA
  obtain ⟨gA, hgA⟩ : ∃ g, g = w.heap.size := ⟨_, rfl⟩
  obtain ⟨gR, hgR⟩ : ∃ g, g = w.heap.size + 1 := ⟨_, rfl⟩
  obtain ⟨gO, hgO⟩ : ∃ g, g = w.heap.size + 1 + 1 := ⟨_, rfl⟩
  have hAO : gA ≠ gO := by omega
  have hRO : gR ≠ gO := by omega
  have hAR : gA ≠ gR := by omega
  have hO : w.heap.size ≤ gO := by omega
  have hR : w.heap.size ≤ gR := by omega
  rw [← hgO] at bO1 ⊢
  rw [← hgR] at bR1 ⊢
  rw [← hgA] at bA1 ⊢
  clear hgA hgR hgO
  have zA := bA1.cell 1
  have zO := bO1.cell 0
  simp only [List.getElem?_toArray, List.getElem?_cons_zero, List.getElem?_cons_succ] at zA zO
  have fO : ∀ j, w1.frozen? ⟨gO, j, none⟩ = false := fun j => bO1.frozen j
  have hOA := hAO.symm
  have bA2 := bA1.far (p := ⟨gO, 0, none⟩) hAO (.slice B1 rows.length d1)
  have bR2 := bR1.far (p := ⟨gO, 0, none⟩) hRO (.slice B1 rows.length d1)
  have bO2 := bO1.set_ 0 (.slice B1 rows.length d1)
  have own12 := own1.far (a := ⟨gO, 0, none⟩) (own1.apart bO1 (by decide)) (.slice B1 rows.length d1)
  have BB2 := BB1.st ⟨gO, 0, none⟩ (.slice B1 rows.length d1) hO
  go_wp2_with fail
  refine (toDoms_any _ f _ (h2.below RE.stays BB2) s2).mono ?_
  rintro e w2 ⟨B2, d2, rfl, own2, hb2⟩
  have bA3 := bA2.bl hb2
  have bR3 := bR2.bl hb2
  have bO3 := bO2.bl hb2
  have own13 := own12.below hb2
  have BB3 := BB2.tr hb2
  have own2 := own2.mono BB2.size
  clear zA zO fO bA1 bR1 bO1 own1 bA2 bR2 bO2 own12 hb2
  have zA := bA3.cell 2
  have zO := bO3.cell 1
  simp at zA zO
  have fO : ∀ j, w2.frozen? ⟨gO, j, none⟩ = false := fun j => bO3.frozen j
  have bA4 := bA3.far (p := ⟨gO, 1, none⟩) hAO (.slice B2 f.length d2)
  have bR4 := bR3.far (p := ⟨gO, 1, none⟩) hRO (.slice B2 f.length d2)
  have bO4 := bO3.set_ 1 (.slice B2 f.length d2)
  have own14 := own13.far (a := ⟨gO, 1, none⟩) (own13.apart bO3 (by decide)) (.slice B2 f.length d2)
  have own24 := own2.far (a := ⟨gO, 1, none⟩) (own2.apart bO3 (by decide)) (.slice B2 f.length d2)
  have BB4 := BB3.st ⟨gO, 1, none⟩ (.slice B2 f.length d2) hO
  go_wp2_with fail
  refine (toDoms_any _ n _ (h3.below RE.stays BB4) s3).mono ?_
  rintro e w3 ⟨B3, d3, rfl, own3, hb3⟩
  have bA5 := bA4.bl hb3
  have bR5 := bR4.bl hb3
  have bO5 := bO4.bl hb3
  have own15 := own14.below hb3
  have own25 := own24.below hb3
  have BB5 := BB4.tr hb3
  have own3 := own3.mono BB4.size
  clear zA zO fO bA3 bR3 bO3 own13 own2 bA4 bR4 bO4 own14 own24 hb3
  have zA := bA5.cell 3
  have zO := bO5.cell 2
  simp at zA zO
  have fO : ∀ j, w3.frozen? ⟨gO, j, none⟩ = false := fun j => bO5.frozen j
  have bR6 := bR5.far (p := ⟨gO, 2, none⟩) hRO (.slice B3 n.length d3)
  have bO6 := bO5.set_ 2 (.slice B3 n.length d3)
  have own16 := own15.far (a := ⟨gO, 2, none⟩) (own15.apart bO5 (by decide)) (.slice B3 n.length d3)
  have own26 := own25.far (a := ⟨gO, 2, none⟩) (own25.apart bO5 (by decide)) (.slice B3 n.length d3)
  have own36 := own3.far (a := ⟨gO, 2, none⟩) (own3.apart bO5 (by decide)) (.slice B3 n.length d3)
  have BB6 := BB5.st ⟨gO, 2, none⟩ (.slice B3 n.length d3) hO
  go_wp2_with fail
  refine (toCells_any _ cs _ (h4.below RE.stays BB6) s4).mono ?_
  rintro e w4 ⟨B4, d4, rfl, own4, hb4⟩
  have bR7 := bR6.bl hb4
  have bO7 := bO6.bl hb4
  have own17 := own16.below hb4
  have own27 := own26.below hb4
  have own37 := own36.below hb4
  have BB7 := BB6.tr hb4
  have own4 := own4.mono BB6.size
  clear zA zO fO bA5 bR5 bO5 own15 own25 own3 bR6 bO6 own16 own26 own36 hb4
  have zO := bO7.cell 3
  simp at zO
  have fO : ∀ j, w4.frozen? ⟨gO, j, none⟩ = false := fun j => bO7.frozen j
  have zO0 := bO7.cell 0
  have zO1 := bO7.cell 1
  have zO2 := bO7.cell 2
  simp at zO0 zO1 zO2
  have zR0 := bR7.cell 0
  have zR1 := bR7.cell 1
  have zR2 := bR7.cell 2
  have zR3 := bR7.cell 3
  simp only [List.getElem?_toArray, List.getElem?_cons_zero, List.getElem?_cons_succ] at zR0 zR1 zR2 zR3
  have fR : ∀ j, w4.frozen? ⟨gR, j, none⟩ = false := fun j => bR7.frozen j
  have hOR := hRO.symm
  go_wp2
  have e1 : (Value.slice B1 rows.length d1).ownBlock ≠ some gO := own17.apart bO7 (by decide)
  have e2 : (Value.slice B2 f.length d2).ownBlock ≠ some gO := own27.apart bO7 (by decide)
  have e3 : (Value.slice B3 n.length d3).ownBlock ≠ some gO := own37.apart bO7 (by decide)
  have e4 : (Value.slice B4 cs.length d4).ownBlock ≠ some gO := own4.apart bO7 (by decide)
  have r1 : (Value.slice B1 rows.length d1).ownBlock ≠ some gR := own17.apart bR7 (by decide)
  have r2 : (Value.slice B2 f.length d2).ownBlock ≠ some gR := own27.apart bR7 (by decide)
  have r3 : (Value.slice B3 n.length d3).ownBlock ≠ some gR := own37.apart bR7 (by decide)
  have r4 : (Value.slice B4 cs.length d4).ownBlock ≠ some gR := own4.apart bR7 (by decide)
  obtain ⟨W8, hW8⟩ : ∃ W8, W8 = (((((w4.setCell ⟨gO, 3, none⟩ (.slice B4 cs.length d4)).setCell ⟨gR, 0, none⟩ (.slice B1 rows.length d1)).setCell ⟨gR, 1, none⟩ (.slice B2 f.length d2)).setCell ⟨gR, 2, none⟩ (.slice B3 n.length d3)).setCell ⟨gR, 3, none⟩ (.slice B4 cs.length d4)) := ⟨_, rfl⟩
  have bR8 : Blk W8 gR 88 #[.slice B1 rows.length d1, .slice B2 f.length d2, .slice B3 n.length d3, .slice B4 cs.length d4] := by
    rw [hW8]
    exact ((((bR7.far (p := ⟨gO, 3, none⟩) hRO _).st 0 _ #[.slice B1 rows.length d1, .slice none 0 0, .slice none 0 0, .slice none 0 0] rfl).st 1 _ #[.slice B1 rows.length d1, .slice B2 f.length d2, .slice none 0 0, .slice none 0 0] rfl).st 2 _ #[.slice B1 rows.length d1, .slice B2 f.length d2, .slice B3 n.length d3, .slice none 0 0] rfl).st 3 _ _ rfl
  have o1 : OwnL 3 1 eInt w.heap.size W8 (.slice B1 rows.length d1) rows := by rw [hW8]; exact ((((own17.far e1 _).far r1 _).far r1 _).far r1 _).far r1 _
  have o2 : OwnL 73 3 eDom w.heap.size W8 (.slice B2 f.length d2) f := by rw [hW8]; exact ((((own27.far e2 _).far r2 _).far r2 _).far r2 _).far r2 _
  have o3 : OwnL 73 3 eDom w.heap.size W8 (.slice B3 n.length d3) n := by rw [hW8]; exact ((((own37.far e3 _).far r3 _).far r3 _).far r3 _).far r3 _
  have o4 : OwnL 70 2 ePair w.heap.size W8 (.slice B4 cs.length d4) cs := by rw [hW8]; exact ((((own4.far e4 _).far r4 _).far r4 _).far r4 _).far r4 _
  have BB8 : Below w.heap.size w W8 := by rw [hW8]; exact ((((BB7.st _ _ hO).st _ _ hR).st _ _ hR).st _ _ hR).st _ _ hR
  rw [← hW8]
  clear hW8
  have q0 := bR8.cell 0
  have q1 := bR8.cell 1
  have q2 := bR8.cell 2
  have q3 := bR8.cell 3
  simp only [List.getElem?_toArray, List.getElem?_cons_zero, List.getElem?_cons_succ] at q0 q1 q2 q3
  refine bodyPost_ret (v := .agg #[.slice B1 rows.length d1, .slice B2 f.length d2, .slice B3 n.length d3, .slice B4 cs.length d4]) (by simp [results, Try.results75, go_sem, q0, q1, q2, q3]) rfl ⟨B1, d1, B2, d2, B3, d3, B4, d4, rfl, o1, o2, o3, o4, BB8⟩

def total (x : Fl) : Nat := x.1.length + x.2.1.length + x.2.2.1.length + x.2.2.2.length
set_option maxHeartbeats 2000000 in
set_option maxRecDepth 100000 in
theorem szFloor_ok (v1 v2 v3 v4 : Value) (x : Fl) (left : Int) (w : World) (h1 : Rd 1 RInt w v1 x.1) (h2 : Rd 3 RDom w v2 x.2.1) (h3 : Rd 3 RDom w v3 x.2.2.1) (h4 : Rd 2 RPair w v4 x.2.2.2) (hl : left ≤ 1048576) (hs : (total x : Int) ≤ left) :
    Calls Try.prog 73 #[.agg #[v1, v2, v3, v4], .int .i64 left] w (Ret (.int .i64 (left - x.1.length - x.2.1.length - x.2.2.1.length - x.2.2.2.length)) w) := by
  obtain ⟨rows, f, n, cs⟩ := x
  unfold total at hs
  simp only at h1 h2 h3 h4 hs
  obtain ⟨A1, c1, rfl, hc1, hm1⟩ := h1.form
  obtain ⟨A2, c2, rfl, hc2, hm2⟩ := h2.form
  obtain ⟨A3, c3, rfl, hc3, hm3⟩ := h3.form
  obtain ⟨A4, c4, rfl, hc4, hm4⟩ := h4.form
  have hA := (Below.refl w.heap.size w).al (.cells #[.slice A1 rows.length c1, .slice A2 f.length c2, .slice A3 n.length c3, .slice A4 cs.length c4] 95)
  have bA := Blk.new_ w 95 #[.slice A1 rows.length c1, .slice A2 f.length c2, .slice A3 n.length c3, .slice A4 cs.length c4]
  have k1 : ¬ (left - (rows.length : Int) < 0) := by omega
  have k2 : ¬ (left - (rows.length : Int) - (f.length : Int) < 0) := by omega
  have k3 : ¬ (left - (rows.length : Int) - (f.length : Int) - (n.length : Int) < 0) := by omega
  have k4 : ¬ (left - (rows.length : Int) - (f.length : Int) - (n.length : Int) - (cs.length : Int) < 0) := by omega
  go_enter Try.func73, Try.ntmps73
  go_wp2_with fail
  refine (szRegion_any _ rows left _ (h1.below RE.stays hA) (by omega) (by omega)).mono ?_
  rintro e w1 ⟨rfl, hb1⟩
  rw [szOf_ok (by omega)]
  have bA1 := bA.bl hb1
  have B1 := hA.tr hb1
  have z1 := bA1.cell 1
  have z2 := bA1.cell 2
  have z3 := bA1.cell 3
  simp only [List.getElem?_toArray, List.getElem?_cons_zero, List.getElem?_cons_succ] at z1 z2 z3
  go_wp2_with fail
  refine (szDoms_any _ f _ _ (h2.below RE.stays B1) (by omega) (by omega)).mono ?_
  rintro e w2 ⟨rfl, rfl⟩
  rw [szOf_ok (by omega)]
  go_wp2_with fail
  refine (szDoms_any _ n _ _ (h3.below RE.stays B1) (by omega) (by omega)).mono ?_
  rintro e w3 ⟨rfl, rfl⟩
  rw [szOf_ok (by omega)]
  go_wp2_with fail
  refine (szCells_any _ cs _ _ (h4.below RE.stays B1) (by omega) (by omega)).mono ?_
  rintro e w4 ⟨rfl, rfl⟩
  rw [szOf_ok (by omega)]
  go_wp2
  go_ret
  exact ⟨rfl, B1⟩
set_option maxHeartbeats 2000000 in
set_option maxRecDepth 100000 in
theorem szFloor_no (v1 v2 v3 v4 : Value) (x : Fl) (left : Int) (w : World) (h1 : Rd 1 RInt w v1 x.1) (h2 : Rd 3 RDom w v2 x.2.1) (h3 : Rd 3 RDom w v3 x.2.2.1) (h4 : Rd 2 RPair w v4 x.2.2.2) (h0 : 0 ≤ left) (hl : left ≤ 1048576) (hs : ¬ (total x : Int) ≤ left) :
    Calls Try.prog 73 #[.agg #[v1, v2, v3, v4], .int .i64 left] w (Ret (.int .i64 (-1)) w) := by
  obtain ⟨rows, f, n, cs⟩ := x
  unfold total at hs
  simp only at h1 h2 h3 h4 hs
  obtain ⟨A1, c1, rfl, hc1, hm1⟩ := h1.form
  obtain ⟨A2, c2, rfl, hc2, hm2⟩ := h2.form
  obtain ⟨A3, c3, rfl, hc3, hm3⟩ := h3.form
  obtain ⟨A4, c4, rfl, hc4, hm4⟩ := h4.form
  have hA := (Below.refl w.heap.size w).al (.cells #[.slice A1 rows.length c1, .slice A2 f.length c2, .slice A3 n.length c3, .slice A4 cs.length c4] 95)
  have bA := Blk.new_ w 95 #[.slice A1 rows.length c1, .slice A2 f.length c2, .slice A3 n.length c3, .slice A4 cs.length c4]
  go_enter Try.func73, Try.ntmps73
  go_wp2_with fail
  refine (szRegion_any _ rows left _ (h1.below RE.stays hA) (by omega) (by omega)).mono ?_
  rintro e w1 ⟨rfl, hb1⟩
  have bA1 := bA.bl hb1
  have B1 := hA.tr hb1
  by_cases k1 : (rows.length : Int) ≤ left
  · have j1 : ¬ (left - (rows.length : Int) < 0) := by omega
    rw [szOf_ok k1]
    have z1 := bA1.cell 1
    have z2 := bA1.cell 2
    have z3 := bA1.cell 3
    simp only [List.getElem?_toArray, List.getElem?_cons_zero, List.getElem?_cons_succ] at z1 z2 z3
    go_wp2_with fail
    refine (szDoms_any _ f _ _ (h2.below RE.stays B1) (by omega) (by omega)).mono ?_
    rintro e w2 ⟨rfl, rfl⟩
    by_cases k2 : (f.length : Int) ≤ left - rows.length
    · have j2 : ¬ (left - (rows.length : Int) - (f.length : Int) < 0) := by omega
      rw [szOf_ok k2]
      go_wp2_with fail
      refine (szDoms_any _ n _ _ (h3.below RE.stays B1) (by omega) (by omega)).mono ?_
      rintro e w3 ⟨rfl, rfl⟩
      by_cases k3 : (n.length : Int) ≤ left - rows.length - f.length
      · have j3 : ¬ (left - (rows.length : Int) - (f.length : Int) - (n.length : Int) < 0) := by omega
        rw [szOf_ok k3]
        go_wp2_with fail
        refine (szCells_any _ cs _ _ (h4.below RE.stays B1) (by omega) (by omega)).mono ?_
        rintro e w4 ⟨rfl, rfl⟩
        rw [szOf_no (by omega)]
        go_wp2
        go_ret
        exact ⟨rfl, B1⟩
      · rw [szOf_no k3]
        go_wp2
        go_ret
        exact ⟨rfl, B1⟩
    · rw [szOf_no k2]
      go_wp2
      go_ret
      exact ⟨rfl, B1⟩
  · rw [szOf_no k1]
    go_wp2
    go_ret
    exact ⟨rfl, B1⟩
theorem eqDomsQ (u v : Value) (l : List Dm) (w : World) (h : Rd 3 RDom w u l) (h' : Rd 3 RDom w v l) : Calls Try.prog 34 #[u, v] w (Ret (.bool true) w) := by
  have := eqDoms_any u v l l w h h'; rw [beq_self_eq_true] at this; exact this
theorem eqCellsQ (u v : Value) (l : List Cl) (w : World) (h : Rd 2 RPair w u l) (h' : Rd 2 RPair w v l) : Calls Try.prog 146 #[u, v] w (Ret (.bool true) w) := by
  have := eqCells_any u v l l w h h'; rw [beq_self_eq_true] at this; exact this
theorem eqRegionQ (u v : Value) (l : List Int) (w : World) (h : Rd 1 RInt w u l) (h' : Rd 1 RInt w v l) : Calls Try.prog 20 #[.agg #[u], .agg #[v]] w (Ret (.bool true) w) := by
  have := eqRegion_any u v l l w h h'; rw [beq_self_eq_true] at this; exact this
set_option maxHeartbeats 2000000 in
set_option maxRecDepth 100000 in
theorem eqFloor_same (u1 u2 u3 u4 v1 v2 v3 v4 : Value) (x : Fl) (w : World) (g1 : Rd 1 RInt w u1 x.1) (g2 : Rd 3 RDom w u2 x.2.1) (g3 : Rd 3 RDom w u3 x.2.2.1) (g4 : Rd 2 RPair w u4 x.2.2.2)
    (h1 : Rd 1 RInt w v1 x.1) (h2 : Rd 3 RDom w v2 x.2.1) (h3 : Rd 3 RDom w v3 x.2.2.1) (h4 : Rd 2 RPair w v4 x.2.2.2) : Calls Try.prog 70 #[.agg #[u1, u2, u3, u4], .agg #[v1, v2, v3, v4]] w (Ret (.bool true) w) := by
  obtain ⟨rows, f, n, cs⟩ := x
  simp only at h1 h2 h3 h4 g1 g2 g3 g4
  have hA := ((Below.refl w.heap.size w).al (.cells #[u1, u2, u3, u4] 88)).al (.cells #[v1, v2, v3, v4] 88)
  have bU := (Blk.new_ w 88 #[u1, u2, u3, u4]).alloc (.cells #[v1, v2, v3, v4] 88)
  have bV := Blk.new2 (w.alloc (.cells #[u1, u2, u3, u4] 88)) 88 #[v1, v2, v3, v4] (w.heap.size + 1) (by simp)
  obtain ⟨A1, c1, rfl, hc1, hm1⟩ := g1.form
  obtain ⟨A2, c2, rfl, hc2, hm2⟩ := g2.form
  obtain ⟨A3, c3, rfl, hc3, hm3⟩ := g3.form
  obtain ⟨A4, c4, rfl, hc4, hm4⟩ := g4.form
  obtain ⟨D1, d1, rfl, hd1, he1⟩ := h1.form
  obtain ⟨D2, d2, rfl, hd2, he2⟩ := h2.form
  obtain ⟨D3, d3, rfl, hd3, he3⟩ := h3.form
  obtain ⟨D4, d4, rfl, hd4, he4⟩ := h4.form
  clear hc1 hc2 hc3 hc4 hd1 hd2 hd3 hd4 hm1 hm2 hm3 hm4 he1 he2 he3 he4
  go_enter Try.func70, Try.ntmps70
  go_wp2_with fail
  refine (eqRegionQ _ _ rows _ (g1.below RE.stays hA) (h1.below RE.stays hA)).mono ?_
  rintro e w1 ⟨rfl, hb1⟩
  have B1 := hA.tr hb1
  have bU1 := bU.bl hb1
  have bV1 := bV.bl hb1
  have zU := bU1.cell 1
  have zV := bV1.cell 1
  simp only [List.getElem?_toArray, List.getElem?_cons_zero, List.getElem?_cons_succ] at zU zV
  go_wp2_with fail
  refine (eqDomsQ _ _ f _ (g2.below RE.stays B1) (h2.below RE.stays B1)).mono ?_
  rintro e w2 ⟨rfl, hb2⟩
  have B2 := B1.tr hb2
  have bU2 := bU1.bl hb2
  have bV2 := bV1.bl hb2
  clear zU zV
  have zU := bU2.cell 2
  have zV := bV2.cell 2
  simp only [List.getElem?_toArray, List.getElem?_cons_zero, List.getElem?_cons_succ] at zU zV
  go_wp2_with fail
  refine (eqDomsQ _ _ n _ (g3.below RE.stays B2) (h3.below RE.stays B2)).mono ?_
  rintro e w3 ⟨rfl, hb3⟩
  have B3 := B2.tr hb3
  have bU3 := bU2.bl hb3
  have bV3 := bV2.bl hb3
  clear zU zV
  have zU := bU3.cell 3
  have zV := bV3.cell 3
  simp only [List.getElem?_toArray, List.getElem?_cons_zero, List.getElem?_cons_succ] at zU zV
  go_wp2_with fail
  refine (eqCellsQ _ _ cs _ (g4.below RE.stays B3) (h4.below RE.stays B3)).mono ?_
  rintro e w4 ⟨rfl, hb4⟩
  go_wp2
  go_ret
  exact ⟨rfl, B3.tr hb4⟩
set_option maxHeartbeats 4000000 in
set_option maxRecDepth 100000 in
theorem FnExactFloorOk_walk (w : World) (cs : List Value) (x : Fl) (h : RFloor w cs x) (okx : FloorIn x) : Calls Try.prog 13 #[.agg cs.toArray] w (Ret (.bool true) w) := by
  obtain ⟨v1, v2, v3, v4, rfl, h1, h2, h3, h4⟩ := h.form
  obtain ⟨rows, f, n, fl⟩ := x
  simp only at h1 h2 h3 h4
  obtain ⟨P1, q1, rfl, _, _⟩ := h1.form
  obtain ⟨P2, q2, rfl, _, _⟩ := h2.form
  obtain ⟨P3, q3, rfl, _, _⟩ := h3.form
  obtain ⟨P4, q4, rfl, _, _⟩ := h4.form
  have hA := (Below.refl w.heap.size w).al (.cells #[.slice P1 rows.length q1, .slice P2 f.length q2, .slice P3 n.length q3, .slice P4 fl.length q4] 95)
  have bA := Blk.new_ w 95 #[.slice P1 rows.length q1, .slice P2 f.length q2, .slice P3 n.length q3, .slice P4 fl.length q4]
  by_cases hsz : (total (rows, f, n, fl) : Int) ≤ 1048576
  · have hs4 : Small4 (rows, f, n, fl) := by unfold total at hsz; unfold Small4 Small; simp only at hsz ⊢; omega
    have hk : ¬ ((1048576 : Int) - rows.length - f.length - n.length - fl.length < 0) := by unfold total at hsz; simp only at hsz; omega
    have hsf : Small f.length := hs4.2.1
    obtain ⟨R, hR⟩ : ∃ R, R = floorOk rows f n fl := ⟨_, rfl⟩
    have CS : ∀ (a b c d : Value) (w : World), Rd 1 RInt w a rows → Rd 3 RDom w b f → Rd 3 RDom w c n → Rd 2 RPair w d fl → Calls Try.prog 74 #[.agg #[a, b, c, d]] w (Ret (.bool R) w) := fun a b c d w k1 k2 k3 k4 => by rw [hR]; exact floorOkS_any a b c d rows f n fl w k1 k2 k3 k4 hsf
    have CI : ∀ (a b c d : Value) (w : World), Rd 1 RInt w a rows → Rd 3 RDom w b f → Rd 3 RDom w c n → Rd 2 RPair w d fl → Calls Try.prog 76 #[.agg #[a, b, c, d]] w (Ret (.bool R) w) := fun a b c d w k1 k2 k3 k4 => by rw [hR]; exact floorOkI_any a b c d rows f n fl w k1 k2 k3 k4 hsf
    clear hR
    have HS := Lib.hid hs4; have HZ := Lib.hid hsz; clear hs4 hsz
    go_enter Try.func13, Try.ntmps13
    go_wp2_with fail
    refine (szFloor_ok _ _ _ _ (rows, f, n, fl) _ _ (h1.below RE.stays hA) (h2.below RE.stays hA) (h3.below RE.stays hA) (h4.below RE.stays hA) (by decide) HZ.out).mono ?_
    rintro e w0 ⟨rfl, hb0⟩
    have B0 := hA.tr hb0
    have bA0 := bA.bl hb0
    clear bA hA
    have z_0 := bA0.cell 0
    have z_1 := bA0.cell 1
    have z_2 := bA0.cell 2
    have z_3 := bA0.cell 3
    simp only [List.getElem?_toArray, List.getElem?_cons_zero, List.getElem?_cons_succ] at z_0 z_1 z_2 z_3
    go_wp2_with fail
    refine (toFloor_any _ _ _ _ (rows, f, n, fl) _ (h1.below RE.stays B0) (h2.below RE.stays B0) (h3.below RE.stays B0) (h4.below RE.stays B0) HS.out).mono ?_
    rintro e w1 ⟨A1, c1, A2, c2, A3, c3, A4, c4, rfl, o1, o2, o3, o4, hb1⟩
    have B1 := B0.tr hb1
    have bA1 := bA0.bl hb1
    go_wp2_with fail
    refine (CS _ _ _ _ _ (o1.rd lenInt (by decide)) (o2.rd lenDom (by decide)) (o3.rd lenDom (by decide)) (o4.rd lenCell (by decide))).mono ?_
    rintro e w2 ⟨rfl, hb2⟩
    have B2 := B1.tr hb2
    have bA2 := bA1.bl hb2
    clear z_0 z_1 z_2 z_3 bA0 bA1 o1 o2 o3 o4
    have z_0 := bA2.cell 0
    have z_1 := bA2.cell 1
    have z_2 := bA2.cell 2
    have z_3 := bA2.cell 3
    simp only [List.getElem?_toArray, List.getElem?_cons_zero, List.getElem?_cons_succ] at z_0 z_1 z_2 z_3
    go_wp2_with fail
    refine (toFloor_any _ _ _ _ (rows, f, n, fl) _ (h1.below RE.stays B2) (h2.below RE.stays B2) (h3.below RE.stays B2) (h4.below RE.stays B2) HS.out).mono ?_
    rintro e w3 ⟨D1, d1, D2, d2, D3, d3, D4, d4, rfl, o1, o2, o3, o4, hb3⟩
    have B3 := (B2.tr hb3).al (.cells #[.slice D1 rows.length d1, .slice D2 f.length d2, .slice D3 n.length d3, .slice D4 fl.length d4] 88)
    have bA3 := (bA2.bl hb3).alloc (.cells #[.slice D1 rows.length d1, .slice D2 f.length d2, .slice D3 n.length d3, .slice D4 fl.length d4] 88)
    have bX3 := Blk.new_ w3 88 #[.slice D1 rows.length d1, .slice D2 f.length d2, .slice D3 n.length d3, .slice D4 fl.length d4]
    have p1 := o1.alloc (.cells #[.slice D1 rows.length d1, .slice D2 f.length d2, .slice D3 n.length d3, .slice D4 fl.length d4] 88)
    have p2 := o2.alloc (.cells #[.slice D1 rows.length d1, .slice D2 f.length d2, .slice D3 n.length d3, .slice D4 fl.length d4] 88)
    have p3 := o3.alloc (.cells #[.slice D1 rows.length d1, .slice D2 f.length d2, .slice D3 n.length d3, .slice D4 fl.length d4] 88)
    have p4 := o4.alloc (.cells #[.slice D1 rows.length d1, .slice D2 f.length d2, .slice D3 n.length d3, .slice D4 fl.length d4] 88)
    clear z_0 z_1 z_2 z_3 bA2
    go_wp2_with fail
    refine (CI _ _ _ _ _ (p1.rd lenInt (by decide)) (p2.rd lenDom (by decide)) (p3.rd lenDom (by decide)) (p4.rd lenCell (by decide))).mono ?_
    rintro e w4 ⟨rfl, hb4⟩
    have B4 := B3.tr hb4
    have bA4 := bA3.bl hb4
    have bX4 := bX3.bl hb4
    have p1 := p1.below hb4
    have p2 := p2.below hb4
    have p3 := p3.below hb4
    have p4 := p4.below hb4
    obtain ⟨gX, hgX⟩ : ∃ g, g = w3.heap.size := ⟨_, rfl⟩
    rw [← hgX] at bX4 ⊢
    clear hgX bA3 bX3
    have z_0 := bA4.cell 0
    have z_1 := bA4.cell 1
    have z_2 := bA4.cell 2
    have z_3 := bA4.cell 3
    simp only [List.getElem?_toArray, List.getElem?_cons_zero, List.getElem?_cons_succ] at z_0 z_1 z_2 z_3
    have x_0 := bX4.cell 0
    have x_1 := bX4.cell 1
    have x_2 := bX4.cell 2
    have x_3 := bX4.cell 3
    simp only [List.getElem?_toArray, List.getElem?_cons_zero, List.getElem?_cons_succ] at x_0 x_1 x_2 x_3
    have hp0 := bA4.lt
    have hp1 := bX4.lt
    have hRR : (R != R) = false := by simp
    have Bw : Below w4.heap.size w4 w4.drew := (Below.refl _ _).drew
    have hz : w4.heap.size ≤ w4.drew.heap.size := by simp
    go_wp2_with fail
    refine wp_region_held_drew (S := (fun w' => w'.cell? ⟨gX, 0, none⟩ = some (.slice D1 rows.length d1) ∧ w'.cell? ⟨gX, 1, none⟩ = some (.slice D2 f.length d2) ∧ w'.cell? ⟨gX, 2, none⟩ = some (.slice D3 n.length d3) ∧ w'.cell? ⟨gX, 3, none⟩ = some (.slice D4 fl.length d4) ∧ w'.cell? ⟨w.heap.size, 0, none⟩ = some (.slice P1 rows.length q1) ∧ w'.cell? ⟨w.heap.size, 1, none⟩ = some (.slice P2 f.length q2) ∧ w'.cell? ⟨w.heap.size, 2, none⟩ = some (.slice P3 n.length q3) ∧ w'.cell? ⟨w.heap.size, 3, none⟩ = some (.slice P4 fl.length q4))) (by kernel_rfl) ?_ (fun hHeld => ?_)
    · (try dsimp only); (try go_keep)
    refine wpAnyH_take (i := 0) (oi := { dst := some 22, op := Go.Op.load 88 (Go.Operand.tmp 5), type := 88, pos := "exact.go:6448", after := #[], guard := none }) (v := ?_) rfl (by kernel_rfl) (by kernel_rfl) (by kernel_rfl) (fun _ _ _ h => h) (Or.inl ⟨by rfl, ?_⟩) (by assumption) ?_
    rotate_left 1
    · (intro wS hSw; (try dsimp only at hSw); go_simp; (all_goals with_reducible rfl))
    simp only [Act.put, List.setIfInBounds_toArray, List.set_cons_zero, List.set_cons_succ]
    refine wpAnyH_take (i := 1) (oi := { dst := some 23, op := Go.Op.load 95 (Go.Operand.tmp 1), type := 95, pos := "exact.go:6448", after := #[], guard := none }) (v := ?_) rfl (by kernel_rfl) (by kernel_rfl) (by kernel_rfl) (fun _ _ _ h => h) (Or.inl ⟨by rfl, ?_⟩) (by assumption) ?_
    rotate_left 1
    · (intro wS hSw; (try dsimp only at hSw); go_simp; (all_goals with_reducible rfl))
    simp only [Act.put, List.setIfInBounds_toArray, List.set_cons_zero, List.set_cons_succ]
    refine wpAnyH_ready (rs := [2]) (by kernel_rfl) (by simp) ?_
    refine AllReadyH.cons (o := { dst := some 24, op := Go.Op.call { callee := Go.Callee.value (Go.Operand.func 75), args := #[Go.Operand.tmp 23], argTypes := #[95] }, type := 88, pos := "exact.go:6448", after := #[{ on := 1, ground := Go.Ground.data }], guard := none }) rfl (fun K hK => ?_) AllReadyH.nil
    go_simp
    (first | (go_at_call 75; go_must (refine (toFloor_any _ _ _ _ (rows, f, n, fl) _ (h1.below RE.stays (B4.tr Bw)) (h2.below RE.stays (B4.tr Bw)) (h3.below RE.stays (B4.tr Bw)) (h4.below RE.stays (B4.tr Bw)) HS.out).mono ?_; rintro e wX ⟨E1, e1, E2, e2, E3, e3, E4, e4, rfl, r1, r2, r3, r4, hbX⟩; obtain ⟨hcX, hfX, hzX⟩ := bkn hbX w4.heap.size hz; have hz := hzX; have Bw := Bw.tr hbX); (try go_wp2_with fail)) | (go_at_call 70; go_must (refine (eqFloor_same _ _ _ _ _ _ _ _ (rows, f, n, fl) _ ((p1.below Bw).rd lenInt (by decide)) ((p2.below Bw).rd lenDom (by decide)) ((p3.below Bw).rd lenDom (by decide)) ((p4.below Bw).rd lenCell (by decide)) (r1.rd lenInt (by decide)) (r2.rd lenDom (by decide)) (r3.rd lenDom (by decide)) (r4.rd lenCell (by decide))).mono ?_; rintro e wX ⟨rfl, hbX⟩; obtain ⟨hcX, hfX, hzX⟩ := bkn hbX w4.heap.size hz; have hz := hzX; have Bw := Bw.tr hbX); (try go_wp2_with fail)))
    refine hK.out _ _ ?_ (fun hHeld => ?_)
    · (try dsimp only); (try go_keep)
    clear hK K
    (try simp only [Act.put, List.setIfInBounds_toArray, List.set_cons_zero, List.set_cons_succ])
    refine wpAnyH_ready (rs := [3]) (by kernel_rfl) (by simp) ?_
    refine AllReadyH.cons (o := { dst := some 25, op := Go.Op.call { callee := Go.Callee.value (Go.Operand.func 70), args := #[Go.Operand.tmp 22, Go.Operand.tmp 24], argTypes := #[88, 88] }, type := 4, pos := "exact.go:6448", after := #[{ on := 0, ground := Go.Ground.data }, { on := 2, ground := Go.Ground.data }, { on := 2, ground := Go.Ground.chain }], guard := none }) rfl (fun K hK => ?_) AllReadyH.nil
    go_simp
    (first | (go_at_call 75; go_must (refine (toFloor_any _ _ _ _ (rows, f, n, fl) _ (h1.below RE.stays (B4.tr Bw)) (h2.below RE.stays (B4.tr Bw)) (h3.below RE.stays (B4.tr Bw)) (h4.below RE.stays (B4.tr Bw)) HS.out).mono ?_; rintro e wX ⟨E1, e1, E2, e2, E3, e3, E4, e4, rfl, r1, r2, r3, r4, hbX⟩; obtain ⟨hcX, hfX, hzX⟩ := bkn hbX w4.heap.size hz; have hz := hzX; have Bw := Bw.tr hbX); (try go_wp2_with fail)) | (go_at_call 70; go_must (refine (eqFloor_same _ _ _ _ _ _ _ _ (rows, f, n, fl) _ ((p1.below Bw).rd lenInt (by decide)) ((p2.below Bw).rd lenDom (by decide)) ((p3.below Bw).rd lenDom (by decide)) ((p4.below Bw).rd lenCell (by decide)) (r1.rd lenInt (by decide)) (r2.rd lenDom (by decide)) (r3.rd lenDom (by decide)) (r4.rd lenCell (by decide))).mono ?_; rintro e wX ⟨rfl, hbX⟩; obtain ⟨hcX, hfX, hzX⟩ := bkn hbX w4.heap.size hz; have hz := hzX; have Bw := Bw.tr hbX); (try go_wp2_with fail)))
    refine hK.out _ _ ?_ (fun hHeld => ?_)
    · (try dsimp only); (try go_keep)
    clear hK K
    (try simp only [Act.put, List.setIfInBounds_toArray, List.set_cons_zero, List.set_cons_succ])
    refine wpAnyH_take (i := 4) (oi := { dst := some 26, op := Go.Op.unOp Go.UnOp.not 4 (Go.Operand.tmp 25), type := 4, pos := "exact.go:6448", after := #[{ on := 3, ground := Go.Ground.data }], guard := none }) (v := ?_) rfl (by kernel_rfl) (by kernel_rfl) (by kernel_rfl) (fun _ _ _ h => h) (Or.inl ⟨by rfl, ?_⟩) (by assumption) ?_
    rotate_left 1
    · (intro wS hSw; (try dsimp only at hSw); go_simp; (all_goals with_reducible rfl))
    simp only [Act.put, List.setIfInBounds_toArray, List.set_cons_zero, List.set_cons_succ]
    refine wpAnyH_done (by kernel_rfl) ?_ _
    go_wp2
    go_ret
    exact ⟨rfl, B4.tr Bw⟩
  · have HZ := Lib.hid hsz; clear hsz
    go_enter Try.func13, Try.ntmps13
    go_wp2_with fail
    refine (szFloor_no _ _ _ _ (rows, f, n, fl) 1048576 _ (h1.below RE.stays hA) (h2.below RE.stays hA) (h3.below RE.stays hA) (h4.below RE.stays hA) (by decide) (by decide) (by have := HZ.out; omega)).mono ?_
    rintro e w0 ⟨rfl, hb0⟩
    go_wp2
    go_ret
    exact ⟨rfl, hA.tr hb0⟩

abbrev Wk := Fl × Int × Int × Int
def RWork (w : World) (cs : List Value) (y : Wk) : Prop := ∃ a b c d, cs = a ++ b ++ c ++ d ∧ RFloor w a y.1 ∧ RInt w b y.2.1 ∧ RInt w c y.2.2.1 ∧ RInt w d y.2.2.2
def WorkIn (y : Wk) : Prop := FloorIn y.1 ∧ I64 y.2.1 ∧ I64 y.2.2.1 ∧ I64 y.2.2.2
theorem o_workshop {W : World} : Opens Try.prog W 101 7 RWork WorkIn :=
  Opens.struct4 (n0 := 4) (n1 := 1) (n2 := 1) (n3 := 1) Try.underlying101 (by kernel_rfl) rfl rfl rfl rfl o_floor o_int o_int o_int
theorem RWork.form {w : World} {cs : List Value} {y : Wk} (h : RWork w cs y) : ∃ v1 v2 v3 v4, cs = [v1, v2, v3, v4, .int .i64 y.2.1, .int .i64 y.2.2.1, .int .i64 y.2.2.2] ∧ Rd 1 RInt w v1 y.1.1 ∧ Rd 3 RDom w v2 y.1.2.1 ∧ Rd 3 RDom w v3 y.1.2.2.1 ∧ Rd 2 RPair w v4 y.1.2.2.2 := by
  obtain ⟨a, b, c, d, rfl, hf, rfl, rfl, rfl⟩ := h
  obtain ⟨v1, v2, v3, v4, rfl, h1, h2, h3, h4⟩ := hf.form
  exact ⟨v1, v2, v3, v4, rfl, h1, h2, h3, h4⟩
def workOk (y : Wk) : Bool := floorOk y.1.1 y.1.2.1 y.1.2.2.1 y.1.2.2.2 && (inB y.2.1 0 10000 && inB y.2.2.1 0 10000 && inB y.2.2.2 0 10000)
theorem allIn3 (s p r : Int) : allIn 0 10000 [s, p, r] = (inB s 0 10000 && inB p 0 10000 && inB r 0 10000) := by
  simp [allIn, inB, Bool.and_assoc]
theorem own_ints3 (W : World) (a b c : Int) : OwnL 3 1 eInt W.heap.size (W.alloc (.cells #[.int .i64 a, .int .i64 b, .int .i64 c] 3)) (.slice (some ⟨W.heap.size, 0, none⟩) 3 3) [a, b, c] :=
  World.ownsRow_lit (e := 3) (size := 1) W #[.int .i64 a, .int .i64 b, .int .i64 c] 3 (Nat.le_refl _) (by simp [maxLen]) (by simp)
set_option maxHeartbeats 2000000 in
set_option maxRecDepth 100000 in
theorem workOkI_any (v1 v2 v3 v4 : Value) (y : Wk) (w : World) (h1 : Rd 1 RInt w v1 y.1.1) (h2 : Rd 3 RDom w v2 y.1.2.1) (h3 : Rd 3 RDom w v3 y.1.2.2.1) (h4 : Rd 2 RPair w v4 y.1.2.2.2) (hl : Small y.1.2.1.length) :
    Calls Try.prog 80 #[.agg #[v1, v2, v3, v4, .int .i64 y.2.1, .int .i64 y.2.2.1, .int .i64 y.2.2.2]] w (Ret (.bool (workOk y)) w) := by
  obtain ⟨⟨rows, f, n, fl⟩, s, p, r⟩ := y
  simp only at h1 h2 h3 h4 hl ⊢
  obtain ⟨P1, q1, rfl, _, _⟩ := h1.form
  obtain ⟨P2, q2, rfl, _, _⟩ := h2.form
  obtain ⟨P3, q3, rfl, _, _⟩ := h3.form
  obtain ⟨P4, q4, rfl, _, _⟩ := h4.form
  have hA := (Below.refl w.heap.size w).al (.cells #[.slice P1 rows.length q1, .slice P2 f.length q2, .slice P3 n.length q3, .slice P4 fl.length q4, .int .i64 s, .int .i64 p, .int .i64 r] 105)
  have bA := Blk.new_ w 105 #[.slice P1 rows.length q1, .slice P2 f.length q2, .slice P3 n.length q3, .slice P4 fl.length q4, .int .i64 s, .int .i64 p, .int .i64 r]
  have e : workOk ((rows, f, n, fl), s, p, r) = (floorOk rows f n fl && allIn 0 10000 [s, p, r]) := by unfold workOk; rw [allIn3]
  rw [e]
  obtain ⟨F, hF⟩ : ∃ F, F = floorOk rows f n fl := ⟨_, rfl⟩
  rw [← hF]
  have HF := Lib.hid hF; clear hF e
  go_enter Try.func80, Try.ntmps80
  go_wp2_with fail
  refine (floorOkI_any _ _ _ _ rows f n fl _ (h1.below RE.stays hA) (h2.below RE.stays hA) (h3.below RE.stays hA) (h4.below RE.stays hA) hl).mono ?_
  rintro e w1 ⟨rfl, hb1⟩
  rw [← HF.out]
  have bA1 := bA.bl hb1
  have z4 := bA1.cell 4
  have z5 := bA1.cell 5
  have z6 := bA1.cell 6
  simp at z4 z5 z6
  have B1 := hA.tr hb1
  cases F
  · go_wp2
    go_ret
    exact ⟨rfl, B1⟩
  · go_wp2_with fail
    refine (allWithin_any _ [s, p, r] _ _ _ ((own_ints3 w1 s p r).rd lenInt (by decide))).mono ?_
    rintro e w2 ⟨rfl, rfl⟩
    obtain ⟨R, hR⟩ : ∃ R, R = allIn 0 10000 [s, p, r] := ⟨_, rfl⟩
    rw [← hR]
    have HR : Hid (R = (true && allIn 0 10000 [s, p, r])) := Lib.hid (by rw [hR, Bool.true_and])
    clear hR
    go_wp2
    go_ret
    exact ⟨retB HR.out, B1.al _⟩
set_option maxHeartbeats 2000000 in
set_option maxRecDepth 100000 in
theorem workOkS_any (v1 v2 v3 v4 : Value) (y : Wk) (w : World) (h1 : Rd 1 RInt w v1 y.1.1) (h2 : Rd 3 RDom w v2 y.1.2.1) (h3 : Rd 3 RDom w v3 y.1.2.2.1) (h4 : Rd 2 RPair w v4 y.1.2.2.2) (hl : Small y.1.2.1.length) :
    Calls Try.prog 78 #[.agg #[v1, v2, v3, v4, .int .i64 y.2.1, .int .i64 y.2.2.1, .int .i64 y.2.2.2]] w (Ret (.bool (workOk y)) w) := by
  obtain ⟨⟨rows, f, n, fl⟩, s, p, r⟩ := y
  simp only at h1 h2 h3 h4 hl ⊢
  obtain ⟨P1, q1, rfl, _, _⟩ := h1.form
  obtain ⟨P2, q2, rfl, _, _⟩ := h2.form
  obtain ⟨P3, q3, rfl, _, _⟩ := h3.form
  obtain ⟨P4, q4, rfl, _, _⟩ := h4.form
  have hA := (Below.refl w.heap.size w).al (.cells #[.slice P1 rows.length q1, .slice P2 f.length q2, .slice P3 n.length q3, .slice P4 fl.length q4, .int .i64 s, .int .i64 p, .int .i64 r] 105)
  have bA := Blk.new_ w 105 #[.slice P1 rows.length q1, .slice P2 f.length q2, .slice P3 n.length q3, .slice P4 fl.length q4, .int .i64 s, .int .i64 p, .int .i64 r]
  have e : workOk ((rows, f, n, fl), s, p, r) = (floorOk rows f n fl && (inB s 0 10000 && inB p 0 10000 && inB r 0 10000)) := rfl
  rw [e]
  obtain ⟨F, hF⟩ : ∃ F, F = floorOk rows f n fl := ⟨_, rfl⟩
  obtain ⟨b1, hb1'⟩ : ∃ F, F = inB s 0 10000 := ⟨_, rfl⟩
  obtain ⟨b2, hb2'⟩ : ∃ F, F = inB p 0 10000 := ⟨_, rfl⟩
  obtain ⟨b3, hb3'⟩ : ∃ F, F = inB r 0 10000 := ⟨_, rfl⟩
  rw [← hF, ← hb1', ← hb2', ← hb3']
  have HF := Lib.hid hF; have H1 := Lib.hid hb1'; have H2 := Lib.hid hb2'; have H3 := Lib.hid hb3'; clear hF e hb1' hb2' hb3'
  go_enter Try.func78, Try.ntmps78
  go_wp2_with fail
  refine (floorOkS_any _ _ _ _ rows f n fl _ (h1.below RE.stays hA) (h2.below RE.stays hA) (h3.below RE.stays hA) (h4.below RE.stays hA) hl).mono ?_
  rintro e w1 ⟨rfl, hb1⟩
  rw [← HF.out]
  have bA1 := bA.bl hb1
  have z4 := bA1.cell 4
  have z5 := bA1.cell 5
  have z6 := bA1.cell 6
  simp at z4 z5 z6
  have B1 := hA.tr hb1
  cases F
  · go_wp2
    go_ret
    exact ⟨rfl, B1⟩
  · go_wp2_with fail
    refine (in_any _ _ _ _).mono ?_
    rintro e w2 ⟨rfl, rfl⟩
    rw [← H1.out]
    cases b1
    · go_wp2
      go_ret
      exact ⟨by simp, B1⟩
    · go_wp2_with fail
      refine (in_any _ _ _ _).mono ?_
      rintro e w3 ⟨rfl, rfl⟩
      rw [← H2.out]
      cases b2
      · go_wp2
        go_ret
        exact ⟨by simp, B1⟩
      · go_wp2_with fail
        refine (in_any _ _ _ _).mono ?_
        rintro e w4 ⟨rfl, rfl⟩
        rw [← H3.out]
        cases b3
        · go_wp2
          go_ret
          exact ⟨by simp, B1⟩
        · go_wp2
          go_ret
          exact ⟨by simp, B1⟩
/-- The call returned a workshop of its own, and wrote nothing that was there. -/
def RetWork (y : Wk) (w : World) (e : Ending) (w' : World) : Prop := ∃ A1 c1 A2 c2 A3 c3 A4 c4, e = .returned (.agg #[.slice A1 y.1.1.length c1, .slice A2 y.1.2.1.length c2, .slice A3 y.1.2.2.1.length c3, .slice A4 y.1.2.2.2.length c4, .int .i64 y.2.1, .int .i64 y.2.2.1, .int .i64 y.2.2.2]) ∧
  OwnL 3 1 eInt w.heap.size w' (.slice A1 y.1.1.length c1) y.1.1 ∧ OwnL 73 3 eDom w.heap.size w' (.slice A2 y.1.2.1.length c2) y.1.2.1 ∧ OwnL 73 3 eDom w.heap.size w' (.slice A3 y.1.2.2.1.length c3) y.1.2.2.1 ∧ OwnL 70 2 ePair w.heap.size w' (.slice A4 y.1.2.2.2.length c4) y.1.2.2.2 ∧ Below w.heap.size w w'
set_option maxHeartbeats 2000000 in
set_option maxRecDepth 100000 in
theorem eqWork_same (u1 u2 u3 u4 v1 v2 v3 v4 : Value) (x : Fl) (s p r : Int) (w : World) (g1 : Rd 1 RInt w u1 x.1) (g2 : Rd 3 RDom w u2 x.2.1) (g3 : Rd 3 RDom w u3 x.2.2.1) (g4 : Rd 2 RPair w u4 x.2.2.2)
    (h1 : Rd 1 RInt w v1 x.1) (h2 : Rd 3 RDom w v2 x.2.1) (h3 : Rd 3 RDom w v3 x.2.2.1) (h4 : Rd 2 RPair w v4 x.2.2.2) :
    Calls Try.prog 81 #[.agg #[u1, u2, u3, u4, .int .i64 s, .int .i64 p, .int .i64 r], .agg #[v1, v2, v3, v4, .int .i64 s, .int .i64 p, .int .i64 r]] w (Ret (.bool true) w) := by
  have hA := ((Below.refl w.heap.size w).al (.cells #[u1, u2, u3, u4, .int .i64 s, .int .i64 p, .int .i64 r] 105)).al (.cells #[v1, v2, v3, v4, .int .i64 s, .int .i64 p, .int .i64 r] 105)
  have bU := (Blk.new_ w 105 #[u1, u2, u3, u4, .int .i64 s, .int .i64 p, .int .i64 r]).alloc (.cells #[v1, v2, v3, v4, .int .i64 s, .int .i64 p, .int .i64 r] 105)
  have bV := Blk.new2 (w.alloc (.cells #[u1, u2, u3, u4, .int .i64 s, .int .i64 p, .int .i64 r] 105)) 105 #[v1, v2, v3, v4, .int .i64 s, .int .i64 p, .int .i64 r] (w.heap.size + 1) (by simp)
  obtain ⟨A1, c1, rfl, _, _⟩ := g1.form
  obtain ⟨A2, c2, rfl, _, _⟩ := g2.form
  obtain ⟨A3, c3, rfl, _, _⟩ := g3.form
  obtain ⟨A4, c4, rfl, _, _⟩ := g4.form
  obtain ⟨D1, d1, rfl, _, _⟩ := h1.form
  obtain ⟨D2, d2, rfl, _, _⟩ := h2.form
  obtain ⟨D3, d3, rfl, _, _⟩ := h3.form
  obtain ⟨D4, d4, rfl, _, _⟩ := h4.form
  go_enter Try.func81, Try.ntmps81
  go_wp2_with fail
  refine (eqFloor_same _ _ _ _ _ _ _ _ x _ (g1.below RE.stays hA) (g2.below RE.stays hA) (g3.below RE.stays hA) (g4.below RE.stays hA) (h1.below RE.stays hA) (h2.below RE.stays hA) (h3.below RE.stays hA) (h4.below RE.stays hA)).mono ?_
  rintro e w1 ⟨rfl, hb1⟩
  have bU1 := bU.bl hb1
  have bV1 := bV.bl hb1
  have zU4 := bU1.cell 4
  have zU5 := bU1.cell 5
  have zU6 := bU1.cell 6
  have zV4 := bV1.cell 4
  have zV5 := bV1.cell 5
  have zV6 := bV1.cell 6
  simp at zU4 zU5 zU6 zV4 zV5 zV6
  go_wp2
  go_ret
  exact ⟨rfl, hA.tr hb1⟩
set_option maxHeartbeats 1000000 in
set_option maxRecDepth 100000 in
theorem szWork_ok (v1 v2 v3 v4 : Value) (x : Fl) (s p r : Int) (w : World) (h1 : Rd 1 RInt w v1 x.1) (h2 : Rd 3 RDom w v2 x.2.1) (h3 : Rd 3 RDom w v3 x.2.2.1) (h4 : Rd 2 RPair w v4 x.2.2.2) (hs : (total x : Int) ≤ 1048576) :
    Calls Try.prog 77 #[.agg #[v1, v2, v3, v4, .int .i64 s, .int .i64 p, .int .i64 r], .int .i64 1048576] w (Ret (.int .i64 (1048576 - x.1.length - x.2.1.length - x.2.2.1.length - x.2.2.2.length)) w) := by
  have hA := (Below.refl w.heap.size w).al (.cells #[v1, v2, v3, v4, .int .i64 s, .int .i64 p, .int .i64 r] 101)
  obtain ⟨A1, c1, rfl, _, _⟩ := h1.form
  obtain ⟨A2, c2, rfl, _, _⟩ := h2.form
  obtain ⟨A3, c3, rfl, _, _⟩ := h3.form
  obtain ⟨A4, c4, rfl, _, _⟩ := h4.form
  have hk : ¬ ((1048576 : Int) - x.1.length - x.2.1.length - x.2.2.1.length - x.2.2.2.length < 0) := by unfold total at hs; omega
  have HZ := Lib.hid hs; clear hs
  go_enter Try.func77, Try.ntmps77
  go_wp2_with fail
  refine (szFloor_ok _ _ _ _ x 1048576 _ (h1.below RE.stays hA) (h2.below RE.stays hA) (h3.below RE.stays hA) (h4.below RE.stays hA) (by decide) HZ.out).mono ?_
  rintro e w1 ⟨rfl, hb1⟩
  go_wp2
  go_ret
  exact ⟨rfl, hA.tr hb1⟩
set_option maxHeartbeats 1000000 in
set_option maxRecDepth 100000 in
theorem szWork_no (v1 v2 v3 v4 : Value) (x : Fl) (s p r : Int) (w : World) (h1 : Rd 1 RInt w v1 x.1) (h2 : Rd 3 RDom w v2 x.2.1) (h3 : Rd 3 RDom w v3 x.2.2.1) (h4 : Rd 2 RPair w v4 x.2.2.2) (hs : ¬ (total x : Int) ≤ 1048576) :
    Calls Try.prog 77 #[.agg #[v1, v2, v3, v4, .int .i64 s, .int .i64 p, .int .i64 r], .int .i64 1048576] w (Ret (.int .i64 (-1)) w) := by
  have hA := (Below.refl w.heap.size w).al (.cells #[v1, v2, v3, v4, .int .i64 s, .int .i64 p, .int .i64 r] 101)
  obtain ⟨A1, c1, rfl, _, _⟩ := h1.form
  obtain ⟨A2, c2, rfl, _, _⟩ := h2.form
  obtain ⟨A3, c3, rfl, _, _⟩ := h3.form
  obtain ⟨A4, c4, rfl, _, _⟩ := h4.form
  have HZ := Lib.hid hs; clear hs
  go_enter Try.func77, Try.ntmps77
  go_wp2_with fail
  refine (szFloor_no _ _ _ _ x 1048576 _ (h1.below RE.stays hA) (h2.below RE.stays hA) (h3.below RE.stays hA) (h4.below RE.stays hA) (by decide) (by decide) (by have := HZ.out; omega)).mono ?_
  rintro e w1 ⟨rfl, hb1⟩
  go_wp2
  go_ret
  exact ⟨rfl, hA.tr hb1⟩

set_option maxHeartbeats 4000000 in
set_option maxRecDepth 100000 in
theorem toWork_any (v1 v2 v3 v4 : Value) (y : Wk) (w : World) (h1 : Rd 1 RInt w v1 y.1.1) (h2 : Rd 3 RDom w v2 y.1.2.1) (h3 : Rd 3 RDom w v3 y.1.2.2.1) (h4 : Rd 2 RPair w v4 y.1.2.2.2) (hs : Small4 y.1) :
    Calls Try.prog 79 #[.agg #[v1, v2, v3, v4, .int .i64 y.2.1, .int .i64 y.2.2.1, .int .i64 y.2.2.2]] w (RetWork y w) := by
  obtain ⟨⟨rows, f, n, fl⟩, s, p, r⟩ := y
  simp only at h1 h2 h3 h4 hs ⊢
  obtain ⟨P1, q1, rfl, _, _⟩ := h1.form
  obtain ⟨P2, q2, rfl, _, _⟩ := h2.form
  obtain ⟨P3, q3, rfl, _, _⟩ := h3.form
  obtain ⟨P4, q4, rfl, _, _⟩ := h4.form
  have hA := (((Below.refl w.heap.size w).al (.cells #[.slice P1 rows.length q1, .slice P2 f.length q2, .slice P3 n.length q3, .slice P4 fl.length q4, .int .i64 s, .int .i64 p, .int .i64 r] 101)).al (.cells #[.slice none 0 0, .slice none 0 0, .slice none 0 0, .slice none 0 0, .int .i64 0, .int .i64 0, .int .i64 0] 105)).al (.cells #[.slice none 0 0, .slice none 0 0, .slice none 0 0, .slice none 0 0, .int .i64 0, .int .i64 0, .int .i64 0] 105)
  have bA := ((Blk.new_ w 101 #[.slice P1 rows.length q1, .slice P2 f.length q2, .slice P3 n.length q3, .slice P4 fl.length q4, .int .i64 s, .int .i64 p, .int .i64 r]).alloc (.cells #[.slice none 0 0, .slice none 0 0, .slice none 0 0, .slice none 0 0, .int .i64 0, .int .i64 0, .int .i64 0] 105)).alloc (.cells #[.slice none 0 0, .slice none 0 0, .slice none 0 0, .slice none 0 0, .int .i64 0, .int .i64 0, .int .i64 0] 105)
  have bR := (Blk.new2 (w.alloc (.cells #[.slice P1 rows.length q1, .slice P2 f.length q2, .slice P3 n.length q3, .slice P4 fl.length q4, .int .i64 s, .int .i64 p, .int .i64 r] 101)) 105 #[.slice none 0 0, .slice none 0 0, .slice none 0 0, .slice none 0 0, .int .i64 0, .int .i64 0, .int .i64 0] (w.heap.size + 1) (by simp)).alloc (.cells #[.slice none 0 0, .slice none 0 0, .slice none 0 0, .slice none 0 0, .int .i64 0, .int .i64 0, .int .i64 0] 105)
  have bO := Blk.new2 ((w.alloc (.cells #[.slice P1 rows.length q1, .slice P2 f.length q2, .slice P3 n.length q3, .slice P4 fl.length q4, .int .i64 s, .int .i64 p, .int .i64 r] 101)).alloc (.cells #[.slice none 0 0, .slice none 0 0, .slice none 0 0, .slice none 0 0, .int .i64 0, .int .i64 0, .int .i64 0] 105)) 105 #[.slice none 0 0, .slice none 0 0, .slice none 0 0, .slice none 0 0, .int .i64 0, .int .i64 0, .int .i64 0] (w.heap.size + 1 + 1) (by simp)
  go_enter Try.func79, Try.ntmps79
  go_wp2_with fail
  refine (toFloor_any _ _ _ _ (rows, f, n, fl) _ (h1.below RE.stays hA) (h2.below RE.stays hA) (h3.below RE.stays hA) (h4.below RE.stays hA) hs).mono ?_
  rintro e w1 ⟨D1, d1, D2, d2, D3, d3, D4, d4, rfl, o1, o2, o3, o4, hb1⟩
  have bA1 := bA.bl hb1
  have bR1 := bR.bl hb1
  have bO1 := bO.bl hb1
  have BB1 := hA.tr hb1
  have o1 := o1.mono hA.size
  have o2 := o2.mono hA.size
  have o3 := o3.mono hA.size
  have o4 := o4.mono hA.size
  clear bA bR bO hb1 hA
  obtain ⟨gA, hgA⟩ : ∃ g, g = w.heap.size := ⟨_, rfl⟩
  obtain ⟨gR, hgR⟩ : ∃ g, g = w.heap.size + 1 := ⟨_, rfl⟩
  obtain ⟨gO, hgO⟩ : ∃ g, g = w.heap.size + 1 + 1 := ⟨_, rfl⟩
  have hAO : gA ≠ gO := by omega
  have hRO : gR ≠ gO := by omega
  have hOA := hAO.symm
  have hOR := hRO.symm
  have hO : w.heap.size ≤ gO := by omega
  have hR : w.heap.size ≤ gR := by omega
  rw [← hgO] at bO1 ⊢
  rw [← hgR] at bR1 ⊢
  rw [← hgA] at bA1 ⊢
  clear hgA hgR hgO
  have zA4 := bA1.cell 4
  have zA5 := bA1.cell 5
  have zA6 := bA1.cell 6
  have zO0 := bO1.cell 0
  have zO1 := bO1.cell 1
  have zO2 := bO1.cell 2
  have zO3 := bO1.cell 3
  have zO4 := bO1.cell 4
  have zO5 := bO1.cell 5
  have zO6 := bO1.cell 6
  simp at zA4 zA5 zA6 zO0 zO1 zO2 zO3 zO4 zO5 zO6
  have fO : ∀ j, w1.frozen? ⟨gO, j, none⟩ = false := fun j => bO1.frozen j
  have zR0 := bR1.cell 0
  have zR1 := bR1.cell 1
  have zR2 := bR1.cell 2
  have zR3 := bR1.cell 3
  have zR4 := bR1.cell 4
  have zR5 := bR1.cell 5
  have zR6 := bR1.cell 6
  simp at zR0 zR1 zR2 zR3 zR4 zR5 zR6
  have fR : ∀ j, w1.frozen? ⟨gR, j, none⟩ = false := fun j => bR1.frozen j
  go_wp2
  have e1 : (Value.slice D1 rows.length d1).ownBlock ≠ some gO := o1.apart bO1 (by decide)
  have e2 : (Value.slice D2 f.length d2).ownBlock ≠ some gO := o2.apart bO1 (by decide)
  have e3 : (Value.slice D3 n.length d3).ownBlock ≠ some gO := o3.apart bO1 (by decide)
  have e4 : (Value.slice D4 fl.length d4).ownBlock ≠ some gO := o4.apart bO1 (by decide)
  have r1 : (Value.slice D1 rows.length d1).ownBlock ≠ some gR := o1.apart bR1 (by decide)
  have r2 : (Value.slice D2 f.length d2).ownBlock ≠ some gR := o2.apart bR1 (by decide)
  have r3 : (Value.slice D3 n.length d3).ownBlock ≠ some gR := o3.apart bR1 (by decide)
  have r4 : (Value.slice D4 fl.length d4).ownBlock ≠ some gR := o4.apart bR1 (by decide)
  obtain ⟨W8, hW8⟩ : ∃ W8, W8 = ((((((((((((((w1.setCell ⟨gO, 0, none⟩ (.slice D1 rows.length d1)).setCell ⟨gO, 1, none⟩ (.slice D2 f.length d2)).setCell ⟨gO, 2, none⟩ (.slice D3 n.length d3)).setCell ⟨gO, 3, none⟩ (.slice D4 fl.length d4)).setCell ⟨gO, 4, none⟩ (.int .i64 s)).setCell ⟨gO, 5, none⟩ (.int .i64 p)).setCell ⟨gO, 6, none⟩ (.int .i64 r)).setCell ⟨gR, 0, none⟩ (.slice D1 rows.length d1)).setCell ⟨gR, 1, none⟩ (.slice D2 f.length d2)).setCell ⟨gR, 2, none⟩ (.slice D3 n.length d3)).setCell ⟨gR, 3, none⟩ (.slice D4 fl.length d4)).setCell ⟨gR, 4, none⟩ (.int .i64 s)).setCell ⟨gR, 5, none⟩ (.int .i64 p)).setCell ⟨gR, 6, none⟩ (.int .i64 r)) := ⟨_, rfl⟩
  have bR8 : Blk W8 gR 105 #[.slice D1 rows.length d1, .slice D2 f.length d2, .slice D3 n.length d3, .slice D4 fl.length d4, .int .i64 s, .int .i64 p, .int .i64 r] := by
    rw [hW8]
    exact ((((((((((((((bR1.far (p := ⟨gO, 0, none⟩) hRO _).far (p := ⟨gO, 1, none⟩) hRO _).far (p := ⟨gO, 2, none⟩) hRO _).far (p := ⟨gO, 3, none⟩) hRO _).far (p := ⟨gO, 4, none⟩) hRO _).far (p := ⟨gO, 5, none⟩) hRO _).far (p := ⟨gO, 6, none⟩) hRO _).st 0 _ #[.slice D1 rows.length d1, .slice none 0 0, .slice none 0 0, .slice none 0 0, .int .i64 0, .int .i64 0, .int .i64 0] rfl).st 1 _ #[.slice D1 rows.length d1, .slice D2 f.length d2, .slice none 0 0, .slice none 0 0, .int .i64 0, .int .i64 0, .int .i64 0] rfl).st 2 _ #[.slice D1 rows.length d1, .slice D2 f.length d2, .slice D3 n.length d3, .slice none 0 0, .int .i64 0, .int .i64 0, .int .i64 0] rfl).st 3 _ #[.slice D1 rows.length d1, .slice D2 f.length d2, .slice D3 n.length d3, .slice D4 fl.length d4, .int .i64 0, .int .i64 0, .int .i64 0] rfl).st 4 _ #[.slice D1 rows.length d1, .slice D2 f.length d2, .slice D3 n.length d3, .slice D4 fl.length d4, .int .i64 s, .int .i64 0, .int .i64 0] rfl).st 5 _ #[.slice D1 rows.length d1, .slice D2 f.length d2, .slice D3 n.length d3, .slice D4 fl.length d4, .int .i64 s, .int .i64 p, .int .i64 0] rfl).st 6 _ #[.slice D1 rows.length d1, .slice D2 f.length d2, .slice D3 n.length d3, .slice D4 fl.length d4, .int .i64 s, .int .i64 p, .int .i64 r] rfl)
  have o1S : OwnL 3 1 eInt w.heap.size W8 (.slice D1 rows.length d1) rows := by rw [hW8]; exact ((((((((((((((o1.far (a := ⟨gO, 0, none⟩) e1 _).far (a := ⟨gO, 1, none⟩) e1 _).far (a := ⟨gO, 2, none⟩) e1 _).far (a := ⟨gO, 3, none⟩) e1 _).far (a := ⟨gO, 4, none⟩) e1 _).far (a := ⟨gO, 5, none⟩) e1 _).far (a := ⟨gO, 6, none⟩) e1 _).far (a := ⟨gR, 0, none⟩) r1 _).far (a := ⟨gR, 1, none⟩) r1 _).far (a := ⟨gR, 2, none⟩) r1 _).far (a := ⟨gR, 3, none⟩) r1 _).far (a := ⟨gR, 4, none⟩) r1 _).far (a := ⟨gR, 5, none⟩) r1 _).far (a := ⟨gR, 6, none⟩) r1 _)
  have o2S : OwnL 73 3 eDom w.heap.size W8 (.slice D2 f.length d2) f := by rw [hW8]; exact ((((((((((((((o2.far (a := ⟨gO, 0, none⟩) e2 _).far (a := ⟨gO, 1, none⟩) e2 _).far (a := ⟨gO, 2, none⟩) e2 _).far (a := ⟨gO, 3, none⟩) e2 _).far (a := ⟨gO, 4, none⟩) e2 _).far (a := ⟨gO, 5, none⟩) e2 _).far (a := ⟨gO, 6, none⟩) e2 _).far (a := ⟨gR, 0, none⟩) r2 _).far (a := ⟨gR, 1, none⟩) r2 _).far (a := ⟨gR, 2, none⟩) r2 _).far (a := ⟨gR, 3, none⟩) r2 _).far (a := ⟨gR, 4, none⟩) r2 _).far (a := ⟨gR, 5, none⟩) r2 _).far (a := ⟨gR, 6, none⟩) r2 _)
  have o3S : OwnL 73 3 eDom w.heap.size W8 (.slice D3 n.length d3) n := by rw [hW8]; exact ((((((((((((((o3.far (a := ⟨gO, 0, none⟩) e3 _).far (a := ⟨gO, 1, none⟩) e3 _).far (a := ⟨gO, 2, none⟩) e3 _).far (a := ⟨gO, 3, none⟩) e3 _).far (a := ⟨gO, 4, none⟩) e3 _).far (a := ⟨gO, 5, none⟩) e3 _).far (a := ⟨gO, 6, none⟩) e3 _).far (a := ⟨gR, 0, none⟩) r3 _).far (a := ⟨gR, 1, none⟩) r3 _).far (a := ⟨gR, 2, none⟩) r3 _).far (a := ⟨gR, 3, none⟩) r3 _).far (a := ⟨gR, 4, none⟩) r3 _).far (a := ⟨gR, 5, none⟩) r3 _).far (a := ⟨gR, 6, none⟩) r3 _)
  have o4S : OwnL 70 2 ePair w.heap.size W8 (.slice D4 fl.length d4) fl := by rw [hW8]; exact ((((((((((((((o4.far (a := ⟨gO, 0, none⟩) e4 _).far (a := ⟨gO, 1, none⟩) e4 _).far (a := ⟨gO, 2, none⟩) e4 _).far (a := ⟨gO, 3, none⟩) e4 _).far (a := ⟨gO, 4, none⟩) e4 _).far (a := ⟨gO, 5, none⟩) e4 _).far (a := ⟨gO, 6, none⟩) e4 _).far (a := ⟨gR, 0, none⟩) r4 _).far (a := ⟨gR, 1, none⟩) r4 _).far (a := ⟨gR, 2, none⟩) r4 _).far (a := ⟨gR, 3, none⟩) r4 _).far (a := ⟨gR, 4, none⟩) r4 _).far (a := ⟨gR, 5, none⟩) r4 _).far (a := ⟨gR, 6, none⟩) r4 _)
  have BB8 : Below w.heap.size w W8 := by rw [hW8]; exact ((((((((((((((BB1.st ⟨gO, 0, none⟩ _ hO).st ⟨gO, 1, none⟩ _ hO).st ⟨gO, 2, none⟩ _ hO).st ⟨gO, 3, none⟩ _ hO).st ⟨gO, 4, none⟩ _ hO).st ⟨gO, 5, none⟩ _ hO).st ⟨gO, 6, none⟩ _ hO).st ⟨gR, 0, none⟩ _ hR).st ⟨gR, 1, none⟩ _ hR).st ⟨gR, 2, none⟩ _ hR).st ⟨gR, 3, none⟩ _ hR).st ⟨gR, 4, none⟩ _ hR).st ⟨gR, 5, none⟩ _ hR).st ⟨gR, 6, none⟩ _ hR)
  rw [← hW8]
  clear hW8
  have q0 := bR8.cell 0
  have q1 := bR8.cell 1
  have q2 := bR8.cell 2
  have q3 := bR8.cell 3
  have q4 := bR8.cell 4
  have q5 := bR8.cell 5
  have q6 := bR8.cell 6
  simp only [List.getElem?_toArray, List.getElem?_cons_zero, List.getElem?_cons_succ] at q0 q1 q2 q3 q4 q5 q6
  refine bodyPost_ret (v := .agg #[.slice D1 rows.length d1, .slice D2 f.length d2, .slice D3 n.length d3, .slice D4 fl.length d4, .int .i64 s, .int .i64 p, .int .i64 r]) (by simp [results, Try.results79, go_sem, q0, q1, q2, q3, q4, q5, q6]) rfl ⟨D1, d1, D2, d2, D3, d3, D4, d4, rfl, o1S, o2S, o3S, o4S, BB8⟩

set_option maxHeartbeats 4000000 in
set_option maxRecDepth 100000 in
theorem FnExactWorkshopOk_walk (w : World) (cs : List Value) (y : Wk) (h : RWork w cs y) (oky : WorkIn y) : Calls Try.prog 14 #[.agg cs.toArray] w (Ret (.bool true) w) := by
  obtain ⟨v1, v2, v3, v4, rfl, h1, h2, h3, h4⟩ := h.form
  obtain ⟨⟨rows, f, n, fl⟩, s, p, r⟩ := y
  simp only at h1 h2 h3 h4 ⊢
  obtain ⟨P1, q1, rfl, _, _⟩ := h1.form
  obtain ⟨P2, q2, rfl, _, _⟩ := h2.form
  obtain ⟨P3, q3, rfl, _, _⟩ := h3.form
  obtain ⟨P4, q4, rfl, _, _⟩ := h4.form
  have hA := (Below.refl w.heap.size w).al (.cells #[.slice P1 rows.length q1, .slice P2 f.length q2, .slice P3 n.length q3, .slice P4 fl.length q4, .int .i64 s, .int .i64 p, .int .i64 r] 101)
  have bA := Blk.new_ w 101 #[.slice P1 rows.length q1, .slice P2 f.length q2, .slice P3 n.length q3, .slice P4 fl.length q4, .int .i64 s, .int .i64 p, .int .i64 r]
  by_cases hsz : (total (rows, f, n, fl) : Int) ≤ 1048576
  · have hs4 : Small4 (rows, f, n, fl) := by unfold total at hsz; unfold Small4 Small; simp only at hsz ⊢; omega
    have hk : ¬ ((1048576 : Int) - rows.length - f.length - n.length - fl.length < 0) := by unfold total at hsz; simp only at hsz; omega
    have hsf : Small f.length := hs4.2.1
    obtain ⟨R, hR⟩ : ∃ R, R = workOk ((rows, f, n, fl), s, p, r) := ⟨_, rfl⟩
    have CS : ∀ (a b c d : Value) (w : World), Rd 1 RInt w a rows → Rd 3 RDom w b f → Rd 3 RDom w c n → Rd 2 RPair w d fl → Calls Try.prog 78 #[.agg #[a, b, c, d, .int .i64 s, .int .i64 p, .int .i64 r]] w (Ret (.bool R) w) := fun a b c d w k1 k2 k3 k4 => by rw [hR]; exact workOkS_any a b c d ((rows, f, n, fl), s, p, r) w k1 k2 k3 k4 hsf
    have CI : ∀ (a b c d : Value) (w : World), Rd 1 RInt w a rows → Rd 3 RDom w b f → Rd 3 RDom w c n → Rd 2 RPair w d fl → Calls Try.prog 80 #[.agg #[a, b, c, d, .int .i64 s, .int .i64 p, .int .i64 r]] w (Ret (.bool R) w) := fun a b c d w k1 k2 k3 k4 => by rw [hR]; exact workOkI_any a b c d ((rows, f, n, fl), s, p, r) w k1 k2 k3 k4 hsf
    clear hR
    have HS := Lib.hid hs4; have HZ := Lib.hid hsz; clear hs4 hsz
    go_enter Try.func14, Try.ntmps14
    go_wp2_with fail
    refine (szWork_ok _ _ _ _ (rows, f, n, fl) s p r _ (h1.below RE.stays hA) (h2.below RE.stays hA) (h3.below RE.stays hA) (h4.below RE.stays hA) HZ.out).mono ?_
    rintro e w0 ⟨rfl, hb0⟩
    have B0 := hA.tr hb0
    have bA0 := bA.bl hb0
    clear bA hA
    have z_0 := bA0.cell 0
    have z_1 := bA0.cell 1
    have z_2 := bA0.cell 2
    have z_3 := bA0.cell 3
    have z_4 := bA0.cell 4
    have z_5 := bA0.cell 5
    have z_6 := bA0.cell 6
    simp only [List.getElem?_toArray, List.getElem?_cons_zero, List.getElem?_cons_succ] at z_0 z_1 z_2 z_3 z_4 z_5 z_6
    go_wp2_with fail
    refine (toWork_any _ _ _ _ ((rows, f, n, fl), s, p, r) _ (h1.below RE.stays B0) (h2.below RE.stays B0) (h3.below RE.stays B0) (h4.below RE.stays B0) HS.out).mono ?_
    rintro e w1 ⟨A1, c1, A2, c2, A3, c3, A4, c4, rfl, o1, o2, o3, o4, hb1⟩
    have B1 := B0.tr hb1
    have bA1 := bA0.bl hb1
    go_wp2_with fail
    refine (CS _ _ _ _ _ (o1.rd lenInt (by decide)) (o2.rd lenDom (by decide)) (o3.rd lenDom (by decide)) (o4.rd lenCell (by decide))).mono ?_
    rintro e w2 ⟨rfl, hb2⟩
    have B2 := B1.tr hb2
    have bA2 := bA1.bl hb2
    clear z_0 z_1 z_2 z_3 z_4 z_5 z_6 bA0 bA1 o1 o2 o3 o4
    have z_0 := bA2.cell 0
    have z_1 := bA2.cell 1
    have z_2 := bA2.cell 2
    have z_3 := bA2.cell 3
    have z_4 := bA2.cell 4
    have z_5 := bA2.cell 5
    have z_6 := bA2.cell 6
    simp only [List.getElem?_toArray, List.getElem?_cons_zero, List.getElem?_cons_succ] at z_0 z_1 z_2 z_3 z_4 z_5 z_6
    go_wp2_with fail
    refine (toWork_any _ _ _ _ ((rows, f, n, fl), s, p, r) _ (h1.below RE.stays B2) (h2.below RE.stays B2) (h3.below RE.stays B2) (h4.below RE.stays B2) HS.out).mono ?_
    rintro e w3 ⟨D1, d1, D2, d2, D3, d3, D4, d4, rfl, o1, o2, o3, o4, hb3⟩
    have B3 := (B2.tr hb3).al (.cells #[.slice D1 rows.length d1, .slice D2 f.length d2, .slice D3 n.length d3, .slice D4 fl.length d4, .int .i64 s, .int .i64 p, .int .i64 r] 105)
    have bA3 := (bA2.bl hb3).alloc (.cells #[.slice D1 rows.length d1, .slice D2 f.length d2, .slice D3 n.length d3, .slice D4 fl.length d4, .int .i64 s, .int .i64 p, .int .i64 r] 105)
    have bX3 := Blk.new_ w3 105 #[.slice D1 rows.length d1, .slice D2 f.length d2, .slice D3 n.length d3, .slice D4 fl.length d4, .int .i64 s, .int .i64 p, .int .i64 r]
    have m1 := o1.alloc (.cells #[.slice D1 rows.length d1, .slice D2 f.length d2, .slice D3 n.length d3, .slice D4 fl.length d4, .int .i64 s, .int .i64 p, .int .i64 r] 105)
    have m2 := o2.alloc (.cells #[.slice D1 rows.length d1, .slice D2 f.length d2, .slice D3 n.length d3, .slice D4 fl.length d4, .int .i64 s, .int .i64 p, .int .i64 r] 105)
    have m3 := o3.alloc (.cells #[.slice D1 rows.length d1, .slice D2 f.length d2, .slice D3 n.length d3, .slice D4 fl.length d4, .int .i64 s, .int .i64 p, .int .i64 r] 105)
    have m4 := o4.alloc (.cells #[.slice D1 rows.length d1, .slice D2 f.length d2, .slice D3 n.length d3, .slice D4 fl.length d4, .int .i64 s, .int .i64 p, .int .i64 r] 105)
    clear z_0 z_1 z_2 z_3 z_4 z_5 z_6 bA2
    go_wp2_with fail
    refine (CI _ _ _ _ _ (m1.rd lenInt (by decide)) (m2.rd lenDom (by decide)) (m3.rd lenDom (by decide)) (m4.rd lenCell (by decide))).mono ?_
    rintro e w4 ⟨rfl, hb4⟩
    have B4 := B3.tr hb4
    have bA4 := bA3.bl hb4
    have bX4 := bX3.bl hb4
    have m1 := m1.below hb4
    have m2 := m2.below hb4
    have m3 := m3.below hb4
    have m4 := m4.below hb4
    obtain ⟨gX, hgX⟩ : ∃ g, g = w3.heap.size := ⟨_, rfl⟩
    rw [← hgX] at bX4 ⊢
    clear hgX bA3 bX3
    have z_0 := bA4.cell 0
    have z_1 := bA4.cell 1
    have z_2 := bA4.cell 2
    have z_3 := bA4.cell 3
    have z_4 := bA4.cell 4
    have z_5 := bA4.cell 5
    have z_6 := bA4.cell 6
    simp only [List.getElem?_toArray, List.getElem?_cons_zero, List.getElem?_cons_succ] at z_0 z_1 z_2 z_3 z_4 z_5 z_6
    have x_0 := bX4.cell 0
    have x_1 := bX4.cell 1
    have x_2 := bX4.cell 2
    have x_3 := bX4.cell 3
    have x_4 := bX4.cell 4
    have x_5 := bX4.cell 5
    have x_6 := bX4.cell 6
    simp only [List.getElem?_toArray, List.getElem?_cons_zero, List.getElem?_cons_succ] at x_0 x_1 x_2 x_3 x_4 x_5 x_6
    have hp0 := bA4.lt
    have hp1 := bX4.lt
    have hRR : (R != R) = false := by simp
    have Bw : Below w4.heap.size w4 w4.drew := (Below.refl _ _).drew
    have hz : w4.heap.size ≤ w4.drew.heap.size := by simp
    go_wp2_with fail
    refine wp_region_held_drew (S := (fun w' => w'.cell? ⟨gX, 0, none⟩ = some (.slice D1 rows.length d1) ∧ w'.cell? ⟨gX, 1, none⟩ = some (.slice D2 f.length d2) ∧ w'.cell? ⟨gX, 2, none⟩ = some (.slice D3 n.length d3) ∧ w'.cell? ⟨gX, 3, none⟩ = some (.slice D4 fl.length d4) ∧ w'.cell? ⟨gX, 4, none⟩ = some (.int .i64 s) ∧ w'.cell? ⟨gX, 5, none⟩ = some (.int .i64 p) ∧ w'.cell? ⟨gX, 6, none⟩ = some (.int .i64 r) ∧ w'.cell? ⟨w.heap.size, 0, none⟩ = some (.slice P1 rows.length q1) ∧ w'.cell? ⟨w.heap.size, 1, none⟩ = some (.slice P2 f.length q2) ∧ w'.cell? ⟨w.heap.size, 2, none⟩ = some (.slice P3 n.length q3) ∧ w'.cell? ⟨w.heap.size, 3, none⟩ = some (.slice P4 fl.length q4) ∧ w'.cell? ⟨w.heap.size, 4, none⟩ = some (.int .i64 s) ∧ w'.cell? ⟨w.heap.size, 5, none⟩ = some (.int .i64 p) ∧ w'.cell? ⟨w.heap.size, 6, none⟩ = some (.int .i64 r))) (by kernel_rfl) ?_ (fun hHeld => ?_)
    · (try dsimp only); (try go_keep)
    refine wpAnyH_take (i := 0) (oi := { dst := some 22, op := Go.Op.load 105 (Go.Operand.tmp 5), type := 105, pos := "exact.go:6697", after := #[], guard := none }) (v := ?_) rfl (by kernel_rfl) (by kernel_rfl) (by kernel_rfl) (fun _ _ _ h => h) (Or.inl ⟨by rfl, ?_⟩) (by assumption) ?_
    rotate_left 1
    · (intro wS hSw; (try dsimp only at hSw); go_simp; (all_goals with_reducible rfl))
    simp only [Act.put, List.setIfInBounds_toArray, List.set_cons_zero, List.set_cons_succ]
    refine wpAnyH_take (i := 1) (oi := { dst := some 23, op := Go.Op.load 101 (Go.Operand.tmp 1), type := 101, pos := "exact.go:6697", after := #[], guard := none }) (v := ?_) rfl (by kernel_rfl) (by kernel_rfl) (by kernel_rfl) (fun _ _ _ h => h) (Or.inl ⟨by rfl, ?_⟩) (by assumption) ?_
    rotate_left 1
    · (intro wS hSw; (try dsimp only at hSw); go_simp; (all_goals with_reducible rfl))
    simp only [Act.put, List.setIfInBounds_toArray, List.set_cons_zero, List.set_cons_succ]
    refine wpAnyH_ready (rs := [2]) (by kernel_rfl) (by simp) ?_
    refine AllReadyH.cons (o := { dst := some 24, op := Go.Op.call { callee := Go.Callee.value (Go.Operand.func 79), args := #[Go.Operand.tmp 23], argTypes := #[101] }, type := 105, pos := "exact.go:6697", after := #[{ on := 1, ground := Go.Ground.data }], guard := none }) rfl (fun K hK => ?_) AllReadyH.nil
    go_simp
    (first | (go_at_call 79; go_must (refine (toWork_any _ _ _ _ ((rows, f, n, fl), s, p, r) _ (h1.below RE.stays (B4.tr Bw)) (h2.below RE.stays (B4.tr Bw)) (h3.below RE.stays (B4.tr Bw)) (h4.below RE.stays (B4.tr Bw)) HS.out).mono ?_; rintro e wX ⟨E1, e1, E2, e2, E3, e3, E4, e4, rfl, r1, r2, r3, r4, hbX⟩; obtain ⟨hcX, hfX, hzX⟩ := bkn hbX w4.heap.size hz; have hz := hzX; have Bw := Bw.tr hbX); (try go_wp2_with fail)) | (go_at_call 81; go_must (refine (eqWork_same _ _ _ _ _ _ _ _ (rows, f, n, fl) s p r _ ((m1.below Bw).rd lenInt (by decide)) ((m2.below Bw).rd lenDom (by decide)) ((m3.below Bw).rd lenDom (by decide)) ((m4.below Bw).rd lenCell (by decide)) (r1.rd lenInt (by decide)) (r2.rd lenDom (by decide)) (r3.rd lenDom (by decide)) (r4.rd lenCell (by decide))).mono ?_; rintro e wX ⟨rfl, hbX⟩; obtain ⟨hcX, hfX, hzX⟩ := bkn hbX w4.heap.size hz; have hz := hzX; have Bw := Bw.tr hbX); (try go_wp2_with fail)))
    refine hK.out _ _ ?_ (fun hHeld => ?_)
    · (try dsimp only); (try go_keep)
    clear hK K
    (try simp only [Act.put, List.setIfInBounds_toArray, List.set_cons_zero, List.set_cons_succ])
    refine wpAnyH_ready (rs := [3]) (by kernel_rfl) (by simp) ?_
    refine AllReadyH.cons (o := { dst := some 25, op := Go.Op.call { callee := Go.Callee.value (Go.Operand.func 81), args := #[Go.Operand.tmp 22, Go.Operand.tmp 24], argTypes := #[105, 105] }, type := 4, pos := "exact.go:6697", after := #[{ on := 0, ground := Go.Ground.data }, { on := 2, ground := Go.Ground.data }, { on := 2, ground := Go.Ground.chain }], guard := none }) rfl (fun K hK => ?_) AllReadyH.nil
    go_simp
    (first | (go_at_call 79; go_must (refine (toWork_any _ _ _ _ ((rows, f, n, fl), s, p, r) _ (h1.below RE.stays (B4.tr Bw)) (h2.below RE.stays (B4.tr Bw)) (h3.below RE.stays (B4.tr Bw)) (h4.below RE.stays (B4.tr Bw)) HS.out).mono ?_; rintro e wX ⟨E1, e1, E2, e2, E3, e3, E4, e4, rfl, r1, r2, r3, r4, hbX⟩; obtain ⟨hcX, hfX, hzX⟩ := bkn hbX w4.heap.size hz; have hz := hzX; have Bw := Bw.tr hbX); (try go_wp2_with fail)) | (go_at_call 81; go_must (refine (eqWork_same _ _ _ _ _ _ _ _ (rows, f, n, fl) s p r _ ((m1.below Bw).rd lenInt (by decide)) ((m2.below Bw).rd lenDom (by decide)) ((m3.below Bw).rd lenDom (by decide)) ((m4.below Bw).rd lenCell (by decide)) (r1.rd lenInt (by decide)) (r2.rd lenDom (by decide)) (r3.rd lenDom (by decide)) (r4.rd lenCell (by decide))).mono ?_; rintro e wX ⟨rfl, hbX⟩; obtain ⟨hcX, hfX, hzX⟩ := bkn hbX w4.heap.size hz; have hz := hzX; have Bw := Bw.tr hbX); (try go_wp2_with fail)))
    refine hK.out _ _ ?_ (fun hHeld => ?_)
    · (try dsimp only); (try go_keep)
    clear hK K
    (try simp only [Act.put, List.setIfInBounds_toArray, List.set_cons_zero, List.set_cons_succ])
    refine wpAnyH_take (i := 4) (oi := { dst := some 26, op := Go.Op.unOp Go.UnOp.not 4 (Go.Operand.tmp 25), type := 4, pos := "exact.go:6697", after := #[{ on := 3, ground := Go.Ground.data }], guard := none }) (v := ?_) rfl (by kernel_rfl) (by kernel_rfl) (by kernel_rfl) (fun _ _ _ h => h) (Or.inl ⟨by rfl, ?_⟩) (by assumption) ?_
    rotate_left 1
    · (intro wS hSw; (try dsimp only at hSw); go_simp; (all_goals with_reducible rfl))
    simp only [Act.put, List.setIfInBounds_toArray, List.set_cons_zero, List.set_cons_succ]
    refine wpAnyH_done (by kernel_rfl) ?_ _
    go_wp2
    go_ret
    exact ⟨rfl, B4.tr Bw⟩
  · have HZ := Lib.hid hsz; clear hsz
    go_enter Try.func14, Try.ntmps14
    go_wp2_with fail
    refine (szWork_no _ _ _ _ (rows, f, n, fl) s p r _ (h1.below RE.stays hA) (h2.below RE.stays hA) (h3.below RE.stays hA) (h4.below RE.stays hA) (by have := HZ.out; omega)).mono ?_
    rintro e w0 ⟨rfl, hb0⟩
    go_wp2
    go_ret
    exact ⟨rfl, hA.tr hb0⟩
end Go.Proofs.Ytkbndchgmokabaa
