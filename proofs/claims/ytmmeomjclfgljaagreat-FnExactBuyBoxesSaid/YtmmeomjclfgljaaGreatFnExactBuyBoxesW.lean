/- The law FnExactBuyBoxes: the walk. No conditions. -/
import Derived.Test.YtmmeomjclfgljaaGreatBuy
import Derived.Test.YtmmeomjclfgljaaGreatFloorOkL
import Derived.Test.YtmmeomjclfgljaaGreatLawBase
namespace Go.Proofs.YtmmeomjclfgljaaGreat
open Go.ChangeShapes Go.WideShapes Go.ChangeAt Go.RowKit
set_option linter.unusedVariables false
set_option linter.unusedSimpArgs false

abbrev oFnExactBuyBoxesW0 : Oper := { dst := some 58, op := Go.Op.load 40 (Go.Operand.tmp 10), type := 40, pos := "exact.go:6767", after := #[], guard := none }
abbrev oFnExactBuyBoxesW1 : Oper := { dst := some 59, op := Go.Op.load 30 (Go.Operand.tmp 3), type := 30, pos := "exact.go:6767", after := #[], guard := none }
abbrev oFnExactBuyBoxesW2 : Oper := { dst := some 60, op := Go.Op.call { callee := Go.Callee.value (Go.Operand.func 7), args := #[Go.Operand.tmp 59], argTypes := #[30] }, type := 40, pos := "exact.go:6767", after := #[{ on := 1, ground := Go.Ground.data }], guard := none }
abbrev oFnExactBuyBoxesW3 : Oper := { dst := some 61, op := Go.Op.call { callee := Go.Callee.value (Go.Operand.func 10), args := #[Go.Operand.tmp 58, Go.Operand.tmp 60], argTypes := #[40, 40] }, type := 4, pos := "exact.go:6767", after := #[{ on := 0, ground := Go.Ground.data }, { on := 2, ground := Go.Ground.data }, { on := 2, ground := Go.Ground.chain }], guard := none }
abbrev oFnExactBuyBoxesW4 : Oper := { dst := some 62, op := Go.Op.unOp Go.UnOp.not 4 (Go.Operand.tmp 61), type := 4, pos := "exact.go:6767", after := #[{ on := 3, ground := Go.Ground.data }], guard := none }
set_option maxHeartbeats 4000000 in
set_option maxRecDepth 100000 in
theorem FnExactBuyBoxes_walk (w : World) (cs0 : List Value) (x0 : Wk) (h0 : RWork w cs0 x0) (okx0 : WorkIn x0) (u : Value) (bl : List (Int × Int)) (hU : Rd 2 RPair w u bl) (okl : AllOk (fun x => I64 x.1 ∧ I64 x.2) bl) (ai : Int) (oki : I64 ai) : Calls Tryz.prog 3 #[.agg cs0.toArray, u, .int .i64 ai] w (Ret (.bool true) w) := by
  obtain ⟨v1, v2, v3, v4, rfl, h1, h2, h3, h4⟩ := h0.form
  obtain ⟨⟨rows, f, n, fl⟩, s, p, r⟩ := x0
  simp only at h1 h2 h3 h4 ⊢
  obtain ⟨P1, q1, rfl, _, _⟩ := h1.form
  obtain ⟨P2, q2, rfl, _, _⟩ := h2.form
  obtain ⟨P3, q3, rfl, _, _⟩ := h3.form
  obtain ⟨P4, q4, rfl, _, _⟩ := h4.form
  have B := ((Below.refl w.heap.size w).al (.cells #[.slice P1 rows.length q1, .slice P2 f.length q2, .slice P3 n.length q3, .slice P4 fl.length q4, .int .i64 s, .int .i64 p, .int .i64 r] 30))
  have bA0 := Blk.new_ w 30 #[.slice P1 rows.length q1, .slice P2 f.length q2, .slice P3 n.length q3, .slice P4 fl.length q4, .int .i64 s, .int .i64 p, .int .i64 r]
  by_cases hsz0 : (total (rows, f, n, fl) : Int) ≤ 1048576
  · skip
    by_cases hszL : (bl.length : Int) ≤ (1048576 : Int) - rows.length - f.length - n.length - fl.length
    · skip
      have hs4 : Small4 (rows, f, n, fl) := by unfold total at hsz0; unfold Small4 Small; simp only at hsz0 ⊢; omega
      have hk0 : ¬ ((1048576 : Int) - rows.length - f.length - n.length - fl.length < 0) := by unfold total at hsz0; simp only at hsz0; omega
      obtain ⟨b, hb⟩ : ∃ b, b = buyOk ((rows, f, n, fl), s, p, r) bl ai := ⟨_, rfl⟩
      obtain ⟨y, hy⟩ : ∃ y : Fl, y = (rows, f, n, fl) := ⟨_, rfl⟩
      obtain ⟨ys, hys⟩ : ∃ ys, ys = buyS ((rows, f, n, fl), s, p, r) bl ai := ⟨_, rfl⟩
      obtain ⟨yp, hyp⟩ : ∃ yp, yp = buyP ((rows, f, n, fl), s, p, r) bl ai := ⟨_, rfl⟩
      obtain ⟨yr, hyr⟩ : ∃ yr, yr = r := ⟨_, rfl⟩
      have hsy : Small4 y := by rw [hy]; exact hs4
      have HY4 := Lib.hid hsy; clear hsy
      have hbb : (b != b) = false := by simp
      have CS : ∀ (a1 a2 a3 a4 q : Value) (w : World), Rd 1 RInt w a1 rows → Rd 3 RDom w a2 f → Rd 3 RDom w a3 n → Rd 2 RPair w a4 fl → Rd 2 RPair w q bl → Calls Tryz.prog 6 #[.agg #[a1, a2, a3, a4, .int .i64 s, .int .i64 p, .int .i64 r], q, .int .i64 ai] w (RetWkB y ys yp yr b w) := fun a1 a2 a3 a4 q w k1 k2 k3 k4 k5 => by rw [hy, hys, hyp, hyr, hb]; exact buyS_any a1 a2 a3 a4 q (rows, f, n, fl) s p r bl ai w k1 k2 k3 k4 k5 hs4
      have CI : ∀ (a1 a2 a3 a4 q : Value) (w : World), Rd 1 RInt w a1 rows → Rd 3 RDom w a2 f → Rd 3 RDom w a3 n → Rd 2 RPair w a4 fl → Rd 2 RPair w q bl → Calls Tryz.prog 9 #[.agg #[a1, a2, a3, a4, .int .i64 s, .int .i64 p, .int .i64 r], q, .int .i64 ai] w (RetWkB y ys yp yr b w) := fun a1 a2 a3 a4 q w k1 k2 k3 k4 k5 => by rw [hy, hys, hyp, hyr, hb]; exact buyI_any a1 a2 a3 a4 q (rows, f, n, fl) s p r bl ai w k1 k2 k3 k4 k5 hs4
      clear hy hys hyp hyr hb
      have HS := Lib.hid hs4
      have HZ0 := Lib.hid hsz0
      have HZL := Lib.hid hszL
      have hkL : ¬ ((1048576 : Int) - rows.length - f.length - n.length - fl.length - bl.length < 0) := by omega
      have hlb : Small bl.length := by unfold Small; omega
      clear hszL
      clear hs4 hsz0
      go_enter Tryz.func3, Tryz.ntmps3
      go_wp2_with fail
      refine (szWork_ok _ _ _ _ (rows, f, n, fl) s p r _ (h1.below RE.stays B) (h2.below RE.stays B) (h3.below RE.stays B) (h4.below RE.stays B) HZ0.out).mono ?_
      rintro e w0 ⟨rfl, hb⟩
      replace B := B.tr hb
      replace bA0 := bA0.bl hb
      clear hb
      go_wp2_with fail
      refine (szBoxs_any _ bl _ _ (hU.below RE.stays B) (by omega) (by omega)).mono ?_
      rintro e w0b ⟨rfl, rfl⟩
      rw [szOf_ok (by have := HZL.out; simpa using this)]
      have z0_0 := bA0.cell 0
      have z0_1 := bA0.cell 1
      have z0_2 := bA0.cell 2
      have z0_3 := bA0.cell 3
      have z0_4 := bA0.cell 4
      have z0_5 := bA0.cell 5
      have z0_6 := bA0.cell 6
      simp only [List.getElem?_toArray, List.getElem?_cons_zero, List.getElem?_cons_succ] at z0_0 z0_1 z0_2 z0_3 z0_4 z0_5 z0_6
      go_wp2_with fail
      refine (toWork_any _ _ _ _ ((rows, f, n, fl), s, p, r) _ (h1.below RE.stays B) (h2.below RE.stays B) (h3.below RE.stays B) (h4.below RE.stays B) HS.out).mono ?_
      rintro e w1 ⟨T1, t1, T2, t2, T3, t3, T4, t4, rfl, oT, hb⟩
      clear z0_0 z0_1 z0_2 z0_3 z0_4 z0_5 z0_6
      replace B := B.tr hb
      replace bA0 := bA0.bl hb
      clear hb
      go_wp2_with fail
      refine (toBoxs_any _ bl _ (hU.below RE.stays B) hlb).mono ?_
      rintro e wu1 ⟨Ub1, qUb1, rfl, oU, hb⟩
      replace oT := oT.below hb
      replace B := B.tr hb
      replace bA0 := bA0.bl hb
      clear hb
      go_wp2_with fail
      refine (CS _ _ _ _ _ _ oT.ra oT.rb oT.rc oT.rd (oU.rd lenCell (by decide))).mono ?_
      rintro e w2 ⟨W1, cW1, W2, cW2, W3, cW3, W4, cW4, rfl, oW, hb⟩
      clear oT oU
      replace oW := oW.mono B.size
      replace B := B.tr hb
      replace bA0 := bA0.bl hb
      clear hb
      replace B := B.al (.cells #[.slice W1 y.1.length cW1, .slice W2 y.2.1.length cW2, .slice W3 y.2.2.1.length cW3, .slice W4 y.2.2.2.length cW4, .int .i64 ys, .int .i64 yp, .int .i64 yr] 40)
      replace bA0 := bA0.alloc (.cells #[.slice W1 y.1.length cW1, .slice W2 y.2.1.length cW2, .slice W3 y.2.2.1.length cW3, .slice W4 y.2.2.2.length cW4, .int .i64 ys, .int .i64 yp, .int .i64 yr] 40)
      replace oW := oW.alloc (.cells #[.slice W1 y.1.length cW1, .slice W2 y.2.1.length cW2, .slice W3 y.2.2.1.length cW3, .slice W4 y.2.2.2.length cW4, .int .i64 ys, .int .i64 yp, .int .i64 yr] 40)
      have bW := Blk.new_ w2 40 #[.slice W1 y.1.length cW1, .slice W2 y.2.1.length cW2, .slice W3 y.2.2.1.length cW3, .slice W4 y.2.2.2.length cW4, .int .i64 ys, .int .i64 yp, .int .i64 yr]
      have z0_0 := bA0.cell 0
      have z0_1 := bA0.cell 1
      have z0_2 := bA0.cell 2
      have z0_3 := bA0.cell 3
      have z0_4 := bA0.cell 4
      have z0_5 := bA0.cell 5
      have z0_6 := bA0.cell 6
      simp only [List.getElem?_toArray, List.getElem?_cons_zero, List.getElem?_cons_succ] at z0_0 z0_1 z0_2 z0_3 z0_4 z0_5 z0_6
      go_wp2_with fail
      refine (toWork_any _ _ _ _ ((rows, f, n, fl), s, p, r) _ (h1.below RE.stays B) (h2.below RE.stays B) (h3.below RE.stays B) (h4.below RE.stays B) HS.out).mono ?_
      rintro e w3 ⟨X1, x1, X2, x2, X3, x3, X4, x4, rfl, oX, hb⟩
      obtain ⟨gW, hgW⟩ : ∃ g, g = w2.heap.size := ⟨_, rfl⟩
      rw [← hgW] at bW ⊢
      clear hgW
      clear z0_0 z0_1 z0_2 z0_3 z0_4 z0_5 z0_6
      have ap_oW_oX := apart_of (fun k hk => (oW.lt hk).2) (fun k hk => (oX.lt hk).1) (Nat.le_refl _)
      replace oX := oX.mono B.size
      replace B := B.tr hb
      replace bA0 := bA0.bl hb
      replace oW := oW.below hb
      replace bW := bW.bl hb
      clear hb
      replace B := B.al (.cells #[.slice X1 rows.length x1, .slice X2 f.length x2, .slice X3 n.length x3, .slice X4 fl.length x4, .int .i64 s, .int .i64 p, .int .i64 r] 40)
      replace bA0 := bA0.alloc (.cells #[.slice X1 rows.length x1, .slice X2 f.length x2, .slice X3 n.length x3, .slice X4 fl.length x4, .int .i64 s, .int .i64 p, .int .i64 r] 40)
      replace oW := oW.alloc (.cells #[.slice X1 rows.length x1, .slice X2 f.length x2, .slice X3 n.length x3, .slice X4 fl.length x4, .int .i64 s, .int .i64 p, .int .i64 r] 40)
      replace bW := bW.alloc (.cells #[.slice X1 rows.length x1, .slice X2 f.length x2, .slice X3 n.length x3, .slice X4 fl.length x4, .int .i64 s, .int .i64 p, .int .i64 r] 40)
      replace oX := oX.alloc (.cells #[.slice X1 rows.length x1, .slice X2 f.length x2, .slice X3 n.length x3, .slice X4 fl.length x4, .int .i64 s, .int .i64 p, .int .i64 r] 40)
      have bX := Blk.new_ w3 40 #[.slice X1 rows.length x1, .slice X2 f.length x2, .slice X3 n.length x3, .slice X4 fl.length x4, .int .i64 s, .int .i64 p, .int .i64 r]
      go_wp2_with fail
      refine (toBoxs_any _ bl _ (hU.below RE.stays B) hlb).mono ?_
      rintro e wu2 ⟨Vb1, qVb1, rfl, oV, hb⟩
      have ap_oW_oV := apart_of (fun k hk => (oW.lt hk).2) (fun k hk => (World.ownsRow.lt oV k hk).1) (Nat.le_refl _)
      have ap_oX_oV := apart_of (fun k hk => (oX.lt hk).2) (fun k hk => (World.ownsRow.lt oV k hk).1) (Nat.le_refl _)
      replace oV := oV.mono B.size
      replace B := B.tr hb
      replace bA0 := bA0.bl hb
      replace oW := oW.below hb
      replace bW := bW.bl hb
      replace oX := oX.below hb
      replace bX := bX.bl hb
      clear hb
      have x_0 := bX.cell 0
      have x_1 := bX.cell 1
      have x_2 := bX.cell 2
      have x_3 := bX.cell 3
      have x_4 := bX.cell 4
      have x_5 := bX.cell 5
      have x_6 := bX.cell 6
      simp only [List.getElem?_toArray, List.getElem?_cons_zero, List.getElem?_cons_succ] at x_0 x_1 x_2 x_3 x_4 x_5 x_6
      go_wp2_with fail
      refine (CI _ _ _ _ _ _ oX.ra oX.rb oX.rc oX.rd (oV.rd lenCell (by decide))).mono ?_
      rintro e w4 ⟨G1, cG1, G2, cG2, G3, cG3, G4, cG4, rfl, oG, hb⟩
      obtain ⟨gX, hgX⟩ : ∃ g, g = w3.heap.size := ⟨_, rfl⟩
      rw [← hgX] at bX ⊢
      clear hgX
      clear x_0 x_1 x_2 x_3 x_4 x_5 x_6
      have ap_oX_oG := apart_of (fun k hk => (oX.lt hk).2) (fun k hk => (oG.lt hk).1) (Nat.le_refl _)
      have ap_oV_oG := apart_of (fun k hk => (World.ownsRow.lt oV k hk).2) (fun k hk => (oG.lt hk).1) (Nat.le_refl _)
      have ap_oW_oG := apart_of (fun k hk => (oW.lt hk).2) (fun k hk => (oG.lt hk).1) (Nat.le_refl _)
      replace oG := oG.mono B.size
      replace B := B.tr hb
      replace bA0 := bA0.bl hb
      replace oW := oW.below hb
      replace bW := bW.bl hb
      replace oX := oX.below hb
      replace oV := oV.below hb
      replace bX := bX.bl hb
      clear hb
      replace B := B.al (.cells #[.slice G1 y.1.length cG1, .slice G2 y.2.1.length cG2, .slice G3 y.2.2.1.length cG3, .slice G4 y.2.2.2.length cG4, .int .i64 ys, .int .i64 yp, .int .i64 yr] 40)
      replace bA0 := bA0.alloc (.cells #[.slice G1 y.1.length cG1, .slice G2 y.2.1.length cG2, .slice G3 y.2.2.1.length cG3, .slice G4 y.2.2.2.length cG4, .int .i64 ys, .int .i64 yp, .int .i64 yr] 40)
      replace oW := oW.alloc (.cells #[.slice G1 y.1.length cG1, .slice G2 y.2.1.length cG2, .slice G3 y.2.2.1.length cG3, .slice G4 y.2.2.2.length cG4, .int .i64 ys, .int .i64 yp, .int .i64 yr] 40)
      replace bW := bW.alloc (.cells #[.slice G1 y.1.length cG1, .slice G2 y.2.1.length cG2, .slice G3 y.2.2.1.length cG3, .slice G4 y.2.2.2.length cG4, .int .i64 ys, .int .i64 yp, .int .i64 yr] 40)
      replace oX := oX.alloc (.cells #[.slice G1 y.1.length cG1, .slice G2 y.2.1.length cG2, .slice G3 y.2.2.1.length cG3, .slice G4 y.2.2.2.length cG4, .int .i64 ys, .int .i64 yp, .int .i64 yr] 40)
      replace oV := oV.alloc (.cells #[.slice G1 y.1.length cG1, .slice G2 y.2.1.length cG2, .slice G3 y.2.2.1.length cG3, .slice G4 y.2.2.2.length cG4, .int .i64 ys, .int .i64 yp, .int .i64 yr] 40)
      replace bX := bX.alloc (.cells #[.slice G1 y.1.length cG1, .slice G2 y.2.1.length cG2, .slice G3 y.2.2.1.length cG3, .slice G4 y.2.2.2.length cG4, .int .i64 ys, .int .i64 yp, .int .i64 yr] 40)
      replace oG := oG.alloc (.cells #[.slice G1 y.1.length cG1, .slice G2 y.2.1.length cG2, .slice G3 y.2.2.1.length cG3, .slice G4 y.2.2.2.length cG4, .int .i64 ys, .int .i64 yp, .int .i64 yr] 40)
      have bG := Blk.new_ w4 40 #[.slice G1 y.1.length cG1, .slice G2 y.2.1.length cG2, .slice G3 y.2.2.1.length cG3, .slice G4 y.2.2.2.length cG4, .int .i64 ys, .int .i64 yp, .int .i64 yr]
      have u_0 := bG.cell 0
      have u_1 := bG.cell 1
      have u_2 := bG.cell 2
      have u_3 := bG.cell 3
      have u_4 := bG.cell 4
      have u_5 := bG.cell 5
      have u_6 := bG.cell 6
      simp only [List.getElem?_toArray, List.getElem?_cons_zero, List.getElem?_cons_succ] at u_0 u_1 u_2 u_3 u_4 u_5 u_6
      have v_0 := bW.cell 0
      have v_1 := bW.cell 1
      have v_2 := bW.cell 2
      have v_3 := bW.cell 3
      have v_4 := bW.cell 4
      have v_5 := bW.cell 5
      have v_6 := bW.cell 6
      simp only [List.getElem?_toArray, List.getElem?_cons_zero, List.getElem?_cons_succ] at v_0 v_1 v_2 v_3 v_4 v_5 v_6
      go_wp2_with fail
      refine (eqWork_same _ _ _ _ _ _ _ _ y ys yp yr _ oG.ra oG.rb oG.rc oG.rd oW.ra oW.rb oW.rc oW.rd).mono ?_
      rintro e w5 ⟨rfl, hb⟩
      obtain ⟨gG, hgG⟩ : ∃ g, g = w4.heap.size := ⟨_, rfl⟩
      rw [← hgG] at bG ⊢
      clear hgG
      clear u_0 u_1 u_2 u_3 u_4 u_5 u_6 v_0 v_1 v_2 v_3 v_4 v_5 v_6
      replace B := B.tr hb
      replace bA0 := bA0.bl hb
      replace oW := oW.below hb
      replace bW := bW.bl hb
      replace oX := oX.below hb
      replace oV := oV.below hb
      replace bX := bX.bl hb
      replace oG := oG.below hb
      replace bG := bG.bl hb
      clear hb
      go_upto_region 14 with (fail)
      obtain ⟨W, hW⟩ : ∃ W, W = w5 := ⟨_, rfl⟩
      rw [← hW] at B bA0 oW bW oX oV bX oG bG ⊢
      clear hW
      have z_0 := bA0.cell 0
      have z_1 := bA0.cell 1
      have z_2 := bA0.cell 2
      have z_3 := bA0.cell 3
      have z_4 := bA0.cell 4
      have z_5 := bA0.cell 5
      have z_6 := bA0.cell 6
      simp only [List.getElem?_toArray, List.getElem?_cons_zero, List.getElem?_cons_succ] at z_0 z_1 z_2 z_3 z_4 z_5 z_6
      have x_0 := bX.cell 0
      have x_1 := bX.cell 1
      have x_2 := bX.cell 2
      have x_3 := bX.cell 3
      have x_4 := bX.cell 4
      have x_5 := bX.cell 5
      have x_6 := bX.cell 6
      simp only [List.getElem?_toArray, List.getElem?_cons_zero, List.getElem?_cons_succ] at x_0 x_1 x_2 x_3 x_4 x_5 x_6
      have hlA0 := bA0.lt
      have hlX := bX.lt
      have Bw : Below W.heap.size W W.drew := (Below.refl _ _).drew
      have hz : W.heap.size ≤ W.drew.heap.size := by simp
      refine wp_region_held_drew (S := (fun w' => w'.cell? ⟨gX, 0, none⟩ = some (.slice X1 rows.length x1) ∧ w'.cell? ⟨gX, 1, none⟩ = some (.slice X2 f.length x2) ∧ w'.cell? ⟨gX, 2, none⟩ = some (.slice X3 n.length x3) ∧ w'.cell? ⟨gX, 3, none⟩ = some (.slice X4 fl.length x4) ∧ w'.cell? ⟨gX, 4, none⟩ = some (.int .i64 s) ∧ w'.cell? ⟨gX, 5, none⟩ = some (.int .i64 p) ∧ w'.cell? ⟨gX, 6, none⟩ = some (.int .i64 r) ∧ w'.cell? ⟨w.heap.size, 0, none⟩ = some (.slice P1 rows.length q1) ∧ w'.cell? ⟨w.heap.size, 1, none⟩ = some (.slice P2 f.length q2) ∧ w'.cell? ⟨w.heap.size, 2, none⟩ = some (.slice P3 n.length q3) ∧ w'.cell? ⟨w.heap.size, 3, none⟩ = some (.slice P4 fl.length q4) ∧ w'.cell? ⟨w.heap.size, 4, none⟩ = some (.int .i64 s) ∧ w'.cell? ⟨w.heap.size, 5, none⟩ = some (.int .i64 p) ∧ w'.cell? ⟨w.heap.size, 6, none⟩ = some (.int .i64 r))) (by kernel_rfl) ?_ (fun hHeld => ?_)
      · (try dsimp only); (try go_keep)
      refine tk 0 oFnExactBuyBoxesW0 rfl (by kernel_rfl) (v := ?_) (fun _ _ _ h => h) (Or.inl ⟨by rfl, ?_⟩) (by assumption) ?_
      rotate_left 1
      · (intro wS hSw; (try dsimp only at hSw); dsimp only [oFnExactBuyBoxesW0]; go_simp; (all_goals with_reducible rfl))
      simp only [oFnExactBuyBoxesW0, putL, List.set]
      refine tk 1 oFnExactBuyBoxesW1 rfl (by kernel_rfl) (v := ?_) (fun _ _ _ h => h) (Or.inl ⟨by rfl, ?_⟩) (by assumption) ?_
      rotate_left 1
      · (intro wS hSw; (try dsimp only at hSw); dsimp only [oFnExactBuyBoxesW1]; go_simp; (all_goals with_reducible rfl))
      simp only [oFnExactBuyBoxesW1, putL, List.set]
      refine wpAnyH_ready (rs := [2]) (by kernel_rfl) (by simp) ?_
      refine AllReadyH.cons (o := oFnExactBuyBoxesW2) rfl (fun K hK => ?_) AllReadyH.nil
      dsimp only [oFnExactBuyBoxesW2]
      go_simp
      (first | (go_at_call 7; go_must (refine (toWork_any _ _ _ _ ((rows, f, n, fl), s, p, r) _ (h1.below RE.stays (B.tr Bw)) (h2.below RE.stays (B.tr Bw)) (h3.below RE.stays (B.tr Bw)) (h4.below RE.stays (B.tr Bw)) HS.out).mono ?_; rintro e wX ⟨T1, t1, T2, t2, T3, t3, T4, t4, rfl, oT, hbX⟩; obtain ⟨hcX, hfX, hzX⟩ := bkn hbX W.heap.size hz; have hz := hzX; have Bw := Bw.tr hbX); (try go_wp2_with fail)) | (go_at_call 10; go_must (refine (eqWork_same _ _ _ _ _ _ _ _ (rows, f, n, fl) s p r _ (oX.below Bw).ra (oX.below Bw).rb (oX.below Bw).rc (oX.below Bw).rd oT.ra oT.rb oT.rc oT.rd).mono ?_; rintro e wX ⟨rfl, hbX⟩; obtain ⟨hcX, hfX, hzX⟩ := bkn hbX W.heap.size hz; have hz := hzX; have Bw := Bw.tr hbX); (try go_wp2_with fail)))
      refine hK.out _ _ ?_ (fun hHeld => ?_)
      · (try dsimp only); (try go_keep)
      clear hK K
      (try simp only [Act.put, List.setIfInBounds_toArray, List.set_cons_zero, List.set_cons_succ])
      refine wpAnyH_ready (rs := [3]) (by kernel_rfl) (by simp) ?_
      refine AllReadyH.cons (o := oFnExactBuyBoxesW3) rfl (fun K hK => ?_) AllReadyH.nil
      dsimp only [oFnExactBuyBoxesW3]
      go_simp
      (first | (go_at_call 7; go_must (refine (toWork_any _ _ _ _ ((rows, f, n, fl), s, p, r) _ (h1.below RE.stays (B.tr Bw)) (h2.below RE.stays (B.tr Bw)) (h3.below RE.stays (B.tr Bw)) (h4.below RE.stays (B.tr Bw)) HS.out).mono ?_; rintro e wX ⟨T1, t1, T2, t2, T3, t3, T4, t4, rfl, oT, hbX⟩; obtain ⟨hcX, hfX, hzX⟩ := bkn hbX W.heap.size hz; have hz := hzX; have Bw := Bw.tr hbX); (try go_wp2_with fail)) | (go_at_call 10; go_must (refine (eqWork_same _ _ _ _ _ _ _ _ (rows, f, n, fl) s p r _ (oX.below Bw).ra (oX.below Bw).rb (oX.below Bw).rc (oX.below Bw).rd oT.ra oT.rb oT.rc oT.rd).mono ?_; rintro e wX ⟨rfl, hbX⟩; obtain ⟨hcX, hfX, hzX⟩ := bkn hbX W.heap.size hz; have hz := hzX; have Bw := Bw.tr hbX); (try go_wp2_with fail)))
      refine hK.out _ _ ?_ (fun hHeld => ?_)
      · (try dsimp only); (try go_keep)
      clear hK K
      (try simp only [Act.put, List.setIfInBounds_toArray, List.set_cons_zero, List.set_cons_succ])
      refine tk 4 oFnExactBuyBoxesW4 rfl (by kernel_rfl) (v := ?_) (fun _ _ _ h => h) (Or.inl ⟨by rfl, ?_⟩) (by assumption) ?_
      rotate_left 1
      · (intro wS hSw; (try dsimp only at hSw); dsimp only [oFnExactBuyBoxesW4]; go_simp; (all_goals with_reducible rfl))
      simp only [oFnExactBuyBoxesW4, putL, List.set]
      refine wpAnyH_done (by kernel_rfl) ?_ _
      clear z_0 z_1 z_2 z_3 z_4 z_5 z_6 x_0 x_1 x_2 x_3 x_4 x_5 x_6
      replace B := B.tr Bw
      replace bA0 := bA0.bl Bw
      replace oW := oW.below Bw
      replace bW := bW.bl Bw
      replace oX := oX.below Bw
      replace oV := oV.below Bw
      replace bX := bX.bl Bw
      replace oG := oG.below Bw
      replace bG := bG.bl Bw
      clear Bw hz oT
      go_wp2_with fail
      refine (toBoxs_any _ bl _ (hU.below RE.stays B) hlb).mono ?_
      rintro e wu3 ⟨Ub1, qUb1, rfl, oU, hb⟩
      replace B := B.tr hb
      replace bA0 := bA0.bl hb
      replace oW := oW.below hb
      replace bW := bW.bl hb
      replace oX := oX.below hb
      replace bX := bX.bl hb
      replace oV := oV.below hb
      replace oG := oG.below hb
      replace bG := bG.bl hb
      clear hb
      go_wp2_with fail
      refine (eqBoxs_same _ _ bl _ (oV.rd lenCell (by decide)) (oU.rd lenCell (by decide))).mono ?_
      rintro e wq ⟨rfl, hb⟩
      replace B := B.tr hb
      replace bA0 := bA0.bl hb
      replace oW := oW.below hb
      replace bW := bW.bl hb
      replace oX := oX.below hb
      replace bX := bX.bl hb
      replace oV := oV.below hb
      replace oG := oG.below hb
      replace bG := bG.bl hb
      clear hb oU
      have x_0 := bX.cell 0
      have x_1 := bX.cell 1
      have x_2 := bX.cell 2
      have x_3 := bX.cell 3
      have x_4 := bX.cell 4
      have x_5 := bX.cell 5
      have x_6 := bX.cell 6
      simp only [List.getElem?_toArray, List.getElem?_cons_zero, List.getElem?_cons_succ] at x_0 x_1 x_2 x_3 x_4 x_5 x_6
      have hmx := mkEnd_pos (rows, f, n, fl)
      have hmy := mkEnd_pos y
      go_wp2_with fail
      refine (markWork_any _ _ _ _ (rows, f, n, fl) s p r _ _ oX HS.out).mono ?_
      rintro e w7 ⟨rfl, oM, hG⟩
      clear x_0 x_1 x_2 x_3 x_4 x_5 x_6
      replace bA0 := bA0.grownS hG (oX.apart bA0 (by decide) (by decide) (by decide))
      replace oW := oW.grownS hG (ap_oW_oX)
      replace bW := bW.grownS hG (oX.apart bW (by decide) (by decide) (by decide))
      replace bX := bX.grownS hG (oX.apart bX (by decide) (by decide) (by decide))
      replace oG := oG.grownS hG (fun k hk hx => ap_oX_oG k hx hk)
      replace bG := bG.grownS hG (oX.apart bG (by decide) (by decide) (by decide))
      replace B := Below.grownS B hG B.size (fun k hk => (oX.lt hk).1)
      replace oV := oV.grownS hG (fun k hk hx => ap_oX_oV k hx hk)
      clear hG oM
      clear oX bX
      go_wp2_with fail
      refine (markBoxs_any _ bl _ _ _ oV (by unfold mkEnd; omega) (by have := HZ0.out; unfold total at this; unfold mkEnd; simp only at this ⊢; omega) hlb).mono ?_
      rintro e wm ⟨rfl, oM, hg⟩
      have hG := Grown.of hg
      replace bA0 := bA0.grownS hG (oV.apart bA0 (by decide))
      replace oW := oW.grownS hG (ap_oW_oV)
      replace bW := bW.grownS hG (oV.apart bW (by decide))
      replace oG := oG.grownS hG (fun k hk hx => ap_oV_oG k hx hk)
      replace bG := bG.grownS hG (oV.apart bG (by decide))
      replace B := Below.grownS B hG B.size (fun k hk => (World.ownsRow.lt oV k hk).1)
      clear hG oM hg
      clear oV
      have hmv : ¬ (mkEnd (rows, f, n, fl) + 2 * (bl.length : Int) < 0) := by unfold mkEnd; omega
      have u_0 := bG.cell 0
      have u_1 := bG.cell 1
      have u_2 := bG.cell 2
      have u_3 := bG.cell 3
      have u_4 := bG.cell 4
      have u_5 := bG.cell 5
      have u_6 := bG.cell 6
      simp only [List.getElem?_toArray, List.getElem?_cons_zero, List.getElem?_cons_succ] at u_0 u_1 u_2 u_3 u_4 u_5 u_6
      have v_0 := bW.cell 0
      have v_1 := bW.cell 1
      have v_2 := bW.cell 2
      have v_3 := bW.cell 3
      have v_4 := bW.cell 4
      have v_5 := bW.cell 5
      have v_6 := bW.cell 6
      simp only [List.getElem?_toArray, List.getElem?_cons_zero, List.getElem?_cons_succ] at v_0 v_1 v_2 v_3 v_4 v_5 v_6
      go_wp2_with fail
      refine (eqWork_same _ _ _ _ _ _ _ _ y ys yp yr _ oG.ra oG.rb oG.rc oG.rd oW.ra oW.rb oW.rc oW.rd).mono ?_
      rintro e w8 ⟨rfl, hb⟩
      clear u_0 u_1 u_2 u_3 u_4 u_5 u_6 v_0 v_1 v_2 v_3 v_4 v_5 v_6
      replace B := B.tr hb
      replace bA0 := bA0.bl hb
      replace oW := oW.below hb
      replace bW := bW.bl hb
      replace oG := oG.below hb
      replace bG := bG.bl hb
      clear hb
      have u_0 := bG.cell 0
      have u_1 := bG.cell 1
      have u_2 := bG.cell 2
      have u_3 := bG.cell 3
      have u_4 := bG.cell 4
      have u_5 := bG.cell 5
      have u_6 := bG.cell 6
      simp only [List.getElem?_toArray, List.getElem?_cons_zero, List.getElem?_cons_succ] at u_0 u_1 u_2 u_3 u_4 u_5 u_6
      go_wp2_with fail
      refine (markWork_any _ _ _ _ y ys yp yr _ _ oG HY4.out).mono ?_
      rintro e w9 ⟨rfl, oM, hG⟩
      clear u_0 u_1 u_2 u_3 u_4 u_5 u_6
      replace bA0 := bA0.grownS hG (oG.apart bA0 (by decide) (by decide) (by decide))
      replace oW := oW.grownS hG (ap_oW_oG)
      replace bW := bW.grownS hG (oG.apart bW (by decide) (by decide) (by decide))
      replace bG := bG.grownS hG (oG.apart bG (by decide) (by decide) (by decide))
      replace B := Below.grownS B hG B.size (fun k hk => (oG.lt hk).1)
      clear hG oG
      have oG := oM
      clear oM
      have u_0 := bG.cell 0
      have u_1 := bG.cell 1
      have u_2 := bG.cell 2
      have u_3 := bG.cell 3
      have u_4 := bG.cell 4
      have u_5 := bG.cell 5
      have u_6 := bG.cell 6
      simp only [List.getElem?_toArray, List.getElem?_cons_zero, List.getElem?_cons_succ] at u_0 u_1 u_2 u_3 u_4 u_5 u_6
      go_wp2_with fail
      refine (heldWork_any _ _ _ _ y ys yp yr _ _ oG HY4.out).mono ?_
      rintro e w10 ⟨rfl, hb⟩
      clear u_0 u_1 u_2 u_3 u_4 u_5 u_6
      replace B := B.tr hb
      replace bA0 := bA0.bl hb
      replace oW := oW.below hb
      replace bW := bW.bl hb
      replace oG := oG.below hb
      replace bG := bG.bl hb
      clear hb
      have z0_0 := bA0.cell 0
      have z0_1 := bA0.cell 1
      have z0_2 := bA0.cell 2
      have z0_3 := bA0.cell 3
      have z0_4 := bA0.cell 4
      have z0_5 := bA0.cell 5
      have z0_6 := bA0.cell 6
      simp only [List.getElem?_toArray, List.getElem?_cons_zero, List.getElem?_cons_succ] at z0_0 z0_1 z0_2 z0_3 z0_4 z0_5 z0_6
      go_wp2_with fail
      refine (toWork_any _ _ _ _ ((rows, f, n, fl), s, p, r) _ (h1.below RE.stays B) (h2.below RE.stays B) (h3.below RE.stays B) (h4.below RE.stays B) HS.out).mono ?_
      rintro e w11 ⟨T1, t1, T2, t2, T3, t3, T4, t4, rfl, oT, hb⟩
      clear z0_0 z0_1 z0_2 z0_3 z0_4 z0_5 z0_6
      replace B := B.tr hb
      replace bA0 := bA0.bl hb
      replace oW := oW.below hb
      replace bW := bW.bl hb
      replace oG := oG.below hb
      replace bG := bG.bl hb
      clear hb
      go_wp2_with fail
      refine (toBoxs_any _ bl _ (hU.below RE.stays B) hlb).mono ?_
      rintro e wu4 ⟨Ub1, qUb1, rfl, oU, hb⟩
      replace oT := oT.below hb
      replace B := B.tr hb
      replace bA0 := bA0.bl hb
      replace oW := oW.below hb
      replace bW := bW.bl hb
      replace oG := oG.below hb
      replace bG := bG.bl hb
      clear hb
      go_wp2_with fail
      refine (CI _ _ _ _ _ _ oT.ra oT.rb oT.rc oT.rd (oU.rd lenCell (by decide))).mono ?_
      rintro e w12 ⟨H1, cH1, H2, cH2, H3, cH3, H4, cH4, rfl, oH, hb⟩
      clear oT oU
      replace oH := oH.mono B.size
      replace B := B.tr hb
      replace bA0 := bA0.bl hb
      replace oW := oW.below hb
      replace bW := bW.bl hb
      replace oG := oG.below hb
      replace bG := bG.bl hb
      clear hb
      replace B := B.al (.cells #[.slice H1 y.1.length cH1, .slice H2 y.2.1.length cH2, .slice H3 y.2.2.1.length cH3, .slice H4 y.2.2.2.length cH4, .int .i64 ys, .int .i64 yp, .int .i64 yr] 40)
      replace bA0 := bA0.alloc (.cells #[.slice H1 y.1.length cH1, .slice H2 y.2.1.length cH2, .slice H3 y.2.2.1.length cH3, .slice H4 y.2.2.2.length cH4, .int .i64 ys, .int .i64 yp, .int .i64 yr] 40)
      replace oW := oW.alloc (.cells #[.slice H1 y.1.length cH1, .slice H2 y.2.1.length cH2, .slice H3 y.2.2.1.length cH3, .slice H4 y.2.2.2.length cH4, .int .i64 ys, .int .i64 yp, .int .i64 yr] 40)
      replace bW := bW.alloc (.cells #[.slice H1 y.1.length cH1, .slice H2 y.2.1.length cH2, .slice H3 y.2.2.1.length cH3, .slice H4 y.2.2.2.length cH4, .int .i64 ys, .int .i64 yp, .int .i64 yr] 40)
      replace oG := oG.alloc (.cells #[.slice H1 y.1.length cH1, .slice H2 y.2.1.length cH2, .slice H3 y.2.2.1.length cH3, .slice H4 y.2.2.2.length cH4, .int .i64 ys, .int .i64 yp, .int .i64 yr] 40)
      replace bG := bG.alloc (.cells #[.slice H1 y.1.length cH1, .slice H2 y.2.1.length cH2, .slice H3 y.2.2.1.length cH3, .slice H4 y.2.2.2.length cH4, .int .i64 ys, .int .i64 yp, .int .i64 yr] 40)
      replace oH := oH.alloc (.cells #[.slice H1 y.1.length cH1, .slice H2 y.2.1.length cH2, .slice H3 y.2.2.1.length cH3, .slice H4 y.2.2.2.length cH4, .int .i64 ys, .int .i64 yp, .int .i64 yr] 40)
      have bH := Blk.new_ w12 40 #[.slice H1 y.1.length cH1, .slice H2 y.2.1.length cH2, .slice H3 y.2.2.1.length cH3, .slice H4 y.2.2.2.length cH4, .int .i64 ys, .int .i64 yp, .int .i64 yr]
      have u_0 := bH.cell 0
      have u_1 := bH.cell 1
      have u_2 := bH.cell 2
      have u_3 := bH.cell 3
      have u_4 := bH.cell 4
      have u_5 := bH.cell 5
      have u_6 := bH.cell 6
      simp only [List.getElem?_toArray, List.getElem?_cons_zero, List.getElem?_cons_succ] at u_0 u_1 u_2 u_3 u_4 u_5 u_6
      have v_0 := bW.cell 0
      have v_1 := bW.cell 1
      have v_2 := bW.cell 2
      have v_3 := bW.cell 3
      have v_4 := bW.cell 4
      have v_5 := bW.cell 5
      have v_6 := bW.cell 6
      simp only [List.getElem?_toArray, List.getElem?_cons_zero, List.getElem?_cons_succ] at v_0 v_1 v_2 v_3 v_4 v_5 v_6
      go_wp2_with fail
      refine (eqWork_same _ _ _ _ _ _ _ _ y ys yp yr _ oH.ra oH.rb oH.rc oH.rd oW.ra oW.rb oW.rc oW.rd).mono ?_
      rintro e w13 ⟨rfl, hb⟩
      obtain ⟨gH, hgH⟩ : ∃ g, g = w12.heap.size := ⟨_, rfl⟩
      rw [← hgH] at bH ⊢
      clear hgH
      clear u_0 u_1 u_2 u_3 u_4 u_5 u_6 v_0 v_1 v_2 v_3 v_4 v_5 v_6
      replace B := B.tr hb
      replace bA0 := bA0.bl hb
      replace oW := oW.below hb
      replace bW := bW.bl hb
      replace oG := oG.below hb
      replace bG := bG.bl hb
      replace oH := oH.below hb
      replace bH := bH.bl hb
      clear hb
      have u_0 := bG.cell 0
      have u_1 := bG.cell 1
      have u_2 := bG.cell 2
      have u_3 := bG.cell 3
      have u_4 := bG.cell 4
      have u_5 := bG.cell 5
      have u_6 := bG.cell 6
      simp only [List.getElem?_toArray, List.getElem?_cons_zero, List.getElem?_cons_succ] at u_0 u_1 u_2 u_3 u_4 u_5 u_6
      go_wp2_with fail
      refine (heldWork_any _ _ _ _ y ys yp yr _ _ oG HY4.out).mono ?_
      rintro e w14 ⟨rfl, hb⟩
      clear u_0 u_1 u_2 u_3 u_4 u_5 u_6
      replace B := B.tr hb
      replace bA0 := bA0.bl hb
      replace oW := oW.below hb
      replace bW := bW.bl hb
      replace oG := oG.below hb
      replace bG := bG.bl hb
      replace oH := oH.below hb
      replace bH := bH.bl hb
      clear hb
      go_wp2
      go_ret
      exact ⟨rfl, B⟩
    · skip
      go_enter Tryz.func3, Tryz.ntmps3
      have hk0 : ¬ ((1048576 : Int) - rows.length - f.length - n.length - fl.length < 0) := by unfold total at hsz0; simp only at hsz0; omega
      have HZ0 := Lib.hid hsz0
      have HZL := Lib.hid hszL
      clear hsz0 hszL
      go_wp2_with fail
      refine (szWork_ok _ _ _ _ (rows, f, n, fl) s p r _ (h1.below RE.stays B) (h2.below RE.stays B) (h3.below RE.stays B) (h4.below RE.stays B) HZ0.out).mono ?_
      rintro e w0 ⟨rfl, hb⟩
      replace B := B.tr hb
      clear hb
      go_wp2_with fail
      refine (szBoxs_any _ bl _ _ (hU.below RE.stays B) (by omega) (by omega)).mono ?_
      rintro e w1 ⟨rfl, rfl⟩
      rw [szOf_no (by have := HZL.out; simpa using this)]
      go_wp2
      go_ret
      exact ⟨rfl, B⟩
  · skip
    have HZ0 := Lib.hid hsz0
    clear hsz0
    go_enter Tryz.func3, Tryz.ntmps3
    go_wp2_with fail
    refine (szWork_no _ _ _ _ (rows, f, n, fl) s p r _ (h1.below RE.stays B) (h2.below RE.stays B) (h3.below RE.stays B) (h4.below RE.stays B) (by have := HZ0.out; omega)).mono ?_
    rintro e w0 ⟨rfl, hb⟩
    go_wp2
    go_ret
    exact ⟨rfl, B.tr hb⟩
end Go.Proofs.YtmmeomjclfgljaaGreat
