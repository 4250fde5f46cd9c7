/- The law FnExactWithCell. No conditions. -/
import Derived.Test.YthmijfcoplillaaRegConv
import Derived.Deep.DeepCutAuto
import Derived.Deep.RegionHeld3
namespace Go.Proofs.Ythmijfcoplillaa
open Go.ChangeShapes Go.WideShapes Go.ChangeAt Go.RowKit
set_option linter.unusedVariables false

theorem eqRegion_same (u v : Value) (l : List Int) (w : World) (h : Rd 1 RInt w u l) (h' : Rd 1 RInt w v l) : Calls Try.prog 57 #[.agg #[u], .agg #[v]] w (Ret (.bool true) w) := by
  have := eqRegion_any u v l l w h h'; rw [beq_self_eq_true] at this; exact this

set_option maxHeartbeats 8000000 in
set_option maxRecDepth 100000 in
theorem FnExactWithCell_walk (w : World) (cs : List Value) (rows : List Int) (h : RSl 1 RInt w cs rows) (okr : AllOk I64 rows) (cs2 : List Value) (x : Int × Int) (h2 : RPair w cs2 x) (ok2 : I64 x.1 ∧ I64 x.2) (on : Bool) :
    Calls Try.prog 13 #[.agg cs.toArray, .agg cs2.toArray, .bool on] w (Ret (.bool true) w) := by
  obtain ⟨v, rfl, hr⟩ := h
  change cs2 = _ at h2
  subst h2
  obtain ⟨A, c, rfl, hc, hm⟩ := hr.form
  obtain ⟨x, y⟩ := x
  have hA := ((Below.refl w.heap.size w).al (.cells #[.slice A rows.length c] 71)).al (.cells #[.int .i64 x, .int .i64 y] 73)
  by_cases hsz : rows.length ≤ 1048576
  · have hl : Small rows.length := by unfold Small; omega
    have hlen := withCell_len hsz (x, y) on
    obtain ⟨rs, hrs⟩ : ∃ rs, rs = (withCell rows (x, y) on).1 := ⟨_, rfl⟩
    obtain ⟨b, hb⟩ : ∃ b, b = (withCell rows (x, y) on).2 := ⟨_, rfl⟩
    rw [← hrs] at hlen
    have WS : ∀ (v : Value) (w : World), Rd 1 RInt w v rows → Calls Try.prog 53 #[.agg #[v], .agg #[.int .i64 x, .int .i64 y], .bool on] w (RetRegB rs b w) := fun v w h => by
      rw [hrs, hb]; exact withCellS_any v rows x y on w h hl
    have WI : ∀ (v : Value) (w : World), Rd 1 RInt w v rows → Calls Try.prog 56 #[.agg #[v], .agg #[.int .i64 x, .int .i64 y], .bool on] w (RetRegB rs b w) := fun v w h => by
      rw [hrs, hb]; exact withCellI_any v rows x y on w h hl
    clear hrs hb
    have hS : Blk ((w.alloc (.cells #[.slice A rows.length c] 71)).alloc (.cells #[.int .i64 x, .int .i64 y] 73)) w.heap.size 71 #[.slice A rows.length c] := (Blk.new_ w _ _).alloc _
    have hT : Blk ((w.alloc (.cells #[.slice A rows.length c] 71)).alloc (.cells #[.int .i64 x, .int .i64 y] 73)) (w.heap.size + 1) 73 #[.int .i64 x, .int .i64 y] := Blk.new2 _ _ _ _ (by simp)
    go_enter Try.func13, Try.ntmps13
    go_wp2_with fail
    refine (szRegion_any _ rows _ _ (hr.below RE.stays hA) (by decide) (by decide)).mono ?_
    rintro e w0 ⟨rfl, hb0⟩
    obtain ⟨hc0, hf0, hz0⟩ := bk hb0
    (try simp at hz0)
    have hy0_0 : w.heap.size < w0.heap.size := by omega
    have hy0_1 : w.heap.size + 1 < w0.heap.size := by omega
    have B0 := hA.tr hb0
    rw [szOf_ok (by omega)]
    have hS0 := hS.bl hb0
    have hT0 := hT.bl hb0
    clear hS hT hA hc0 hf0 hb0
    have z0 := hS0.c1
    have z1 := hT0.cell 0
    have z2 := hT0.cell 1
    simp only [List.getElem?_toArray, List.getElem?_cons_zero, List.getElem?_cons_succ] at z1 z2
    have hn00 : w.heap.size ≠ w0.heap.size := by omega
    have hn01 : w.heap.size + 1 ≠ w0.heap.size := by omega
    have hm00 := hn00.symm
    have hm01 := hn01.symm
    have hp0 : w.heap.size < w.heap.size + 1 + 1 := by omega
    have hp1 : w.heap.size + 1 < w.heap.size + 1 + 1 := by omega
    go_wp2_with fail
    go_cut [8, 9] (fun s8 s9 wx => ∃ (g : Nat) (A3 : Option Addr) (c3 : Nat), s8 = .pointer (some ⟨g, 0, none⟩) ∧ s9 = .bool b ∧ w.heap.size + 1 + 1 ≤ g ∧ Blk wx g 75 #[.slice A3 rs.length c3] ∧ Value.ownBlock (.slice A3 rs.length c3) ≠ some g ∧ OwnL 3 1 eInt (w.heap.size + 1 + 1) wx (.slice A3 rs.length c3) rs ∧ Blk wx w.heap.size 71 #[.slice A rows.length c] ∧ Blk wx (w.heap.size + 1) 73 #[.int .i64 x, .int .i64 y] ∧ Below w.heap.size w wx)
    case first =>
      go_region_held3 (fun w' => w'.cell? ⟨w.heap.size, 0, none⟩ = some (.slice A rows.length c) ∧ w'.cell? ⟨w.heap.size + 1, 0, none⟩ = some (.int .i64 x) ∧ w'.cell? ⟨w.heap.size + 1, 1, none⟩ = some (.int .i64 y)) (go_keep) (first | (go_at_call 54; go_must (refine (toRegion_any _ rows _ (hr.below RE.stays (by first | exact B0.drew | exact B0.drew.al _)) hl).mono ?_; rintro e w1 ⟨A1, c1, rfl, own1, hb1⟩; obtain ⟨hc1, hf1, hz1⟩ := bkn hb1 (w.heap.size + 1 + 1) (by first | exact hz0 | (simp; done) | (simp; omega)); have hn10 : w.heap.size ≠ w1.heap.size := (by omega); have hn11 : w.heap.size + 1 ≠ w1.heap.size := (by omega); have hm10 := hn10.symm; have hm11 := hn11.symm)) | (go_at_call 55; go_must (refine (toCell_any (x, y) _).mono ?_; rintro e w2 ⟨rfl, hb2⟩; obtain ⟨hc2, hf2, hz2⟩ := bkn hb2 (w.heap.size + 1 + 1) (by first | exact hz1 | (simp; done) | (simp; omega)); have hn20 : w.heap.size ≠ w2.heap.size := (by omega); have hn21 : w.heap.size + 1 ≠ w2.heap.size := (by omega); have hm20 := hn20.symm; have hm21 := hn21.symm)) | (go_at_call 53; go_must (refine (WS _ _ ((OwnL.below own1 (by first | exact hb2 | exact hb2.al _ | exact (((Below.refl _ _).al _).tr hb2))).rd lenInt (by decide))).mono ?_; rintro e w3 ⟨A3, c3, rfl, own3, hb3⟩; obtain ⟨hc3, hf3, hz3⟩ := bkn hb3 (w.heap.size + 1 + 1) (by first | exact hz2 | (simp; done) | (simp; omega)); have hn30 : w.heap.size ≠ w3.heap.size := (by omega); have hn31 : w.heap.size + 1 ≠ w3.heap.size := (by omega); have hm30 := hn30.symm; have hm31 := hn31.symm; first | (have qb := ((((Blk.new2 w0.drew 75 #[.slice none 0 0] w0.heap.size rfl).bl hb1).bl hb2).bl hb3); have qc := qb.c1; have qf := qb.frozen 0; have ql := qb.lt) | (have qb := (((Blk.new_ w1 75 #[.slice none 0 0]).bl hb2).bl hb3); have qc := qb.c1; have qf := qb.frozen 0; have ql := qb.lt) | (have qb := ((Blk.new_ w2 75 #[.slice none 0 0]).bl hb3); have qc := qb.c1; have qf := qb.frozen 0; have ql := qb.lt) | skip)))
      all_goals
        have sS : Blk w3 w.heap.size 71 #[.slice A rows.length c] := by
          repeat (first | exact hS0.drewN 1 | exact (hS0.alloc _).drewN 1 | with_reducible refine Blk.bl ?_ hb3 | with_reducible refine Blk.bl ?_ hb2 | with_reducible refine Blk.bl ?_ hb1 | with_reducible refine Blk.alloc ?_ _)
        have sT : Blk w3 (w.heap.size + 1) 73 #[.int .i64 x, .int .i64 y] := by
          repeat (first | exact hT0.drewN 1 | exact (hT0.alloc _).drewN 1 | with_reducible refine Blk.bl ?_ hb3 | with_reducible refine Blk.bl ?_ hb2 | with_reducible refine Blk.bl ?_ hb1 | with_reducible refine Blk.alloc ?_ _)
        have sB : Below w.heap.size w w3 := by
          repeat (first | exact B0.drew | exact (B0.al _).drew | with_reducible refine Below.tr ?_ hb3 | with_reducible refine Below.tr ?_ hb2 | with_reducible refine Below.tr ?_ hb1 | with_reducible refine Below.al ?_ _)
        go_wp2_with fail
        go_meet
        first
          | exact ⟨_, A3, c3, rfl, rfl, (by omega), qb.set1 _, own3.apart qb (by decide), (own3.far (own3.apart qb (by decide)) _).mono (by first | exact hz2 | (simp; omega)), sS.far (by simp; omega) _, sT.far (by simp; omega) _, sB.st _ _ (by simp; omega)⟩
          | exact ⟨_, A3, c3, rfl, rfl, (by omega), Blk.new_ _ _ _, (own3.alloc _).apart (Blk.new_ w3 75 #[.slice A3 rs.length c3]) (by decide), (own3.alloc _).mono hz2, sS.alloc _, sT.alloc _, sB.al _⟩
    case rest =>
      obtain ⟨bw, A3, c3, rfl, rfl, hbw, hW1, hne1, own3, hS1, hT1, B1⟩ := hcut
      have hwc := B1.size
      clear hS0 hT0 z0 z1 z2 hn00 hn01 hm00 hm01 hz0 hy0_0 hy0_1 B0
      have z0 := hS1.c1
      have hz1 : w.heap.size + 1 + 1 ≤ wc.heap.size := by have := hW1.lt; omega
      have hn10 : w.heap.size ≠ wc.heap.size := by omega
      have hm10 := hn10.symm
      go_wp2_with fail
      refine (toRegion_any _ rows _ (hr.below RE.stays B1) hl).mono ?_
      rintro e w4 ⟨A4, c4, rfl, own4, hb4⟩
      go_wp2_with fail
      obtain ⟨W5, hW5⟩ : ∃ W5, W5 = w4.alloc (.cells #[.slice A4 rows.length c4] 75) := ⟨_, rfl⟩
      obtain ⟨bx, hbx⟩ : ∃ bx, bx = w4.heap.size := ⟨_, rfl⟩
      have bW5 : Blk W5 bw 75 #[.slice A3 rs.length c3] := by rw [hW5]; exact (hW1.bl hb4).alloc _
      have bX5 : Blk W5 bx 75 #[.slice A4 rows.length c4] := by rw [hW5, hbx]; exact Blk.new_ w4 _ _
      have bS5 : Blk W5 w.heap.size 71 #[.slice A rows.length c] := by rw [hW5]; exact (hS1.bl hb4).alloc _
      have bT5 : Blk W5 (w.heap.size + 1) 73 #[.int .i64 x, .int .i64 y] := by rw [hW5]; exact (hT1.bl hb4).alloc _
      have o35 : OwnL 3 1 eInt (w.heap.size + 1 + 1) W5 (.slice A3 rs.length c3) rs := by rw [hW5]; exact (own3.below hb4).alloc _
      have o45 : OwnL 3 1 eInt wc.heap.size W5 (.slice A4 rows.length c4) rows := by rw [hW5]; exact own4.alloc _
      have B5 : Below w.heap.size w W5 := by rw [hW5]; exact (B1.tr hb4).al _
      rw [← hW5, ← hbx]
      have Hz := hb4.size
      have hbwx : bw < bx := by have := hW1.lt; omega
      have Nx := bX5.lt
      clear hS1 hT1 hW1 z0 hn10 hm10 hz1 B1 hW5 hbx
      obtain ⟨N5, hN5⟩ : ∃ N5, N5 = bx + 1 := ⟨_, rfl⟩
      have hz5 : N5 ≤ W5.heap.size := by omega
      obtain ⟨bt, hbt⟩ : ∃ bt, bt = w.heap.size + 1 := ⟨_, rfl⟩
      rw [← hbt] at bT5 ⊢
      have z0 := bX5.c1
      have z1 := bT5.cell 0
      have z2 := bT5.cell 1
      simp only [List.getElem?_toArray, List.getElem?_cons_zero, List.getElem?_cons_succ] at z1 z2
      have hn50 : bt ≠ W5.heap.size := by omega
      have hn51 : bx ≠ W5.heap.size := by omega
      have hm50 := hn50.symm
      have hm51 := hn51.symm
      have hp2 : bt < N5 := by omega
      have hp3 : bx < N5 := by omega
      have HBT := Lib.hid hbt; have HN5 := Lib.hid hN5; clear hbt hN5
      have r4 := o45.rd lenInt (by decide)
      go_wp2_with fail
      go_cut [11, 12] (fun s11 s12 wx => ∃ (g : Nat) (A7 : Option Addr) (c7 : Nat), s11 = .pointer (some ⟨g, 0, none⟩) ∧ s12 = .bool b ∧ N5 ≤ g ∧ Blk wx g 75 #[.slice A7 rs.length c7] ∧ OwnL 3 1 eInt W5.heap.size wx (.slice A7 rs.length c7) rs ∧ OwnL 3 1 eInt (w.heap.size + 1 + 1) wx (.slice A3 rs.length c3) rs ∧ OwnL 3 1 eInt wc.heap.size wx (.slice A4 rows.length c4) rows ∧ Blk wx bw 75 #[.slice A3 rs.length c3] ∧ Blk wx bx 75 #[.slice A4 rows.length c4] ∧ Blk wx w.heap.size 71 #[.slice A rows.length c] ∧ Blk wx bt 73 #[.int .i64 x, .int .i64 y] ∧ Below w.heap.size w wx)
      case first =>
        go_region_held3 (fun w' => w'.cell? ⟨bx, 0, none⟩ = some (.slice A4 rows.length c4) ∧ w'.cell? ⟨bt, 0, none⟩ = some (.int .i64 x) ∧ w'.cell? ⟨bt, 1, none⟩ = some (.int .i64 y)) (go_keep) (first | (go_at_call 55; go_must (refine (toCell_any (x, y) _).mono ?_; rintro e w6 ⟨rfl, hb6⟩; obtain ⟨hc6, hf6, hz6⟩ := bkn hb6 N5 (by first | exact hz5 | (simp; done) | (simp; omega)); have hn60 : bt ≠ w6.heap.size := (by omega); have hn61 : bx ≠ w6.heap.size := (by omega); have hm60 := hn60.symm; have hm61 := hn61.symm)) | (go_at_call 56; go_must (refine (WI _ _ (r4.below RE.stays (by first | exact ((Below.refl _ _).drew).tr hb6 | exact (((Below.refl _ _).al _).drew).tr hb6 | exact (((Below.refl _ _).drew).tr hb6).al _))).mono ?_; rintro e w7 ⟨A7, c7, rfl, own7, hb7⟩; obtain ⟨hc7, hf7, hz7⟩ := bkn hb7 N5 (by first | exact hz6 | (simp; done) | (simp; omega)); have hn70 : bt ≠ w7.heap.size := (by omega); have hn71 : bx ≠ w7.heap.size := (by omega); have hm70 := hn70.symm; have hm71 := hn71.symm; first | (have qb := (((Blk.new2 W5.drew 75 #[.slice none 0 0] W5.heap.size rfl).bl hb6).bl hb7); have qc := qb.c1; have qf := qb.frozen 0; have ql := qb.lt) | (have qb := ((Blk.new_ w6 75 #[.slice none 0 0]).bl hb7); have qc := qb.c1; have qf := qb.frozen 0; have ql := qb.lt) | skip)))
        all_goals
          have sW : Blk w7 bw 75 #[.slice A3 rs.length c3] := by
            repeat (first | exact bW5.drewN 1 | exact (bW5.alloc _).drewN 1 | with_reducible refine Blk.bl ?_ hb7 | with_reducible refine Blk.bl ?_ hb6 | with_reducible refine Blk.alloc ?_ _)
          have sX : Blk w7 bx 75 #[.slice A4 rows.length c4] := by
            repeat (first | exact bX5.drewN 1 | exact (bX5.alloc _).drewN 1 | with_reducible refine Blk.bl ?_ hb7 | with_reducible refine Blk.bl ?_ hb6 | with_reducible refine Blk.alloc ?_ _)
          have sS : Blk w7 w.heap.size 71 #[.slice A rows.length c] := by
            repeat (first | exact bS5.drewN 1 | exact (bS5.alloc _).drewN 1 | with_reducible refine Blk.bl ?_ hb7 | with_reducible refine Blk.bl ?_ hb6 | with_reducible refine Blk.alloc ?_ _)
          have sT : Blk w7 bt 73 #[.int .i64 x, .int .i64 y] := by
            repeat (first | exact bT5.drewN 1 | exact (bT5.alloc _).drewN 1 | with_reducible refine Blk.bl ?_ hb7 | with_reducible refine Blk.bl ?_ hb6 | with_reducible refine Blk.alloc ?_ _)
          have s3 : OwnL 3 1 eInt (w.heap.size + 1 + 1) w7 (.slice A3 rs.length c3) rs := by
            repeat (first | exact o35.drewN 1 | exact (o35.alloc _).drewN 1 | with_reducible refine OwnL.below ?_ hb7 | with_reducible refine OwnL.below ?_ hb6 | with_reducible refine OwnL.alloc ?_ _)
          have s4 : OwnL 3 1 eInt wc.heap.size w7 (.slice A4 rows.length c4) rows := by
            repeat (first | exact o45.drewN 1 | exact (o45.alloc _).drewN 1 | with_reducible refine OwnL.below ?_ hb7 | with_reducible refine OwnL.below ?_ hb6 | with_reducible refine OwnL.alloc ?_ _)
          have sB : Below w.heap.size w w7 := by
            repeat (first | exact B5.drew | exact (B5.al _).drew | with_reducible refine Below.tr ?_ hb7 | with_reducible refine Below.tr ?_ hb6 | with_reducible refine Below.al ?_ _)
          have sz : W5.heap.size ≤ w6.heap.size := by have := hb6.size; simp at this; omega
          go_wp2_with fail
          go_meet
          first
            | exact ⟨_, A7, c7, rfl, rfl, (by omega), qb.set1 _, (own7.far (own7.apart qb (by decide)) _).mono (by first | exact sz | (simp; omega)), s3.far (s3.apart qb (by decide)) _, s4.far (s4.apart qb (by decide)) _, sW.far (by simp; omega) _, sX.far (by simp; omega) _, sS.far (by simp; omega) _, sT.far (by simp; omega) _, sB.st _ _ (by simp; omega)⟩
            | exact ⟨_, A7, c7, rfl, rfl, (by omega), Blk.new_ _ _ _, (own7.alloc _).mono sz, s3.alloc _, s4.alloc _, sW.alloc _, sX.alloc _, sS.alloc _, sT.alloc _, sB.al _⟩
      case rest =>
        obtain ⟨bg, A7, c7, rfl, rfl, hbg, bG, o7, o3, o4, bW, bX, bS, bT, B8⟩ := hcut
        clear z0 z1 z2 hn50 hn51 hm50 hm51 hz5 r4 bW5 bX5 bS5 bT5 B5
        have q0 := bG.c1
        have q1 := bW.c1
        have q2 := bX.c1
        have q3 := bS.c1
        have hl1 := bG.lt
        go_wp2_with fail
        refine (eqRegion_any _ _ rs rs _ (o7.rd lenInt (by decide)) (o3.rd lenInt (by decide))).mono ?_
        rintro e w8 ⟨rfl, hb8⟩
        rw [beq_self_eq_true]
        have bG8 := bG.bl hb8
        have bW8 := bW.bl hb8
        have bX8 := bX.bl hb8
        have bS8 := bS.bl hb8
        have bT8 := bT.bl hb8
        have o78 := o7.below hb8
        have o38 := o3.below hb8
        have o48 := o4.below hb8
        have B9 := B8.tr hb8
        clear bG bW bX bS bT q0 q1 q2 q3 B8
        have q0 := bG8.c1
        have q1 := bW8.c1
        have q2 := bX8.c1
        have q3 := bS8.c1
        have hz8 : N5 ≤ w8.heap.size := by have := HN5.out; have := bX8.lt; omega
        have hp4 : w.heap.size < N5 := by omega
        go_wp2_with fail
        go_region_held3 (fun w' => w'.cell? ⟨bx, 0, none⟩ = some (.slice A4 rows.length c4) ∧ w'.cell? ⟨w.heap.size, 0, none⟩ = some (.slice A rows.length c)) (go_keep) (first | (go_at_call 54; go_must (refine (toRegion_any _ rows _ (hr.below RE.stays B9.drew) hl).mono ?_; rintro e w9 ⟨A9, c9, rfl, own9, hb9⟩; obtain ⟨hc9, hf9, hz9⟩ := bkn hb9 N5 (by first | exact hz8 | (simp; omega)))) | (go_at_call 57; go_must (refine (eqRegion_same _ _ rows _ (((o48.drewN 1).below hb9).rd lenInt (by decide)) (own9.rd lenInt (by decide))).mono ?_; rintro e w10 ⟨rfl, hb10⟩; obtain ⟨hc10, hf10, hz10⟩ := bkn hb10 N5 (by first | exact hz9 | (simp; omega)))))
        have bG10 := ((bG8.drewN 1).bl hb9).bl hb10
        have bW10 := ((bW8.drewN 1).bl hb9).bl hb10
        have bX10 := ((bX8.drewN 1).bl hb9).bl hb10
        have bS10 := ((bS8.drewN 1).bl hb9).bl hb10
        have bT10 := ((bT8.drewN 1).bl hb9).bl hb10
        have o710 := ((o78.drewN 1).below hb9).below hb10
        have o310 := ((o38.drewN 1).below hb9).below hb10
        have o410 := ((o48.drewN 1).below hb9).below hb10
        have B10 := (B9.drew.tr hb9).tr hb10
        clear q0 q1 q2 q3 bG8 bW8 bX8 bS8 bT8 o78 o38 o48 B9 hc9 hf9 hc10 hf10
        have q2 := bX10.c1
        go_wp2_with fail
        refine (markRegion_any _ rows 1 _ _ o410 (by decide) (by decide) hsz).mono ?_
        rintro e w11 ⟨rfl, own11, hg11⟩
        have bG11 := bG10.grown hg11 (fun e => (o410.apart bG10 (by decide)) e.symm)
        have bW11 := bW10.grown hg11 (fun e => (o410.apart bW10 (by decide)) e.symm)
        have bS11 := bS10.grown hg11 (fun e => (o410.apart bS10 (by decide)) e.symm)
        have bT11 := bT10.grown hg11 (fun e => (o410.apart bT10 (by decide)) e.symm)
        have o311 := OwnL.kept_ own3 own4 (Nat.le_refl _) o310 hg11
        have o711 := OwnL.kept' o7 o45 (Nat.le_refl _) o710 hg11
        have B11 := below_mark B10 own4 hwc hg11
        clear q2 bG10 bW10 bX10 bS10 bT10 o710 o310 o410 B10
        have q0 := bG11.c1
        have q1 := bW11.c1
        have q3 := bS11.c1
        have hk : ¬ ((1 : Int) + (rows.length : Int) < 0) := by omega
        go_wp2_with fail
        refine (eqRegion_same _ _ rs _ (o711.rd lenInt (by decide)) (o311.rd lenInt (by decide))).mono ?_
        rintro e w12 ⟨rfl, hb12⟩
        have bG12 := bG11.bl hb12
        have q4 := bG12.c1
        go_wp2_with fail
        refine (markRegion_any _ rs 1 _ _ (o711.below hb12) (by decide) (by decide) hlen).mono ?_
        rintro e w13 ⟨rfl, own13, hg13⟩
        have bG13 := bG12.grown hg13 (fun e => ((o711.below hb12).apart bG12 (by decide)) e.symm)
        have q5 := bG13.c1
        have hk2 : ¬ ((1 : Int) + (rs.length : Int) < 0) := by omega
        go_wp2_with fail
        refine (heldRegion_any _ 1 rs.length _ (own13.rd lenInt (by decide)) (by decide) (by decide) hlen).mono ?_
        rintro e w14 ⟨rfl, hb14⟩
        have bG14 := bG13.bl hb14
        have bW14 := ((bW11.bl hb12).grown hg13 (fun e => ((o711.below hb12).apart (bW11.bl hb12) (by decide)) e.symm)).bl hb14
        have bS14 := ((bS11.bl hb12).grown hg13 (fun e => ((o711.below hb12).apart (bS11.bl hb12) (by decide)) e.symm)).bl hb14
        have bT14 := ((bT11.bl hb12).grown hg13 (fun e => ((o711.below hb12).apart (bT11.bl hb12) (by decide)) e.symm)).bl hb14
        have o314 := (OwnL.kept_ o35 o7 (Nat.le_refl _) (o311.below hb12) hg13).below hb14
        have o714 := own13.below hb14
        have B14 := (below_mark (B11.tr hb12) o7 (by have := hb4.size; omega) hg13).tr hb14
        clear q0 q1 q3 q4 q5 bG11 bW11 bS11 bT11 bG12 bG13 o311 o711
        have hz14 : N5 ≤ w14.heap.size := by have := bG14.lt; omega
        have z0 := bS14.c1
        have z1 := bT14.cell 0
        have z2 := bT14.cell 1
        simp only [List.getElem?_toArray, List.getElem?_cons_zero, List.getElem?_cons_succ] at z1 z2
        have hn140 : w.heap.size ≠ w14.heap.size := by omega
        have hn141 : bt ≠ w14.heap.size := by omega
        have hm140 := hn140.symm
        have hm141 := hn141.symm
        go_wp2_with fail
        go_cut [16, 17] (fun s16 s17 wx => ∃ (g : Nat) (A17 : Option Addr) (c17 : Nat), s16 = .pointer (some ⟨g, 0, none⟩) ∧ s17 = .bool b ∧ Blk wx g 75 #[.slice A17 rs.length c17] ∧ OwnL 3 1 eInt N5 wx (.slice A17 rs.length c17) rs ∧ OwnL 3 1 eInt (w.heap.size + 1 + 1) wx (.slice A3 rs.length c3) rs ∧ OwnL 3 1 eInt W5.heap.size wx (.slice A7 rs.length c7) (marksInt 1 rs.length) ∧ Blk wx bw 75 #[.slice A3 rs.length c3] ∧ Blk wx bg 75 #[.slice A7 rs.length c7] ∧ Below w.heap.size w wx)
        case first =>
          have hbgl := bG14.lt
          go_region_held3 (fun w' => w'.cell? ⟨w.heap.size, 0, none⟩ = some (.slice A rows.length c) ∧ w'.cell? ⟨bt, 0, none⟩ = some (.int .i64 x) ∧ w'.cell? ⟨bt, 1, none⟩ = some (.int .i64 y)) (go_keep) (first | (go_at_call 54; go_must (refine (toRegion_any _ rows _ (hr.below RE.stays (by first | exact B14.drew | exact B14.drew.al _)) hl).mono ?_; rintro e w15 ⟨A15, c15, rfl, own15, hb15⟩; obtain ⟨hc15, hf15, hz15⟩ := bkn hb15 N5 (by first | exact hz14 | (simp; done) | (simp; omega)); have hn150 : w.heap.size ≠ w15.heap.size := (by omega); have hn151 : bt ≠ w15.heap.size := (by omega); have hm150 := hn150.symm; have hm151 := hn151.symm)) | (go_at_call 55; go_must (refine (toCell_any (x, y) _).mono ?_; rintro e w16 ⟨rfl, hb16⟩; obtain ⟨hc16, hf16, hz16⟩ := bkn hb16 N5 (by first | exact hz15 | (simp; done) | (simp; omega)); have hn160 : w.heap.size ≠ w16.heap.size := (by omega); have hn161 : bt ≠ w16.heap.size := (by omega); have hm160 := hn160.symm; have hm161 := hn161.symm)) | (go_at_call 56; go_must (refine (WI _ _ ((OwnL.below own15 (by first | exact hb16 | exact hb16.al _ | exact (((Below.refl _ _).al _).tr hb16))).rd lenInt (by decide))).mono ?_; rintro e w17 ⟨A17, c17, rfl, own17, hb17⟩; obtain ⟨hc17, hf17, hz17⟩ := bkn hb17 N5 (by first | exact hz16 | (simp; done) | (simp; omega)); have hn170 : w.heap.size ≠ w17.heap.size := (by omega); have hn171 : bt ≠ w17.heap.size := (by omega); have hm170 := hn170.symm; have hm171 := hn171.symm; first | (have qb := ((((Blk.new2 w14.drew 75 #[.slice none 0 0] w14.heap.size rfl).bl hb15).bl hb16).bl hb17); have qc := qb.c1; have qf := qb.frozen 0; have ql := qb.lt) | (have qb := (((Blk.new_ w15 75 #[.slice none 0 0]).bl hb16).bl hb17); have qc := qb.c1; have qf := qb.frozen 0; have ql := qb.lt) | (have qb := ((Blk.new_ w16 75 #[.slice none 0 0]).bl hb17); have qc := qb.c1; have qf := qb.frozen 0; have ql := qb.lt) | skip)))
          all_goals
            have sz15 : w14.heap.size ≤ w15.heap.size := by have := hb15.size; (try simp at this); omega
            have sz16 : w14.heap.size ≤ w16.heap.size := by have := hb16.size; (try simp at this); omega
            have sz17 : w14.heap.size ≤ w17.heap.size := by have := hb17.size; (try simp at this); omega
            have sW : Blk w17 bw 75 #[.slice A3 rs.length c3] := by
              repeat (first | exact bW14.drewN 1 | exact (bW14.alloc _).drewN 1 | with_reducible refine Blk.bl ?_ hb17 | with_reducible refine Blk.bl ?_ hb16 | with_reducible refine Blk.bl ?_ hb15 | with_reducible refine Blk.alloc ?_ _)
            have sG : Blk w17 bg 75 #[.slice A7 rs.length c7] := by
              repeat (first | exact bG14.drewN 1 | exact (bG14.alloc _).drewN 1 | with_reducible refine Blk.bl ?_ hb17 | with_reducible refine Blk.bl ?_ hb16 | with_reducible refine Blk.bl ?_ hb15 | with_reducible refine Blk.alloc ?_ _)
            have s3 : OwnL 3 1 eInt (w.heap.size + 1 + 1) w17 (.slice A3 rs.length c3) rs := by
              repeat (first | exact o314.drewN 1 | exact (o314.alloc _).drewN 1 | with_reducible refine OwnL.below ?_ hb17 | with_reducible refine OwnL.below ?_ hb16 | with_reducible refine OwnL.below ?_ hb15 | with_reducible refine OwnL.alloc ?_ _)
            have s8 : OwnL 3 1 eInt W5.heap.size w17 (.slice A7 rs.length c7) (marksInt 1 rs.length) := by
              repeat (first | exact o714.drewN 1 | exact (o714.alloc _).drewN 1 | with_reducible refine OwnL.below ?_ hb17 | with_reducible refine OwnL.below ?_ hb16 | with_reducible refine OwnL.below ?_ hb15 | with_reducible refine OwnL.alloc ?_ _)
            have sB : Below w.heap.size w w17 := by
              repeat (first | exact B14.drew | exact (B14.al _).drew | with_reducible refine Below.tr ?_ hb17 | with_reducible refine Below.tr ?_ hb16 | with_reducible refine Below.tr ?_ hb15 | with_reducible refine Below.al ?_ _)
            go_wp2_with fail
            go_meet
            first
              | exact ⟨_, A17, c17, rfl, rfl, qb.set1 _, (own17.far (own17.apart qb (by decide)) _).mono (by first | exact hz16 | (simp; omega)), s3.far (s3.apart qb (by decide)) _, s8.far (s8.apart qb (by decide)) _, sW.far (by simp; omega) _, sG.far (by simp; omega) _, sB.st _ _ (by simp; omega)⟩
              | exact ⟨_, A17, c17, rfl, rfl, Blk.new_ _ _ _, (own17.alloc _).mono hz16, s3.alloc _, s8.alloc _, sW.alloc _, sG.alloc _, sB.al _⟩
        case rest =>
          obtain ⟨bh, A17, c17, rfl, rfl, bH, o17, o3x, o7x, bWx, bGx, Bx⟩ := hcut
          clear z0 z1 z2 hn140 hn141 hm140 hm141
          have q0 := bH.c1
          have q1 := bWx.c1
          go_wp2_with fail
          refine (eqRegion_same _ _ rs _ (o17.rd lenInt (by decide)) (o3x.rd lenInt (by decide))).mono ?_
          rintro e w18 ⟨rfl, hb18⟩
          have q2 := (bGx.bl hb18).c1
          go_wp2_with fail
          refine (heldRegion_any _ 1 rs.length _ ((o7x.below hb18).rd (l := marksInt 1 rs.length) lenInt (by decide)) (by decide) (by decide) hlen).mono ?_
          rintro e w19 ⟨rfl, hb19⟩
          go_wp2
          go_ret
          exact ⟨rfl, (Bx.tr hb18).tr hb19⟩
  · go_enter Try.func13, Try.ntmps13
    go_wp2_with fail
    refine (szRegion_any _ rows _ _ (hr.below RE.stays hA) (by decide) (by decide)).mono ?_
    rintro e w0 ⟨rfl, hb0⟩
    rw [szOf_no (by omega)]
    go_wp2
    go_ret
    exact ⟨rfl, hA.tr hb0⟩
end Go.Proofs.Ythmijfcoplillaa
