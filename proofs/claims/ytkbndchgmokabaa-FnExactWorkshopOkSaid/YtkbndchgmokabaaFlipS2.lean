/- FlipAt of the reference: the walk. Conditions: sizes. -/
import Derived.Test.YtkbndchgmokabaaFlipS
namespace Go.Proofs.Ytkbndchgmokabaa
open Go.ChangeShapes Go.WideShapes Go.ChangeAt Go.RowKit
set_option linter.unusedVariables false
set_option linter.unusedSimpArgs false

theorem kindS_of (v : Value) (l : List Dm) (x y : Int) (n : Nat) (w : World) (h : Rd 3 RDom w v l) (hn : kindOf l (x, y) = n) : Calls Try.prog 180 #[v, .agg #[.int .i64 x, .int .i64 y]] w (Ret (.int .i64 n) w) := by
  have := kindS_any v l x y w h; rw [hn] at this; exact this
/-- An own list that lies in neither of two blocks. -/
def OwnF (v : Value) (l : List Dm) (g h B : Nat) (w : World) : Prop := OwnL 73 3 eDom B w v l ∧ v.ownBlock ≠ some g ∧ v.ownBlock ≠ some h
theorem OwnF.drewN {v : Value} {l : List Dm} {g h B : Nat} {w : World} (o : OwnF v l g h B w) (n : Nat) : OwnF v l g h B (w.drewN n) := ⟨o.1.drewN n, o.2.1, o.2.2⟩
theorem OwnF.app {v : Value} {l : List Dm} {g h B : Nat} {w w' : World} {cells : Obj} {v' : Value} {l' : List Dm} {t1 t2 : TypeId} {c1 c2 : Array Value} (o : OwnF v l g h B w) (o' : OwnL 73 3 eDom B w' v' l') (_hg : (w.alloc cells).grownBy w' v.ownBlock)
    (hd : v'.ownBlock = v.ownBlock ∨ v'.ownBlock = some (w.heap.size + 1)) (b1 : Blk w g t1 c1) (b2 : Blk w h t2 c2) : OwnF v' l' g h B w' := by
  refine ⟨o', ?_, ?_⟩
  · rcases hd with e | e
    · rw [e]; exact o.2.1
    · rw [e]; intro q; injection q with q; have := b1.lt; omega
  · rcases hd with e | e
    · rw [e]; exact o.2.2
    · rw [e]; intro q; injection q with q; have := b2.lt; omega

set_option maxHeartbeats 8000000 in
set_option maxRecDepth 100000 in
theorem flipAtS_any (v : Value) (l : List Dm) (x y : Int) (w : World) (h : Rd 3 RDom w v l) (hl : Small l.length) : Calls Try.prog 172 #[v, .agg #[.int .i64 x, .int .i64 y]] w (RetOwnB 73 3 eDom (flipAt l (x, y)).1 (flipAt l (x, y)).2 w) := by
  obtain ⟨A, c, rfl, hc, hm⟩ := h.form
  have hA := (Below.refl w.heap.size w).al (.cells #[.int .i64 x, .int .i64 y] 70)
  have bC := Blk.new_ w 70 #[.int .i64 x, .int .i64 y]
  by_cases hk : kindOf l (x, y) = 0
  · have e : flipAt l (x, y) = (l, false) := by unfold flipAt; rw [if_pos hk]
    rw [e]
    have Hk := Lib.hid hk; clear hk e
    have hs8 : (0 + l.length) * 24 ≤ 140737488355328 := by unfold Small at hl; omega
    have hsm : 0 + l.length ≤ maxLen := by have := hl.max; omega
    have H8 := Lib.hid hs8; have HM := Lib.hid hsm; clear hs8 hsm
    go_enter Try.func172, Try.ntmps172
    go_wp2_with fail
    refine (kindS_of _ l x y 0 _ (h.below RE.stays hA) Hk.out).mono ?_
    rintro e w1 ⟨rfl, hb1⟩
    have B1 := hA.tr hb1
    have h1 := (h.below RE.stays B1).below RE.stays ((Below.refl _ _).al (.cells #[] 73))
    rw [show ((0 : Nat) : Int) = 0 from rfl]
    go_wp2_with (at_builtin; go_must (refine wpList_appAll (enc := eDom) rowDom lenDom oneDom (B := w1.heap.size) (by simp) (own_empty w1) h1 H8.out HM.out rfl _ _ rfl rfl rfl ?_); intro v2 w2 own2 hb2 hv2; obtain ⟨A2, c2, rfl⟩ := hv2; simp only [List.nil_append, List.length_nil, Nat.zero_add] at own2)
    go_wp2
    go_ret2
    exact ⟨A2, c2, rfl, own2.mono B1.size, B1.tr (((Below.refl _ _).al _).trans hb2)⟩
  · have e : flipAt l (x, y) = (flipTo l (x, y), true) := by unfold flipAt; rw [if_neg hk]
    rw [e]
    have Hinf := Lib.hid (kind_inn hk); clear e
    have hkk : kindOf l (x, y) = 1 ∨ kindOf l (x, y) = 2 := by have := kindOf_le l (x, y); omega
    clear hk
    rcases hkk with hkv | hkv
    · skip
      have hkk : kindOf l (x, y) = 1 := hkv
      have Hkk := Lib.hid hkk; clear hkk hkv
      go_enter Try.func172, Try.ntmps172
      go_wp2_with fail
      refine (kindS_of _ l x y 1 _ (h.below RE.stays hA) Hkk.out).mono ?_
      rintro e w1 ⟨rfl, hb1⟩
      have B1 := hA.tr hb1
      have bC1 := bC.bl hb1
      have zc_0 := bC1.cell 0
      have zc_1 := bC1.cell 1
      simp only [List.getElem?_toArray, List.getElem?_cons_zero, List.getElem?_cons_succ] at zc_0 zc_1
      go_wp2_with fail
      refine (pairS_ac x y _ Hinf.out).mono ?_
      rintro e w3 ⟨rfl, hb3⟩
      have B3 := ((B1.tr hb3).al (.cells #[.int .i64 x, .int .i64 y, .bool false] 73)).al (.cells #[.int .i64 x, .int .i64 (y + 1), .bool false] 73)
      have bC3 := ((bC1.bl hb3).alloc (.cells #[.int .i64 x, .int .i64 y, .bool false] 73)).alloc (.cells #[.int .i64 x, .int .i64 (y + 1), .bool false] 73)
      have bd := (Blk.new_ w3 73 #[.int .i64 x, .int .i64 y, .bool false]).alloc (.cells #[.int .i64 x, .int .i64 (y + 1), .bool false] 73)
      have be := Blk.new2 (w3.alloc (.cells #[.int .i64 x, .int .i64 y, .bool false] 73)) 73 #[.int .i64 x, .int .i64 (y + 1), .bool false] (w3.heap.size + 1) (by simp)
      clear zc_0 zc_1 bC1
      have zc_0 := bC3.cell 0
      have zc_1 := bC3.cell 1
      simp only [List.getElem?_toArray, List.getElem?_cons_zero, List.getElem?_cons_succ] at zc_0 zc_1
      go_wp2_with fail
      refine (pairS_dn x y _ Hinf.out).mono ?_
      rintro e w4 ⟨rfl, hb4⟩
      have B4 := ((B3.tr hb4).al (.cells #[.int .i64 x, .int .i64 y, .bool true] 73)).al (.cells #[.int .i64 (x + 1), .int .i64 y, .bool true] 73)
      have bd4 := ((bd.bl hb4).alloc (.cells #[.int .i64 x, .int .i64 y, .bool true] 73)).alloc (.cells #[.int .i64 (x + 1), .int .i64 y, .bool true] 73)
      have be4 := ((be.bl hb4).alloc (.cells #[.int .i64 x, .int .i64 y, .bool true] 73)).alloc (.cells #[.int .i64 (x + 1), .int .i64 y, .bool true] 73)
      have bu := (Blk.new_ w4 73 #[.int .i64 x, .int .i64 y, .bool true]).alloc (.cells #[.int .i64 (x + 1), .int .i64 y, .bool true] 73)
      have bv := Blk.new2 (w4.alloc (.cells #[.int .i64 x, .int .i64 y, .bool true] 73)) 73 #[.int .i64 (x + 1), .int .i64 y, .bool true] (w4.heap.size + 1) (by simp)
      clear zc_0 zc_1 bC3 bd be
      have u_0 := bu.cell 0
      have u_1 := bu.cell 1
      have u_2 := bu.cell 2
      simp only [List.getElem?_toArray, List.getElem?_cons_zero, List.getElem?_cons_succ] at u_0 u_1 u_2
      have t_0 := bv.cell 0
      have t_1 := bv.cell 1
      have t_2 := bv.cell 2
      simp only [List.getElem?_toArray, List.getElem?_cons_zero, List.getElem?_cons_succ] at t_0 t_1 t_2
      go_wp2_with fail
      obtain ⟨W5, hW5⟩ : ∃ W5, W5 = (w4.alloc (.cells #[.int .i64 x, .int .i64 y, .bool true] 73)).alloc (.cells #[.int .i64 (x + 1), .int .i64 y, .bool true] 73) := ⟨_, rfl⟩
      have hs5 : W5.heap.size = w4.heap.size + 1 + 1 := by rw [hW5]; simp
      rw [← hW5] at B4 bd4 be4 ⊢
      rw [← hs5]
      obtain ⟨g8, hg8⟩ : ∃ g, g = w3.heap.size + 1 := ⟨_, rfl⟩
      obtain ⟨g7, hg7⟩ : ∃ g, g = w3.heap.size := ⟨_, rfl⟩
      have hg70 : w.heap.size ≤ g7 := by have := (B1.tr hb3).size; omega
      have hg80 : w.heap.size ≤ g8 := by omega
      rw [← hg8] at be4 ⊢
      rw [← hg7] at bd4 ⊢
      obtain ⟨gx, hgx⟩ : ∃ n : Int, n = x := ⟨_, rfl⟩
      obtain ⟨gy, hgy⟩ : ∃ n : Int, n = y := ⟨_, rfl⟩
      obtain ⟨gb, hgb⟩ : ∃ n : Bool, n = false := ⟨_, rfl⟩
      obtain ⟨kx, hkx⟩ : ∃ n : Int, n = x := ⟨_, rfl⟩
      obtain ⟨ky, hky⟩ : ∃ n : Int, n = (y + 1) := ⟨_, rfl⟩
      obtain ⟨kb, hkb⟩ : ∃ n : Bool, n = false := ⟨_, rfl⟩
      have b7 : Blk W5 g7 73 #[.int .i64 gx, .int .i64 gy, .bool gb] := by rw [hgx, hgy, hgb]; exact bd4
      have b8 : Blk W5 g8 73 #[.int .i64 kx, .int .i64 ky, .bool kb] := by rw [hkx, hky, hkb]; exact be4
      have HGN : Hid (goneOf (kindOf l (x, y)) (x, y) = ((gx, gy, gb), (kx, ky, kb)) ∧ nextOf (kindOf l (x, y)) (x, y) = ((x, y, true), ((x + 1), y, true))) := Lib.hid (by rw [Hkk.out, hgx, hgy, hgb, hkx, hky, hkb]; exact ⟨rfl, rfl⟩)
      clear hgx hgy hgb hkx hky hkb bd4 be4 bu bv hW5 hs5 hg7 hg8 u_0 u_1 u_2 t_0 t_1 t_2
      have own0 : OwnL 73 3 eDom w.heap.size (W5.alloc (.cells #[.int .i64 x, .int .i64 y, .bool true, .int .i64 (x + 1), .int .i64 y, .bool true] 73)) (.slice (some ⟨W5.heap.size, 0, none⟩) 2 2) [((x, y, true) : Dm), ((x + 1), y, true)] := own_two _ (x, y, true) ((x + 1), y, true) _ B4.size
      have hne7 : Value.ownBlock (.slice (some ⟨W5.heap.size, 0, none⟩) 2 2) ≠ some g7 := by have := b7.lt; simp [Value.ownBlock]; omega
      have hne8 : Value.ownBlock (.slice (some ⟨W5.heap.size, 0, none⟩) 2 2) ≠ some g8 := by have := b8.lt; simp [Value.ownBlock]; omega
      have b70 := b7.alloc (.cells #[.int .i64 x, .int .i64 y, .bool true, .int .i64 (x + 1), .int .i64 y, .bool true] 73)
      have b80 := b8.alloc (.cells #[.int .i64 x, .int .i64 y, .bool true, .int .i64 (x + 1), .int .i64 y, .bool true] 73)
      have B0 := B4.al (.cells #[.int .i64 x, .int .i64 y, .bool true, .int .i64 (x + 1), .int .i64 y, .bool true] 73)
      go_loopw [11, 12] (fun s8 s43 wr => ∃ (k : Nat) (out : List Dm) (A8 : Option Addr) (c8 : Nat), k ≤ l.length ∧ out.length ≤ k + 2 ∧ s43 = .int .i64 k ∧ s8 = .slice A8 out.length c8 ∧ Hid (out ++ (l.drop k).filter (keepD ((gx, gy, gb), (kx, ky, kb))) = flipPre l ((gx, gy, gb), (kx, ky, kb)) ((x, y, true), ((x + 1), y, true))) ∧ OwnF (.slice A8 out.length c8) out g7 g8 w.heap.size wr ∧ Blk wr g7 73 #[.int .i64 gx, .int .i64 gy, .bool gb] ∧ Blk wr g8 73 #[.int .i64 kx, .int .i64 ky, .bool kb] ∧ Below w.heap.size w wr) (fun _ i _ => l.length - (intOf i).toNat)
      case atStart => exact ⟨0, [((x, y, true) : Dm), ((x + 1), y, true)], _, _, Nat.zero_le _, by simp, rfl, rfl, Lib.hid rfl, ⟨own0, hne7, hne8⟩, b70, b80, B0⟩
      case round =>
        obtain ⟨k, out, A8, c8, hk, hol, rfl, rfl, Hg, hown, hb7, hb8, hbel⟩ := hrel
        clear own0 b70 b80 B0 hne7 hne8
        by_cases hlt : k < l.length
        · have hltI : (k : Int) < (l.length : Int) := by omega
          obtain ⟨b, off, rfl, hb, q1, q2, q3⟩ := (h.below RE.stays hbel).atDom hlt
          have hg := Hg.out
          rw [List.drop_eq_getElem_cons hlt, List.filter_cons] at hg
          obtain ⟨d, hd⟩ : ∃ d, d = l[k] := ⟨_, rfl⟩
          rw [← hd] at q1 q2 q3 hg
          obtain ⟨ex, ey, ed⟩ := d
          simp only at q1 q2 q3
          have QF : Hid (∀ wX : World, Below w.heap.size w wX → b < wX.heap.size ∧ wX.cell? ⟨b, off + k * 3, none⟩ = some (.int .i64 ex) ∧ wX.cell? ⟨b, off + k * 3 + 1, none⟩ = some (.int .i64 ey) ∧ wX.cell? ⟨b, off + k * 3 + 2, none⟩ = some (.bool ed)) := Lib.hid (fun wX hX => by
            obtain ⟨b9, off9, e9, r0, r1, r2, r3⟩ := (h.below RE.stays hX).atDom hlt
            injection e9 with e9; injection e9 with e91 e92 _; subst e91; subst e92
            rw [← hd] at r1 r2 r3
            exact ⟨r0, r1, r2, r3⟩)
          have u_0 := hb7.cell 0
          have u_1 := hb7.cell 1
          have u_2 := hb7.cell 2
          simp only [List.getElem?_toArray, List.getElem?_cons_zero, List.getElem?_cons_succ] at u_0 u_1 u_2
          have t_0 := hb8.cell 0
          have t_1 := hb8.cell 1
          have t_2 := hb8.cell 2
          simp only [List.getElem?_toArray, List.getElem?_cons_zero, List.getElem?_cons_succ] at t_0 t_1 t_2
          have H8 : Hid ((out.length + 1) * 24 ≤ 140737488355328) := Lib.hid (by unfold Small at hl; omega)
          have HM : Hid (out.length + 1 ≤ maxLen) := Lib.hid (by unfold Small at hl; unfold maxLen; omega)
          clear hd
          by_cases e1 : ((ex, ey, ed) : Dm) = (gx, gy, gb)
          · rw [if_neg (by rw [e1]; simp [keepD])] at hg
            have Hg2 := Lib.hid hg; clear hg
            simp only [Prod.mk.injEq] at e1
            obtain ⟨rfl, rfl, rfl⟩ := e1
            go_wp2_with fail
            go_quiet (fail)
            go_wp2
            go_roundw
            case rel => exact ⟨k + 1, out, A8, c8, by omega, by omega, by go_num, rfl, Hg2, hown.drewN _, hb7.drewN _, hb8.drewN _, below_drewN hbel _⟩
            case measure => simp [intOf]; omega
          · by_cases e2 : ((ex, ey, ed) : Dm) = (kx, ky, kb)
            · rw [if_neg (by rw [e2]; simp [keepD])] at hg
              have Hg2 := Lib.hid hg; clear hg
              simp only [Prod.mk.injEq] at e2
              obtain ⟨rfl, rfl, rfl⟩ := e2
              rcases ne_ways e1 with p | ⟨rfl, p⟩ | ⟨rfl, rfl, p⟩
              · clear e1
                go_wp2_with fail
                go_quiet (fail)
                go_wp2
                go_roundw
                case rel => exact ⟨k + 1, out, A8, c8, by omega, by omega, by go_num, rfl, Hg2, hown.drewN _, hb7.drewN _, hb8.drewN _, below_drewN hbel _⟩
                case measure => simp [intOf]; omega
              · clear e1
                go_wp2_with fail
                go_quiet (fail)
                go_wp2
                go_roundw
                case rel => exact ⟨k + 1, out, A8, c8, by omega, by omega, by go_num, rfl, Hg2, hown.drewN _, hb7.drewN _, hb8.drewN _, below_drewN hbel _⟩
                case measure => simp [intOf]; omega
              · clear e1
                go_wp2_with fail
                go_quiet (fail)
                go_wp2
                go_roundw
                case rel => exact ⟨k + 1, out, A8, c8, by omega, by omega, by go_num, rfl, Hg2, hown.drewN _, hb7.drewN _, hb8.drewN _, below_drewN hbel _⟩
                case measure => simp [intOf]; omega
            · rw [if_pos (by simp only [keepD, decide_eq_false e1, decide_eq_false e2]; rfl), ← List.singleton_append, ← List.append_assoc] at hg
              have Hg2 := Lib.hid hg; clear hg
              rcases ne_ways e1 with p | ⟨rfl, p⟩ | ⟨rfl, rfl, p⟩ <;> rcases ne_ways e2 with q | ⟨rfl, q⟩ | ⟨rfl, rfl, q⟩
              all_goals
                clear e1 e2
                go_wp2_with fail
                go_quiet (fail)
                obtain ⟨wd, hwd⟩ : ∃ wd, wd = wr.drewN nq := ⟨_, rfl⟩
                have own1 := hown.drewN nq
                have b71 := hb7.drewN nq
                have b81 := hb8.drewN nq
                have B1' := below_drewN hbel nq
                rw [← hwd] at own1 b71 b81 B1' ⊢
                clear hwd hb q1 q2 q3 u_0 u_1 u_2 t_0 t_1 t_2
                obtain ⟨hb, q1, q2, q3⟩ := QF.out _ B1'
                go_wp2_with (at_builtin; go_must (first | (refine wpList_app1 (enc := eDom) rowDom lenDom oneDom B1' own1.1 ((ex, ey, ed) : Dm) H8.out HM.out rfl _ _ rfl rfl rfl ?_) | (refine wpList_app1 (enc := eDom) rowDom lenDom oneDom B1' own1.1 ((ex, gy, ed) : Dm) H8.out HM.out rfl _ _ rfl rfl rfl ?_) | (refine wpList_app1 (enc := eDom) rowDom lenDom oneDom B1' own1.1 ((ex, ky, ed) : Dm) H8.out HM.out rfl _ _ rfl rfl rfl ?_) | (refine wpList_app1 (enc := eDom) rowDom lenDom oneDom B1' own1.1 ((gx, ey, ed) : Dm) H8.out HM.out rfl _ _ rfl rfl rfl ?_) | (refine wpList_app1 (enc := eDom) rowDom lenDom oneDom B1' own1.1 ((gx, gy, ed) : Dm) H8.out HM.out rfl _ _ rfl rfl rfl ?_) | (refine wpList_app1 (enc := eDom) rowDom lenDom oneDom B1' own1.1 ((gx, ky, ed) : Dm) H8.out HM.out rfl _ _ rfl rfl rfl ?_) | (refine wpList_app1 (enc := eDom) rowDom lenDom oneDom B1' own1.1 ((kx, ey, ed) : Dm) H8.out HM.out rfl _ _ rfl rfl rfl ?_) | (refine wpList_app1 (enc := eDom) rowDom lenDom oneDom B1' own1.1 ((kx, gy, ed) : Dm) H8.out HM.out rfl _ _ rfl rfl rfl ?_) | (refine wpList_app1 (enc := eDom) rowDom lenDom oneDom B1' own1.1 ((kx, ky, ed) : Dm) H8.out HM.out rfl _ _ rfl rfl rfl ?_)); intro v4 w4 own4 hb4 hg4 hd4; obtain ⟨A4, c4, rfl, hc4, hm4⟩ := own4.form)
                have ownF4 := own1.app own4 hg4 hd4 b71 b81
                have b74 := (b71.alloc _).grown hg4 (fun e => own1.2.1 e.symm)
                have b84 := (b81.alloc _).grown hg4 (fun e => own1.2.2 e.symm)
                go_roundw
                case rel => exact ⟨k + 1, _, A4, c4, by omega, by simp; omega, by go_num, by simp, Hg2, ownF4, b74, b84, hb4⟩
                case measure => simp [intOf]; omega
        · obtain rfl : k = l.length := by omega
          have hg := Hg.out
          rw [List.drop_of_length_le (Nat.le_refl _), List.filter_nil, List.append_nil] at hg
          have Hout := Lib.hid hg; clear hg
          go_wp2_with fail
          refine (sortS_any _ out _ (hown.1.rd lenDom (by decide))).mono ?_
          rintro e w70 ⟨A70, c70, rfl, own70, hb70⟩
          go_wp2
          go_ret2
          have e9 : sortD out = flipTo l (x, y) := by rw [Hout.out]; unfold flipTo; rw [HGN.out.1, HGN.out.2]
          rw [e9] at own70 ⊢
          exact ⟨A70, c70, rfl, own70.mono hbel.size, hbel.tr hb70⟩
    · skip
      have hkk : kindOf l (x, y) = 2 := hkv
      have Hkk := Lib.hid hkk; clear hkk hkv
      go_enter Try.func172, Try.ntmps172
      go_wp2_with fail
      refine (kindS_of _ l x y 2 _ (h.below RE.stays hA) Hkk.out).mono ?_
      rintro e w1 ⟨rfl, hb1⟩
      have B1 := hA.tr hb1
      have bC1 := bC.bl hb1
      have zc_0 := bC1.cell 0
      have zc_1 := bC1.cell 1
      simp only [List.getElem?_toArray, List.getElem?_cons_zero, List.getElem?_cons_succ] at zc_0 zc_1
      go_wp2_with fail
      refine (pairS_dn x y _ Hinf.out).mono ?_
      rintro e w3 ⟨rfl, hb3⟩
      have B3 := ((B1.tr hb3).al (.cells #[.int .i64 x, .int .i64 y, .bool true] 73)).al (.cells #[.int .i64 (x + 1), .int .i64 y, .bool true] 73)
      have bC3 := ((bC1.bl hb3).alloc (.cells #[.int .i64 x, .int .i64 y, .bool true] 73)).alloc (.cells #[.int .i64 (x + 1), .int .i64 y, .bool true] 73)
      have bd := (Blk.new_ w3 73 #[.int .i64 x, .int .i64 y, .bool true]).alloc (.cells #[.int .i64 (x + 1), .int .i64 y, .bool true] 73)
      have be := Blk.new2 (w3.alloc (.cells #[.int .i64 x, .int .i64 y, .bool true] 73)) 73 #[.int .i64 (x + 1), .int .i64 y, .bool true] (w3.heap.size + 1) (by simp)
      clear zc_0 zc_1 bC1
      have zc_0 := bC3.cell 0
      have zc_1 := bC3.cell 1
      simp only [List.getElem?_toArray, List.getElem?_cons_zero, List.getElem?_cons_succ] at zc_0 zc_1
      go_wp2_with fail
      refine (pairS_ac x y _ Hinf.out).mono ?_
      rintro e w4 ⟨rfl, hb4⟩
      have B4 := ((B3.tr hb4).al (.cells #[.int .i64 x, .int .i64 y, .bool false] 73)).al (.cells #[.int .i64 x, .int .i64 (y + 1), .bool false] 73)
      have bd4 := ((bd.bl hb4).alloc (.cells #[.int .i64 x, .int .i64 y, .bool false] 73)).alloc (.cells #[.int .i64 x, .int .i64 (y + 1), .bool false] 73)
      have be4 := ((be.bl hb4).alloc (.cells #[.int .i64 x, .int .i64 y, .bool false] 73)).alloc (.cells #[.int .i64 x, .int .i64 (y + 1), .bool false] 73)
      have bu := (Blk.new_ w4 73 #[.int .i64 x, .int .i64 y, .bool false]).alloc (.cells #[.int .i64 x, .int .i64 (y + 1), .bool false] 73)
      have bv := Blk.new2 (w4.alloc (.cells #[.int .i64 x, .int .i64 y, .bool false] 73)) 73 #[.int .i64 x, .int .i64 (y + 1), .bool false] (w4.heap.size + 1) (by simp)
      clear zc_0 zc_1 bC3 bd be
      have u_0 := bu.cell 0
      have u_1 := bu.cell 1
      have u_2 := bu.cell 2
      simp only [List.getElem?_toArray, List.getElem?_cons_zero, List.getElem?_cons_succ] at u_0 u_1 u_2
      have t_0 := bv.cell 0
      have t_1 := bv.cell 1
      have t_2 := bv.cell 2
      simp only [List.getElem?_toArray, List.getElem?_cons_zero, List.getElem?_cons_succ] at t_0 t_1 t_2
      go_wp2_with fail
      obtain ⟨W5, hW5⟩ : ∃ W5, W5 = (w4.alloc (.cells #[.int .i64 x, .int .i64 y, .bool false] 73)).alloc (.cells #[.int .i64 x, .int .i64 (y + 1), .bool false] 73) := ⟨_, rfl⟩
      have hs5 : W5.heap.size = w4.heap.size + 1 + 1 := by rw [hW5]; simp
      rw [← hW5] at B4 bd4 be4 ⊢
      rw [← hs5]
      obtain ⟨g8, hg8⟩ : ∃ g, g = w3.heap.size + 1 := ⟨_, rfl⟩
      obtain ⟨g7, hg7⟩ : ∃ g, g = w3.heap.size := ⟨_, rfl⟩
      have hg70 : w.heap.size ≤ g7 := by have := (B1.tr hb3).size; omega
      have hg80 : w.heap.size ≤ g8 := by omega
      rw [← hg8] at be4 ⊢
      rw [← hg7] at bd4 ⊢
      obtain ⟨gx, hgx⟩ : ∃ n : Int, n = x := ⟨_, rfl⟩
      obtain ⟨gy, hgy⟩ : ∃ n : Int, n = y := ⟨_, rfl⟩
      obtain ⟨gb, hgb⟩ : ∃ n : Bool, n = true := ⟨_, rfl⟩
      obtain ⟨kx, hkx⟩ : ∃ n : Int, n = (x + 1) := ⟨_, rfl⟩
      obtain ⟨ky, hky⟩ : ∃ n : Int, n = y := ⟨_, rfl⟩
      obtain ⟨kb, hkb⟩ : ∃ n : Bool, n = true := ⟨_, rfl⟩
      have b7 : Blk W5 g7 73 #[.int .i64 gx, .int .i64 gy, .bool gb] := by rw [hgx, hgy, hgb]; exact bd4
      have b8 : Blk W5 g8 73 #[.int .i64 kx, .int .i64 ky, .bool kb] := by rw [hkx, hky, hkb]; exact be4
      have HGN : Hid (goneOf (kindOf l (x, y)) (x, y) = ((gx, gy, gb), (kx, ky, kb)) ∧ nextOf (kindOf l (x, y)) (x, y) = ((x, y, false), (x, (y + 1), false))) := Lib.hid (by rw [Hkk.out, hgx, hgy, hgb, hkx, hky, hkb]; exact ⟨rfl, rfl⟩)
      clear hgx hgy hgb hkx hky hkb bd4 be4 bu bv hW5 hs5 hg7 hg8 u_0 u_1 u_2 t_0 t_1 t_2
      have own0 : OwnL 73 3 eDom w.heap.size (W5.alloc (.cells #[.int .i64 x, .int .i64 y, .bool false, .int .i64 x, .int .i64 (y + 1), .bool false] 73)) (.slice (some ⟨W5.heap.size, 0, none⟩) 2 2) [((x, y, false) : Dm), (x, (y + 1), false)] := own_two _ (x, y, false) (x, (y + 1), false) _ B4.size
      have hne7 : Value.ownBlock (.slice (some ⟨W5.heap.size, 0, none⟩) 2 2) ≠ some g7 := by have := b7.lt; simp [Value.ownBlock]; omega
      have hne8 : Value.ownBlock (.slice (some ⟨W5.heap.size, 0, none⟩) 2 2) ≠ some g8 := by have := b8.lt; simp [Value.ownBlock]; omega
      have b70 := b7.alloc (.cells #[.int .i64 x, .int .i64 y, .bool false, .int .i64 x, .int .i64 (y + 1), .bool false] 73)
      have b80 := b8.alloc (.cells #[.int .i64 x, .int .i64 y, .bool false, .int .i64 x, .int .i64 (y + 1), .bool false] 73)
      have B0 := B4.al (.cells #[.int .i64 x, .int .i64 y, .bool false, .int .i64 x, .int .i64 (y + 1), .bool false] 73)
      go_loopw [11, 12] (fun s8 s43 wr => ∃ (k : Nat) (out : List Dm) (A8 : Option Addr) (c8 : Nat), k ≤ l.length ∧ out.length ≤ k + 2 ∧ s43 = .int .i64 k ∧ s8 = .slice A8 out.length c8 ∧ Hid (out ++ (l.drop k).filter (keepD ((gx, gy, gb), (kx, ky, kb))) = flipPre l ((gx, gy, gb), (kx, ky, kb)) ((x, y, false), (x, (y + 1), false))) ∧ OwnF (.slice A8 out.length c8) out g7 g8 w.heap.size wr ∧ Blk wr g7 73 #[.int .i64 gx, .int .i64 gy, .bool gb] ∧ Blk wr g8 73 #[.int .i64 kx, .int .i64 ky, .bool kb] ∧ Below w.heap.size w wr) (fun _ i _ => l.length - (intOf i).toNat)
      case atStart => exact ⟨0, [((x, y, false) : Dm), (x, (y + 1), false)], _, _, Nat.zero_le _, by simp, rfl, rfl, Lib.hid rfl, ⟨own0, hne7, hne8⟩, b70, b80, B0⟩
      case round =>
        obtain ⟨k, out, A8, c8, hk, hol, rfl, rfl, Hg, hown, hb7, hb8, hbel⟩ := hrel
        clear own0 b70 b80 B0 hne7 hne8
        by_cases hlt : k < l.length
        · have hltI : (k : Int) < (l.length : Int) := by omega
          obtain ⟨b, off, rfl, hb, q1, q2, q3⟩ := (h.below RE.stays hbel).atDom hlt
          have hg := Hg.out
          rw [List.drop_eq_getElem_cons hlt, List.filter_cons] at hg
          obtain ⟨d, hd⟩ : ∃ d, d = l[k] := ⟨_, rfl⟩
          rw [← hd] at q1 q2 q3 hg
          obtain ⟨ex, ey, ed⟩ := d
          simp only at q1 q2 q3
          have QF : Hid (∀ wX : World, Below w.heap.size w wX → b < wX.heap.size ∧ wX.cell? ⟨b, off + k * 3, none⟩ = some (.int .i64 ex) ∧ wX.cell? ⟨b, off + k * 3 + 1, none⟩ = some (.int .i64 ey) ∧ wX.cell? ⟨b, off + k * 3 + 2, none⟩ = some (.bool ed)) := Lib.hid (fun wX hX => by
            obtain ⟨b9, off9, e9, r0, r1, r2, r3⟩ := (h.below RE.stays hX).atDom hlt
            injection e9 with e9; injection e9 with e91 e92 _; subst e91; subst e92
            rw [← hd] at r1 r2 r3
            exact ⟨r0, r1, r2, r3⟩)
          have u_0 := hb7.cell 0
          have u_1 := hb7.cell 1
          have u_2 := hb7.cell 2
          simp only [List.getElem?_toArray, List.getElem?_cons_zero, List.getElem?_cons_succ] at u_0 u_1 u_2
          have t_0 := hb8.cell 0
          have t_1 := hb8.cell 1
          have t_2 := hb8.cell 2
          simp only [List.getElem?_toArray, List.getElem?_cons_zero, List.getElem?_cons_succ] at t_0 t_1 t_2
          have H8 : Hid ((out.length + 1) * 24 ≤ 140737488355328) := Lib.hid (by unfold Small at hl; omega)
          have HM : Hid (out.length + 1 ≤ maxLen) := Lib.hid (by unfold Small at hl; unfold maxLen; omega)
          clear hd
          by_cases e1 : ((ex, ey, ed) : Dm) = (gx, gy, gb)
          · rw [if_neg (by rw [e1]; simp [keepD])] at hg
            have Hg2 := Lib.hid hg; clear hg
            simp only [Prod.mk.injEq] at e1
            obtain ⟨rfl, rfl, rfl⟩ := e1
            go_wp2_with fail
            go_quiet (fail)
            go_wp2
            go_roundw
            case rel => exact ⟨k + 1, out, A8, c8, by omega, by omega, by go_num, rfl, Hg2, hown.drewN _, hb7.drewN _, hb8.drewN _, below_drewN hbel _⟩
            case measure => simp [intOf]; omega
          · by_cases e2 : ((ex, ey, ed) : Dm) = (kx, ky, kb)
            · rw [if_neg (by rw [e2]; simp [keepD])] at hg
              have Hg2 := Lib.hid hg; clear hg
              simp only [Prod.mk.injEq] at e2
              obtain ⟨rfl, rfl, rfl⟩ := e2
              rcases ne_ways e1 with p | ⟨rfl, p⟩ | ⟨rfl, rfl, p⟩
              · clear e1
                go_wp2_with fail
                go_quiet (fail)
                go_wp2
                go_roundw
                case rel => exact ⟨k + 1, out, A8, c8, by omega, by omega, by go_num, rfl, Hg2, hown.drewN _, hb7.drewN _, hb8.drewN _, below_drewN hbel _⟩
                case measure => simp [intOf]; omega
              · clear e1
                go_wp2_with fail
                go_quiet (fail)
                go_wp2
                go_roundw
                case rel => exact ⟨k + 1, out, A8, c8, by omega, by omega, by go_num, rfl, Hg2, hown.drewN _, hb7.drewN _, hb8.drewN _, below_drewN hbel _⟩
                case measure => simp [intOf]; omega
              · clear e1
                go_wp2_with fail
                go_quiet (fail)
                go_wp2
                go_roundw
                case rel => exact ⟨k + 1, out, A8, c8, by omega, by omega, by go_num, rfl, Hg2, hown.drewN _, hb7.drewN _, hb8.drewN _, below_drewN hbel _⟩
                case measure => simp [intOf]; omega
            · rw [if_pos (by simp only [keepD, decide_eq_false e1, decide_eq_false e2]; rfl), ← List.singleton_append, ← List.append_assoc] at hg
              have Hg2 := Lib.hid hg; clear hg
              rcases ne_ways e1 with p | ⟨rfl, p⟩ | ⟨rfl, rfl, p⟩ <;> rcases ne_ways e2 with q | ⟨rfl, q⟩ | ⟨rfl, rfl, q⟩
              all_goals
                clear e1 e2
                go_wp2_with fail
                go_quiet (fail)
                obtain ⟨wd, hwd⟩ : ∃ wd, wd = wr.drewN nq := ⟨_, rfl⟩
                have own1 := hown.drewN nq
                have b71 := hb7.drewN nq
                have b81 := hb8.drewN nq
                have B1' := below_drewN hbel nq
                rw [← hwd] at own1 b71 b81 B1' ⊢
                clear hwd hb q1 q2 q3 u_0 u_1 u_2 t_0 t_1 t_2
                obtain ⟨hb, q1, q2, q3⟩ := QF.out _ B1'
                go_wp2_with (at_builtin; go_must (first | (refine wpList_app1 (enc := eDom) rowDom lenDom oneDom B1' own1.1 ((ex, ey, ed) : Dm) H8.out HM.out rfl _ _ rfl rfl rfl ?_) | (refine wpList_app1 (enc := eDom) rowDom lenDom oneDom B1' own1.1 ((ex, gy, ed) : Dm) H8.out HM.out rfl _ _ rfl rfl rfl ?_) | (refine wpList_app1 (enc := eDom) rowDom lenDom oneDom B1' own1.1 ((ex, ky, ed) : Dm) H8.out HM.out rfl _ _ rfl rfl rfl ?_) | (refine wpList_app1 (enc := eDom) rowDom lenDom oneDom B1' own1.1 ((gx, ey, ed) : Dm) H8.out HM.out rfl _ _ rfl rfl rfl ?_) | (refine wpList_app1 (enc := eDom) rowDom lenDom oneDom B1' own1.1 ((gx, gy, ed) : Dm) H8.out HM.out rfl _ _ rfl rfl rfl ?_) | (refine wpList_app1 (enc := eDom) rowDom lenDom oneDom B1' own1.1 ((gx, ky, ed) : Dm) H8.out HM.out rfl _ _ rfl rfl rfl ?_) | (refine wpList_app1 (enc := eDom) rowDom lenDom oneDom B1' own1.1 ((kx, ey, ed) : Dm) H8.out HM.out rfl _ _ rfl rfl rfl ?_) | (refine wpList_app1 (enc := eDom) rowDom lenDom oneDom B1' own1.1 ((kx, gy, ed) : Dm) H8.out HM.out rfl _ _ rfl rfl rfl ?_) | (refine wpList_app1 (enc := eDom) rowDom lenDom oneDom B1' own1.1 ((kx, ky, ed) : Dm) H8.out HM.out rfl _ _ rfl rfl rfl ?_)); intro v4 w4 own4 hb4 hg4 hd4; obtain ⟨A4, c4, rfl, hc4, hm4⟩ := own4.form)
                have ownF4 := own1.app own4 hg4 hd4 b71 b81
                have b74 := (b71.alloc _).grown hg4 (fun e => own1.2.1 e.symm)
                have b84 := (b81.alloc _).grown hg4 (fun e => own1.2.2 e.symm)
                go_roundw
                case rel => exact ⟨k + 1, _, A4, c4, by omega, by simp; omega, by go_num, by simp, Hg2, ownF4, b74, b84, hb4⟩
                case measure => simp [intOf]; omega
        · obtain rfl : k = l.length := by omega
          have hg := Hg.out
          rw [List.drop_of_length_le (Nat.le_refl _), List.filter_nil, List.append_nil] at hg
          have Hout := Lib.hid hg; clear hg
          go_wp2_with fail
          refine (sortS_any _ out _ (hown.1.rd lenDom (by decide))).mono ?_
          rintro e w70 ⟨A70, c70, rfl, own70, hb70⟩
          go_wp2
          go_ret2
          have e9 : sortD out = flipTo l (x, y) := by rw [Hout.out]; unfold flipTo; rw [HGN.out.1, HGN.out.2]
          rw [e9] at own70 ⊢
          exact ⟨A70, c70, rfl, own70.mono hbel.size, hbel.tr hb70⟩
end Go.Proofs.Ytkbndchgmokabaa
