/- The reference's forced dominoes and the region without them: the walks. Conditions: sizes. -/
import Derived.Test.YtnlljkdfapllpaaFreeS
namespace Go.Proofs.Ytnlljkdfapllpaa
open Go.ChangeShapes Go.WideShapes Go.ChangeAt Go.RowKit
set_option linter.unusedVariables false
set_option linter.unusedSimpArgs false

theorem forced_allD {rows : List Int} (h0 : cntRows rows ≠ 0) : RowsOk rows ∧ forced rows = (allD (setOf rows)).filter fun d => decide (cntWith rows d = cntRows rows) := by
  have hr : regionOk rows = true := by
    rcases q : regionOk rows with _ | _
    · exact absurd (show cntRows rows = 0 by unfold cntRows; rw [q]; rfl) h0
    · rfl
  refine ⟨regionOk_iff.1 hr, ?_⟩
  unfold forced
  rw [if_neg h0]
  exact where_all (regionOk_iff.1 hr) (decide_eq_false (fun e => h0 e.symm))
/-- Two lists of dominoes of the call's own, in blocks of their own. -/
structure Two (B : Nat) (w : World) (u v : Value) (a b : List Dm) : Prop where
  a : OwnL 88 3 eDom B w u a
  b : OwnL 88 3 eDom B w v b
  ap : ∀ g, u.ownBlock = some g → v.ownBlock ≠ some g
theorem Two.bl {B : Nat} {w w' : World} {u v : Value} {a b : List Dm} (h : Two B w u v a b) (hb : Below w.heap.size w w') : Two B w' u v a b := ⟨h.a.below hb, h.b.below hb, h.ap⟩
theorem Two.app {B : Nat} {w w' : World} {u v u' : Value} {a b a' : List Dm} {o : Obj} (h : Two B w u v a b) (own : OwnL 88 3 eDom B w' u' a') (hg : (w.alloc o).grownBy w' u.ownBlock) (hd : u'.ownBlock = u.ownBlock ∨ u'.ownBlock = some (w.heap.size + 1)) : Two B w' u' v a' b := by
  refine ⟨own, World.ownsRow.kept (h.b.alloc o) hg ?_, fun g hg' => ?_⟩
  · rcases h1 : v.ownBlock with _ | g1
    · exact .inl rfl
    · exact .inr fun e => h.ap g1 e.symm h1
  · rcases hd with e | e
    · exact h.ap g (e ▸ hg')
    · rw [e] at hg'
      injection hg' with hg'
      intro hv
      have := (World.ownsRow.lt h.b g hv).2
      omega
abbrev op_FreeS2_specForcedDominoes_9_0 : Oper := { dst := some 21, op := Go.Op.load 30 (Go.Operand.tmp 1), type := 30, pos := "l15_forced.go:42", after := #[], guard := none }
abbrev op_FreeS2_specForcedDominoes_9_1 : Oper := { dst := some 22, op := Go.Op.move (Go.Operand.tmp 5), type := 31, pos := "l15_forced.go:42", after := #[], guard := none }
abbrev op_FreeS2_specForcedDominoes_9_2 : Oper := { dst := some 23, op := Go.Op.move (Go.Operand.tmp 6), type := 3, pos := "l15_forced.go:42", after := #[], guard := none }
abbrev op_FreeS2_specForcedDominoes_9_3 : Oper := { dst := some 24, op := Go.Op.indexAddr 31 (Go.Operand.tmp 22) (Go.Operand.tmp 23), type := 0, pos := "l15_forced.go:42", after := #[{ on := 1, ground := Go.Ground.data }, { on := 2, ground := Go.Ground.data }], guard := none }
abbrev op_FreeS2_specForcedDominoes_9_4 : Oper := { dst := some 25, op := Go.Op.load 88 (Go.Operand.tmp 24), type := 88, pos := "l15_forced.go:42", after := #[{ on := 3, ground := Go.Ground.data }], guard := none }
abbrev op_FreeS2_specForcedDominoes_9_6 : Oper := { dst := some 27, op := Go.Op.move (Go.Operand.tmp 4), type := 3, pos := "l15_forced.go:42", after := #[], guard := none }
abbrev op_FreeS2_specForcedDominoes_9_5 : Oper := { dst := some 26, op := Go.Op.call { callee := Go.Callee.value (Go.Operand.func 62), args := #[Go.Operand.tmp 21, Go.Operand.tmp 25], argTypes := #[30, 88] }, type := 3, pos := "l15_forced.go:42", after := #[{ on := 0, ground := Go.Ground.data }, { on := 4, ground := Go.Ground.data }], guard := none }
abbrev op_FreeS2_specForcedDominoes_9_7 : Oper := { dst := some 28, op := Go.Op.binOp Go.BinOp.eql 3 (Go.Operand.tmp 26) (Go.Operand.tmp 27) 3, type := 4, pos := "l15_forced.go:42", after := #[{ on := 5, ground := Go.Ground.data }, { on := 6, ground := Go.Ground.data }], guard := none }
set_option maxHeartbeats 4000000 in
set_option maxRecDepth 100000 in
theorem forcedS_any (v : Value) (rows : List Int) (w : World) (h : Rd 1 RInt w v rows) : Calls Try.prog 98 #[.agg #[v]] w (RetOwn 88 3 eDom (forced rows) w) := by
  obtain ⟨A, c, rfl, hc, hm⟩ := h.form
  have hA := (Below.refl w.heap.size w).al (.cells #[.slice A rows.length c] 30)
  have hA2 := hA.al (.cells #[] 88)
  have bX := (Blk.new_ w 30 #[.slice A rows.length c]).alloc (.cells #[] 88)
  have ownE : OwnL 88 3 eDom w.heap.size ((w.alloc (.cells #[.slice A rows.length c] 30)).alloc (.cells #[] 88)) (.slice (some ⟨w.heap.size + 1, 0, none⟩) ([] : List Dm).length 0) [] := by
    have := (own_empty (w.alloc (.cells #[.slice A rows.length c] 30)) (E := 88) (size := 3) (enc := eDom)).mono (show w.heap.size ≤ _ from hA.size)
    simpa using this
  by_cases h0 : cntRows rows = 0
  · have e : forced rows = [] := by unfold forced; rw [if_pos h0]
    rw [e]
    have C : ∀ (u : Value) (w : World), Rd 1 RInt w u rows → Calls Try.prog 63 #[.agg #[u]] w (Ret (.int .i64 0) w) := fun u w k1 => by have := cntTilS_any u rows w k1; rw [h0] at this; exact this
    clear h0 e
    go_enter Try.func98, Try.ntmps98
    go_wp2_with fail
    refine (C _ _ (h.below RE.stays hA2)).mono ?_
    rintro e w1 ⟨rfl, hb1⟩
    go_wp2
    go_ret
    exact ⟨_, _, rfl, ownE.below hb1, hA2.tr hb1⟩
  · obtain ⟨hok, hf⟩ := forced_allD h0
    have hRl : (allD (setOf rows)).length ≤ 128 := allD_len _ (setOf_lt hok)
    obtain ⟨n, hn⟩ : ∃ n, n = cntRows rows := ⟨_, rfl⟩
    obtain ⟨L, hL⟩ : ∃ L, L = allD (setOf rows) := ⟨_, rfl⟩
    have C : ∀ (u : Value) (w : World), Rd 1 RInt w u rows → Calls Try.prog 63 #[.agg #[u]] w (Ret (.int .i64 n) w) := fun u w k1 => by rw [hn]; exact cntTilS_any u rows w k1
    have CL : ∀ (u : Value) (w : World), Rd 1 RInt w u rows → Calls Try.prog 160 #[.agg #[u]] w (RetOwn 88 3 eDom L w) := fun u w k1 => by rw [hL]; exact allS_any u rows w k1 (Lib.hid hok)
    rw [← hn] at h0 hf
    rw [← hL] at hf hRl
    have hn0 : (n == 0) = false := by simpa using h0
    obtain ⟨P, hP⟩ : ∃ P : Dm → Bool, P = fun d => decide (cntWith rows d = n) := ⟨_, rfl⟩
    have hPd : ∀ d, P d = decide (cntWith rows d = n) := fun d => by rw [hP]
    rw [← hP] at hf
    obtain ⟨R, hR⟩ : ∃ R, R = forced rows := ⟨_, rfl⟩
    rw [← hR] at hf ⊢
    have HR0 : Hid ([] ++ (L.drop 0).filter P = R) := Lib.hid hf.symm
    have HP := Lib.hid hPd
    have hRl2 : R.length ≤ 128 := by rw [hf]; exact Nat.le_trans (List.length_filter_le _ _) hRl
    clear h0 hn hL hP hPd hR hf hok
    go_enter Try.func98, Try.ntmps98
    go_wp2_with fail
    refine (C _ _ (h.below RE.stays hA2)).mono ?_
    rintro e w1 ⟨rfl, hb1⟩
    have own1 := ownE.below hb1
    have B1 := hA2.tr hb1
    have bX1 := bX.bl hb1
    clear hA hA2 ownE bX hb1
    have z0 := bX1.c1
    go_wp2_with fail
    refine (CL _ _ (h.below RE.stays B1)).mono ?_
    rintro e w2 ⟨AL, cL, rfl, oL, hb2⟩
    have own2 := own1.below hb2
    have ap0 : ∀ g, Value.ownBlock (.slice (some ⟨w.heap.size + 1, 0, none⟩) ([] : List Dm).length 0) = some g → (Value.slice AL L.length cL).ownBlock ≠ some g := fun g hg => own1.early oL (Nat.le_refl _) hg
    have oL := oL.mono B1.size
    have two2 : Two w.heap.size w2 (.slice (some ⟨w.heap.size + 1, 0, none⟩) ([] : List Dm).length 0) (.slice AL L.length cL) [] L := ⟨own2, oL, ap0⟩
    have B2 := B1.tr hb2
    have bX2 := bX1.bl hb2
    clear own1 own2 oL B1 bX1 z0 hb2 ap0
    go_wp2_with fail
    go_loopw [3, 6] (fun s3 s6 wr => ∃ (k : Nat) (out : List Dm) (A1 : Option Addr) (c1 : Nat), k ≤ L.length ∧ s6 = .int .i64 k ∧ s3 = .slice A1 out.length c1 ∧ Two w.heap.size wr (.slice A1 out.length c1) (.slice AL L.length cL) out L ∧ Below w.heap.size w wr ∧ Blk wr w.heap.size 30 #[.slice A rows.length c] ∧ Hid (out ++ (L.drop k).filter P = R)) (fun _ i _ => L.length - (intOf i).toNat)
    case atStart => exact ⟨0, [], _, _, by omega, rfl, rfl, two2, B2, bX2, HR0⟩
    case round =>
      obtain ⟨k, out, A1, c1, hk, rfl, rfl, two, B, bX, HR⟩ := hrel
      clear two2 B2 bX2 HR0
      by_cases hlt : k < L.length
      · have hlen : out.length ≤ 128 := by have := congrArg List.length HR.out; rw [List.length_append] at this; omega
        obtain ⟨dx, dy, dd, hd⟩ : ∃ dx dy dd, L[k] = (dx, dy, dd) := ⟨_, _, _, rfl⟩
        have HR2 : Hid (out ++ [(dx, dy, dd)].filter P ++ (L.drop (k + 1)).filter P = R) := Lib.hid (by
          rw [← HR.out, List.drop_eq_getElem_cons hlt, hd, List.append_assoc, ← List.filter_append]; rfl)
        obtain ⟨gL, rfl, hgL1, hgL2⟩ := two.b.split hlt
        have q0 := two.b.slot lenDom (by decide) hlt 0 (.int .i64 dx) (by rw [hd]; rfl)
        have q1 := two.b.slot lenDom (by decide) hlt 1 (.int .i64 dy) (by rw [hd]; rfl)
        have q2 := two.b.slot lenDom (by decide) hlt 2 (.bool dd) (by rw [hd]; rfl)
        rw [Nat.add_zero] at q0
        obtain ⟨m, hm'⟩ : ∃ m, m = cntWith rows (dx, dy, dd) := ⟨_, rfl⟩
        have CW : ∀ (u : Value) (w : World), Rd 1 RInt w u rows → Calls Try.prog 62 #[.agg #[u], .agg #[.int .i64 dx, .int .i64 dy, .bool dd]] w (Ret (.int .i64 m) w) := fun u w k1 => by rw [hm']; exact cntWithS_any u rows dx dy dd w k1
        have hPd := HP.out (dx, dy, dd)
        rw [← hm'] at hPd
        have hkI : (k : Int) < L.length := by omega
        have hXl := bX.lt
        have zx := bX.c1
        clear hd hm' HR
        obtain ⟨W, hW⟩ : ∃ W, W = wr := ⟨_, rfl⟩
        rw [← hW] at two B bX q0 q1 q2 hXl zx hgL2 ⊢
        clear hW
        have Bw : Below W.heap.size W W.drew := (Below.refl _ _).drew
        have hz : W.heap.size ≤ W.drew.heap.size := by simp
        rcases hq : decide (m = n) with _ | _
        · have hne : (m == n) = false := by rw [decide_eq_false_iff_not] at hq; simpa using hq
          rw [hq] at hPd
          have HPd := Lib.hid hPd; clear hPd hq
          go_wp2_with fail
          refine wp_region_held_drew (S := (fun w' => w'.cell? ⟨gL, k * 3, none⟩ = some (.int .i64 dx) ∧ w'.cell? ⟨gL, k * 3 + 1, none⟩ = some (.int .i64 dy) ∧ w'.cell? ⟨gL, k * 3 + 2, none⟩ = some (.bool dd) ∧ w'.cell? ⟨w.heap.size, 0, none⟩ = some (.slice A rows.length c))) (by kernel_rfl) ?_ (fun hHeld => ?_)
          · (try dsimp only); (try go_keep)
          refine wpAnyH_take (i := 0) (oi := op_FreeS2_specForcedDominoes_9_0) (v := ?_) rfl (by kernel_rfl) (by kernel_rfl) (by kernel_rfl) (fun _ _ _ h => h) (Or.inl ⟨by rfl, ?_⟩) (by assumption) ?_
          rotate_left 1
          · (intro wS hSw; (try dsimp only at hSw); dsimp only [op_FreeS2_specForcedDominoes_9_0]; go_simp; (all_goals with_reducible rfl))
          simp only [op_FreeS2_specForcedDominoes_9_0, Act.put, List.setIfInBounds_toArray, List.set_cons_zero, List.set_cons_succ]
          refine wpAnyH_take (i := 1) (oi := op_FreeS2_specForcedDominoes_9_1) (v := ?_) rfl (by kernel_rfl) (by kernel_rfl) (by kernel_rfl) (fun _ _ _ h => h) (Or.inl ⟨by rfl, ?_⟩) (by assumption) ?_
          rotate_left 1
          · (intro wS hSw; (try dsimp only at hSw); dsimp only [op_FreeS2_specForcedDominoes_9_1]; go_simp; (all_goals with_reducible rfl))
          simp only [op_FreeS2_specForcedDominoes_9_1, Act.put, List.setIfInBounds_toArray, List.set_cons_zero, List.set_cons_succ]
          refine wpAnyH_take (i := 2) (oi := op_FreeS2_specForcedDominoes_9_2) (v := ?_) rfl (by kernel_rfl) (by kernel_rfl) (by kernel_rfl) (fun _ _ _ h => h) (Or.inl ⟨by rfl, ?_⟩) (by assumption) ?_
          rotate_left 1
          · (intro wS hSw; (try dsimp only at hSw); dsimp only [op_FreeS2_specForcedDominoes_9_2]; go_simp; (all_goals with_reducible rfl))
          simp only [op_FreeS2_specForcedDominoes_9_2, Act.put, List.setIfInBounds_toArray, List.set_cons_zero, List.set_cons_succ]
          refine wpAnyH_take (i := 3) (oi := op_FreeS2_specForcedDominoes_9_3) (v := ?_) rfl (by kernel_rfl) (by kernel_rfl) (by kernel_rfl) (fun _ _ _ h => h) (Or.inl ⟨by rfl, ?_⟩) (by assumption) ?_
          rotate_left 1
          · (intro wS hSw; (try dsimp only at hSw); dsimp only [op_FreeS2_specForcedDominoes_9_3]; go_simp; (all_goals with_reducible rfl))
          simp only [op_FreeS2_specForcedDominoes_9_3, Act.put, List.setIfInBounds_toArray, List.set_cons_zero, List.set_cons_succ]
          refine wpAnyH_take (i := 4) (oi := op_FreeS2_specForcedDominoes_9_4) (v := ?_) rfl (by kernel_rfl) (by kernel_rfl) (by kernel_rfl) (fun _ _ _ h => h) (Or.inl ⟨by rfl, ?_⟩) (by assumption) ?_
          rotate_left 1
          · (intro wS hSw; (try dsimp only at hSw); dsimp only [op_FreeS2_specForcedDominoes_9_4]; go_simp; (all_goals with_reducible rfl))
          simp only [op_FreeS2_specForcedDominoes_9_4, Act.put, List.setIfInBounds_toArray, List.set_cons_zero, List.set_cons_succ]
          refine wpAnyH_take (i := 6) (oi := op_FreeS2_specForcedDominoes_9_6) (v := ?_) rfl (by kernel_rfl) (by kernel_rfl) (by kernel_rfl) (fun _ _ _ h => h) (Or.inl ⟨by rfl, ?_⟩) (by assumption) ?_
          rotate_left 1
          · (intro wS hSw; (try dsimp only at hSw); dsimp only [op_FreeS2_specForcedDominoes_9_6]; go_simp; (all_goals with_reducible rfl))
          simp only [op_FreeS2_specForcedDominoes_9_6, Act.put, List.setIfInBounds_toArray, List.set_cons_zero, List.set_cons_succ]
          refine wpAnyH_ready (rs := [5]) (by kernel_rfl) (by simp) ?_
          refine AllReadyH.cons (o := op_FreeS2_specForcedDominoes_9_5) rfl (fun K hK => ?_) AllReadyH.nil
          dsimp only [op_FreeS2_specForcedDominoes_9_5]
          go_simp
          (first | (go_at_call 62; go_must (refine (CW _ _ (h.below RE.stays (B.tr Bw))).mono ?_; rintro e wX ⟨rfl, hbX⟩; obtain ⟨hcX, hfX, hzX⟩ := bkn hbX W.heap.size hz; have hz := hzX; have Bw := Bw.tr hbX); (try go_wp2_with fail)))
          refine hK.out _ _ ?_ (fun hHeld => ?_)
          · (try dsimp only); (try go_keep)
          clear hK K
          (try simp only [Act.put, List.setIfInBounds_toArray, List.set_cons_zero, List.set_cons_succ])
          refine wpAnyH_take (i := 7) (oi := op_FreeS2_specForcedDominoes_9_7) (v := ?_) rfl (by kernel_rfl) (by kernel_rfl) (by kernel_rfl) (fun _ _ _ h => h) (Or.inl ⟨by rfl, ?_⟩) (by assumption) ?_
          rotate_left 1
          · (intro wS hSw; (try dsimp only at hSw); dsimp only [op_FreeS2_specForcedDominoes_9_7]; go_simp; (all_goals with_reducible rfl))
          simp only [op_FreeS2_specForcedDominoes_9_7, Act.put, List.setIfInBounds_toArray, List.set_cons_zero, List.set_cons_succ]
          refine wpAnyH_done (by kernel_rfl) ?_ _
          go_wp2
          go_roundw
          case rel => exact ⟨k + 1, out, _, _, by omega, by go_num, rfl, two.bl Bw, B.tr Bw, bX.bl Bw, Lib.hid (by have := HR2.out; rwa [List.filter_cons, HPd.out, if_neg (by simp), List.filter_nil, List.append_nil] at this)⟩
          case measure => simp [intOf]; omega
        · have hne : (m == n) = true := by rw [decide_eq_true_iff] at hq; simpa using hq
          rw [hq] at hPd
          have HPd := Lib.hid hPd; clear hPd hq
          go_wp2_with fail
          refine wp_region_held_drew (S := (fun w' => w'.cell? ⟨gL, k * 3, none⟩ = some (.int .i64 dx) ∧ w'.cell? ⟨gL, k * 3 + 1, none⟩ = some (.int .i64 dy) ∧ w'.cell? ⟨gL, k * 3 + 2, none⟩ = some (.bool dd) ∧ w'.cell? ⟨w.heap.size, 0, none⟩ = some (.slice A rows.length c))) (by kernel_rfl) ?_ (fun hHeld => ?_)
          · (try dsimp only); (try go_keep)
          refine wpAnyH_take (i := 0) (oi := op_FreeS2_specForcedDominoes_9_0) (v := ?_) rfl (by kernel_rfl) (by kernel_rfl) (by kernel_rfl) (fun _ _ _ h => h) (Or.inl ⟨by rfl, ?_⟩) (by assumption) ?_
          rotate_left 1
          · (intro wS hSw; (try dsimp only at hSw); dsimp only [op_FreeS2_specForcedDominoes_9_0]; go_simp; (all_goals with_reducible rfl))
          simp only [op_FreeS2_specForcedDominoes_9_0, Act.put, List.setIfInBounds_toArray, List.set_cons_zero, List.set_cons_succ]
          refine wpAnyH_take (i := 1) (oi := op_FreeS2_specForcedDominoes_9_1) (v := ?_) rfl (by kernel_rfl) (by kernel_rfl) (by kernel_rfl) (fun _ _ _ h => h) (Or.inl ⟨by rfl, ?_⟩) (by assumption) ?_
          rotate_left 1
          · (intro wS hSw; (try dsimp only at hSw); dsimp only [op_FreeS2_specForcedDominoes_9_1]; go_simp; (all_goals with_reducible rfl))
          simp only [op_FreeS2_specForcedDominoes_9_1, Act.put, List.setIfInBounds_toArray, List.set_cons_zero, List.set_cons_succ]
          refine wpAnyH_take (i := 2) (oi := op_FreeS2_specForcedDominoes_9_2) (v := ?_) rfl (by kernel_rfl) (by kernel_rfl) (by kernel_rfl) (fun _ _ _ h => h) (Or.inl ⟨by rfl, ?_⟩) (by assumption) ?_
          rotate_left 1
          · (intro wS hSw; (try dsimp only at hSw); dsimp only [op_FreeS2_specForcedDominoes_9_2]; go_simp; (all_goals with_reducible rfl))
          simp only [op_FreeS2_specForcedDominoes_9_2, Act.put, List.setIfInBounds_toArray, List.set_cons_zero, List.set_cons_succ]
          refine wpAnyH_take (i := 3) (oi := op_FreeS2_specForcedDominoes_9_3) (v := ?_) rfl (by kernel_rfl) (by kernel_rfl) (by kernel_rfl) (fun _ _ _ h => h) (Or.inl ⟨by rfl, ?_⟩) (by assumption) ?_
          rotate_left 1
          · (intro wS hSw; (try dsimp only at hSw); dsimp only [op_FreeS2_specForcedDominoes_9_3]; go_simp; (all_goals with_reducible rfl))
          simp only [op_FreeS2_specForcedDominoes_9_3, Act.put, List.setIfInBounds_toArray, List.set_cons_zero, List.set_cons_succ]
          refine wpAnyH_take (i := 4) (oi := op_FreeS2_specForcedDominoes_9_4) (v := ?_) rfl (by kernel_rfl) (by kernel_rfl) (by kernel_rfl) (fun _ _ _ h => h) (Or.inl ⟨by rfl, ?_⟩) (by assumption) ?_
          rotate_left 1
          · (intro wS hSw; (try dsimp only at hSw); dsimp only [op_FreeS2_specForcedDominoes_9_4]; go_simp; (all_goals with_reducible rfl))
          simp only [op_FreeS2_specForcedDominoes_9_4, Act.put, List.setIfInBounds_toArray, List.set_cons_zero, List.set_cons_succ]
          refine wpAnyH_take (i := 6) (oi := op_FreeS2_specForcedDominoes_9_6) (v := ?_) rfl (by kernel_rfl) (by kernel_rfl) (by kernel_rfl) (fun _ _ _ h => h) (Or.inl ⟨by rfl, ?_⟩) (by assumption) ?_
          rotate_left 1
          · (intro wS hSw; (try dsimp only at hSw); dsimp only [op_FreeS2_specForcedDominoes_9_6]; go_simp; (all_goals with_reducible rfl))
          simp only [op_FreeS2_specForcedDominoes_9_6, Act.put, List.setIfInBounds_toArray, List.set_cons_zero, List.set_cons_succ]
          refine wpAnyH_ready (rs := [5]) (by kernel_rfl) (by simp) ?_
          refine AllReadyH.cons (o := op_FreeS2_specForcedDominoes_9_5) rfl (fun K hK => ?_) AllReadyH.nil
          dsimp only [op_FreeS2_specForcedDominoes_9_5]
          go_simp
          (first | (go_at_call 62; go_must (refine (CW _ _ (h.below RE.stays (B.tr Bw))).mono ?_; rintro e wX ⟨rfl, hbX⟩; obtain ⟨hcX, hfX, hzX⟩ := bkn hbX W.heap.size hz; have hz := hzX; have Bw := Bw.tr hbX); (try go_wp2_with fail)))
          refine hK.out _ _ ?_ (fun hHeld => ?_)
          · (try dsimp only); (try go_keep)
          clear hK K
          (try simp only [Act.put, List.setIfInBounds_toArray, List.set_cons_zero, List.set_cons_succ])
          refine wpAnyH_take (i := 7) (oi := op_FreeS2_specForcedDominoes_9_7) (v := ?_) rfl (by kernel_rfl) (by kernel_rfl) (by kernel_rfl) (fun _ _ _ h => h) (Or.inl ⟨by rfl, ?_⟩) (by assumption) ?_
          rotate_left 1
          · (intro wS hSw; (try dsimp only at hSw); dsimp only [op_FreeS2_specForcedDominoes_9_7]; go_simp; (all_goals with_reducible rfl))
          simp only [op_FreeS2_specForcedDominoes_9_7, Act.put, List.setIfInBounds_toArray, List.set_cons_zero, List.set_cons_succ]
          refine wpAnyH_done (by kernel_rfl) ?_ _
          obtain ⟨V, hV⟩ : ∃ V, V = wX := ⟨_, rfl⟩
          rw [← hV] at Bw hHeld ⊢
          clear hV hcX hfX hz q0 q1 q2 zx
          obtain ⟨r0, r1, r2, _⟩ := hHeld
          have two4 := two.bl Bw
          have B4 := B.tr Bw
          have bX4 := bX.bl Bw
          have hgL4 := two4.b.at_.2.2
          have H8 : Hid ((out.length + 1) * 24 ≤ 140737488355328) := Lib.hid (by omega)
          have HM : Hid (out.length + 1 ≤ maxLen) := Lib.hid (by unfold maxLen; omega)
          clear two B bX Bw
          go_wp2_with (at_builtin; go_must (refine wpList_app1 (enc := eDom) rowDom lenDom oneDom B4 two4.a ((dx, dy, dd) : Dm) H8.out HM.out rfl _ _ rfl rfl rfl ?_); intro v8 w8 own8 hb8 hg8 hd8; obtain ⟨A8, c8, rfl, hc8, hm8⟩ := own8.form; have bX8 := (bX4.alloc (.cells (eDom ((dx, dy, dd) : Dm)).toArray 88)).grown hg8 (fun e => (two4.a.apart bX4 (by decide)) e.symm); have two8 := two4.app own8 hg8 hd8)
          go_roundw
          case rel => exact ⟨k + 1, _, _, _, by omega, by go_num, by simp, two8, hb8, bX8, Lib.hid (by have := HR2.out; rwa [List.filter_cons, HPd.out, if_pos rfl, List.filter_nil] at this)⟩
          case measure => simp [intOf]; omega
      · obtain rfl : k = L.length := by omega
        have ho : out = R := by
          rw [← HR.out, List.drop_of_length_le (Nat.le_refl _)]; simp
        subst ho
        clear HR
        go_wp2
        go_ret
        exact ⟨_, _, rfl, two.a, B⟩
theorem pad8_set {rows : List Int} (h : RowsOk rows) : pad8 rows = rowsOf (setOf rows) 8 := by
  have hl : (pad8 rows).length = 8 := pad8_len h.1
  refine List.ext_getElem (by rw [hl, rowsOf_len]) fun i h1 h2 => ?_
  have a := pad8_getD rows i
  rw [List.getD_eq_getElem?_getD, List.getElem?_eq_getElem h1, Option.getD_some] at a
  have b := rowsOf_at (setOf rows) 8 i (by omega)
  rw [List.getD_eq_getElem?_getD, List.getElem?_eq_getElem h2, Option.getD_some] at b
  rw [a, b]
  have hg := getD_in h i
  have hr : (rows.getD i 0).toNat = (setOf rows >>> (8 * i)) % 256 := by
    refine row_ext (by omega) (Nat.mod_lt _ (by decide)) fun x hx => ?_
    rw [row_bit _ _ _ hx, setOf_bit h, show (8 * i + x) / 8 = i by omega, show (8 * i + x) % 8 = x by omega]
  omega
set_option maxHeartbeats 4000000 in
set_option maxRecDepth 100000 in
theorem freeS_any (v : Value) (rows : List Int) (w : World) (h : Rd 1 RInt w v rows) (hl : Small rows.length) : Calls Try.prog 37 #[.agg #[v]] w (RetReg (freeRows rows) w) := by
  obtain ⟨A, c, rfl, hc, hm⟩ := h.form
  have B0 := ((Below.refl w.heap.size w).al (.cells #[.slice A rows.length c] 30)).al (.cells #[.slice none 0 0] 30)
  have bX := (Blk.new_ w 30 #[.slice A rows.length c]).alloc (.cells #[.slice none 0 0] 30)
  have bR := Blk.new2 (w.alloc (.cells #[.slice A rows.length c] 30)) 30 #[.slice none 0 0] (w.heap.size + 1) (by simp)
  by_cases h0 : cntRows rows = 0
  · have e : freeRows rows = rows := by unfold freeRows; rw [if_pos h0]
    rw [e]
    have C : ∀ (u : Value) (w : World), Rd 1 RInt w u rows → Calls Try.prog 63 #[.agg #[u]] w (Ret (.int .i64 0) w) := fun u w k1 => by have := cntTilS_any u rows w k1; rw [h0] at this; exact this
    clear h0 e
    go_enter Try.func37, Try.ntmps37
    go_wp2_with fail
    refine (C _ _ (h.below RE.stays B0)).mono ?_
    rintro e w1 ⟨rfl, hb1⟩
    have B1 := B0.tr hb1
    have bX1 := bX.bl hb1
    have bR1 := bR.bl hb1
    obtain ⟨gX, hgX⟩ : ∃ g, g = w.heap.size := ⟨_, rfl⟩
    obtain ⟨gR, hgR'⟩ : ∃ g, g = w.heap.size + 1 := ⟨_, rfl⟩
    have hgR : w.heap.size ≤ gR := by omega
    have hXR : gX ≠ gR := by omega
    rw [← hgR'] at bR1 ⊢
    rw [← hgX] at bX1 ⊢
    clear hgX hgR' hb1 B0 bX bR
    have z0 := bX1.c1
    go_wp2_with fail
    refine (copyS_any _ rows _ (h.below RE.stays B1) hl).mono ?_
    rintro e w2 ⟨D, d, rfl, own, hb2⟩
    have bR2 := bR1.bl hb2
    have own := own.mono B1.size
    have z1 := bR2.c1
    have fR : ∀ j, w2.frozen? ⟨gR, j, none⟩ = false := fun j => bR2.frozen j
    have oE := own.far (a := ⟨gR, 0, none⟩) (own.apart bR2 (by decide)) (.slice D rows.length d)
    have BE := (B1.tr hb2).st ⟨gR, 0, none⟩ (.slice D rows.length d) hgR
    have bE := bR2.set1 (.slice D rows.length d)
    have q0 := bE.c1
    go_wp2
    exact bodyPost_ret (v := .agg #[.slice D rows.length d]) (by simp [results, Try.results37, go_sem, q0]) rfl ⟨D, d, rfl, oE, BE⟩
  · obtain ⟨hok, _⟩ := forced_allD h0
    have hs := setOf_lt hok
    obtain ⟨n, hn⟩ : ∃ n, n = cntRows rows := ⟨_, rfl⟩
    obtain ⟨F, hF⟩ : ∃ F, F = forced rows := ⟨_, rfl⟩
    have hFo : ∀ d ∈ F, domOk d = true := by rw [hF]; exact forced_ok rows
    have hFl : F.length ≤ 128 := by
      rw [hF]; unfold forced; split
      · simp
      · exact whereL_len _ _
    have hT : freeRows rows = rowsOf (takeOut (setOf rows) F) 8 := by
      unfold freeRows; rw [if_neg h0, ← hF, takeOut_is F hs hFo]
    obtain ⟨T, hTe⟩ : ∃ T, T = takeOut (setOf rows) F := ⟨_, rfl⟩
    rw [hT, ← hTe]
    have C : ∀ (u : Value) (w : World), Rd 1 RInt w u rows → Calls Try.prog 63 #[.agg #[u]] w (Ret (.int .i64 n) w) := fun u w k1 => by rw [hn]; exact cntTilS_any u rows w k1
    have CF : ∀ (u : Value) (w : World), Rd 1 RInt w u rows → Calls Try.prog 98 #[.agg #[u]] w (RetOwn 88 3 eDom F w) := fun u w k1 => by rw [hF]; exact forcedS_any u rows w k1
    rw [← hn] at h0
    have hn0 : (n == 0) = false := by simpa using h0
    have h8 := hok.1
    have HT0 : Hid (takeOut (setOf rows) (F.drop 0) = T) := Lib.hid hTe.symm
    have Hok := Lib.hid hok; have HFo := Lib.hid hFo; have Hs := Lib.hid hs
    clear h0 hn hF hT hTe hok hFo hs
    go_enter Try.func37, Try.ntmps37
    go_wp2_with fail
    refine (C _ _ (h.below RE.stays B0)).mono ?_
    rintro e w1 ⟨rfl, hb1⟩
    have B1 := B0.tr hb1
    have bX1 := bX.bl hb1
    have bR1 := bR.bl hb1
    obtain ⟨gX, hgX⟩ : ∃ g, g = w.heap.size := ⟨_, rfl⟩
    obtain ⟨gR, hgR'⟩ : ∃ g, g = w.heap.size + 1 := ⟨_, rfl⟩
    have hgR : w.heap.size ≤ gR := by omega
    have hXR : gX ≠ gR := by omega
    rw [← hgR'] at bR1 ⊢
    rw [← hgX] at bX1 ⊢
    clear hgX hgR' hb1 B0 bX bR
    have z0 := bX1.c1
    go_wp2_with fail
    refine (copyS_any _ rows _ (h.below RE.stays B1) hl).mono ?_
    rintro e w2 ⟨D, d, rfl, own, hb2⟩
    have own2 := (own.mono B1.size).alloc (.cells #[.slice D rows.length d] 30)
    have B2 := (B1.tr hb2).al (.cells #[.slice D rows.length d] 30)
    have bX2 := (bX1.bl hb2).alloc (.cells #[.slice D rows.length d] 30)
    have bR2 := (bR1.bl hb2).alloc (.cells #[.slice D rows.length d] 30)
    have bO2 := Blk.new_ w2 30 #[.slice D rows.length d]
    have hXl := (bX1.bl hb2).lt
    have hRl := (bR1.bl hb2).lt
    have hgO0 := (B1.tr hb2).size
    obtain ⟨gO, hgO'⟩ : ∃ g, g = w2.heap.size := ⟨_, rfl⟩
    rw [← hgO'] at bO2 hXl hRl hgO0
    have hXO : gX ≠ gO := by omega
    have hRO : gR ≠ gO := by omega
    have hOX := hXO.symm
    have hOR := hRO.symm
    clear own B1 bX1 bR1 hb2 z0
    have q1 := bO2.c1
    go_wp2_with fail
    rw [← hgO']
    clear hgO'
    go_loopw [18] (fun _ wr => ∃ (j : Nat) (A' : Option Addr) (c' : Nat), rows.length + j ≤ 8 ∧ Blk wr gO 30 #[.slice A' (rows.length + j) c'] ∧ OwnL 3 1 eInt w.heap.size wr (.slice A' (rows.length + j) c') (rows ++ List.replicate j 0) ∧ Blk wr gX 30 #[.slice A rows.length c] ∧ Blk wr gR 30 #[.slice none 0 0] ∧ Below w.heap.size w wr) (fun _ wr => 8 - cellLen wr gO)
    case atStart => exact ⟨0, D, d, by omega, bO2, by simpa using own2, bX2, bR2, B2⟩
    case round =>
      obtain ⟨j, A', c', hj, hbx, hown, hbr, hbc, hbel⟩ := hrel
      clear bO2 own2 bX2 bR2 B2 q1
      have q1 := hbx.c1
      have q2 := hbx.frozen 0
      have hz := hbx.lt
      by_cases hlt : rows.length + j < 8
      · have hltI : ((rows.length : Int) + j) < 8 := by omega
        have hlen : (rows ++ List.replicate j (0 : Int)).length = rows.length + j := by simp
        have HB : Hid (w.heap.size ≤ wr.heap.size) := Lib.hid hbel.size
        have H8 : Hid (((rows ++ List.replicate j (0 : Int)).length + 1) * 8 ≤ 140737488355328) := Lib.hid (by rw [hlen]; omega)
        have HM : Hid ((rows ++ List.replicate j (0 : Int)).length + 1 ≤ maxLen) := Lib.hid (by rw [hlen]; unfold maxLen; omega)
        have Hlen := Lib.hid hlen; clear hlen
        go_wp2_with (at_builtin; go_must (refine wpList_appB (enc := eInt) rowInt lenInt oneInt (B := w.heap.size) wr HB.out hown 0 rfl H8.out HM.out rfl _ _ rfl rfl rfl ?_); intro v1 w1 own1 hg1 hv1; rw [Hlen.out] at hv1; obtain ⟨A1, c1, rfl⟩ := hv1; have hbx1 := hbx.grown hg1 (fun e => (hown.apart hbx (by decide)) e.symm); have q3 := hbx1.c1; have q4 := hbx1.frozen 0)
        have hbx2 := hbx1.set1 (.slice A1 (rows.length + j + 1) c1)
        have hbr2 := (hbr.grown hg1 (fun e => (hown.apart hbr (by decide)) e.symm)).far (p := ⟨gO, 0, none⟩) hXO (.slice A1 (rows.length + j + 1) c1)
        have hbc2 := (hbc.grown hg1 (fun e => (hown.apart hbc (by decide)) e.symm)).far (p := ⟨gO, 0, none⟩) hRO (.slice A1 (rows.length + j + 1) c1)
        have own2 := own1.far (a := ⟨gO, 0, none⟩) (own1.apart hbx1 (by decide)) (.slice A1 (rows.length + j + 1) c1)
        rw [List.append_assoc, show List.replicate j (0 : Int) ++ [0] = List.replicate (j + 1) 0 by rw [List.replicate_succ']] at own2
        have B2 := (Below.app hbel hown (Nat.le_refl _) hg1).st ⟨gO, 0, none⟩ (.slice A1 (rows.length + j + 1) c1) hgO0
        have e1 := hbx.len_
        have e2 := hbx2.len_
        go_roundw
        case rel => exact ⟨j + 1, A1, c1, by omega, hbx2, own2, hbr2, hbc2, B2⟩
        case measure => rw [e1, e2]; omega
      · obtain rfl : j = 8 - rows.length := by omega
        have hl8 : rows.length + (8 - rows.length) = 8 := by omega
        rw [hl8] at hown hbx q1
        change OwnL _ _ _ _ _ _ (pad8 rows) at hown
        rw [pad8_set Hok.out] at hown
        have z0 := hbr.c1
        go_wp2_with fail
        refine (CF _ _ (h.below RE.stays hbel)).mono ?_
        rintro e w3 ⟨AF, cF, rfl, oF, hb3⟩
        have oF := oF.mono hbel.size
        have own3 := hown.below hb3
        have bO3 := hbx.bl hb3
        have bR3 := hbc.bl hb3
        have B3 := hbel.tr hb3
        clear hown hbx hbr hbc hbel q1 q2 z0 hb3 hlt hj hz
        go_wp2_with fail
        obtain ⟨W, hW⟩ : ∃ W, W = w3 := ⟨_, rfl⟩
        rw [← hW] at own3 bO3 bR3 B3 oF ⊢
        clear hW
        go_loopw [5] (fun s5 wr => ∃ (k : Nat) (S : Nat) (A1 : Option Addr) (c1 : Nat), k ≤ F.length ∧ s5 = .int .i64 k ∧ S < U64 ∧ Blk wr gO 30 #[.slice A1 8 c1] ∧ OwnL 3 1 eInt w.heap.size wr (.slice A1 8 c1) (rowsOf S 8) ∧ OwnL 88 3 eDom w.heap.size wr (.slice AF F.length cF) F ∧ Blk wr gR 30 #[.slice none 0 0] ∧ Below w.heap.size w wr ∧ Hid (takeOut S (F.drop k) = T)) (fun i _ => F.length - (intOf i).toNat)
        case atStart => exact ⟨0, setOf rows, _, _, by omega, rfl, Hs.out, bO3, own3, oF, bR3, B3, HT0⟩
        case round =>
          obtain ⟨k, S, A1, c1, hk, rfl, hS, bO, own, oF, bR, B, HT⟩ := hrel
          clear own3 bO3 bR3 B3 HT0
          by_cases hlt : k < F.length
          · obtain ⟨dx, dy, dd, hd⟩ : ∃ dx dy dd, F[k] = (dx, dy, dd) := ⟨_, _, _, rfl⟩
            have hdo : domOk (dx, dy, dd) = true := by have := HFo.out F[k] (List.getElem_mem hlt); rwa [hd] at this
            obtain ⟨gL, oL, rfl, hLb, r0, r1, r2⟩ := (oF.rd lenDom (by decide)).atDom hlt
            rw [hd] at r0 r1 r2
            simp only at r0 r1 r2
            obtain ⟨sx, sy, hsec⟩ : ∃ sx sy, sec (dx, dy, dd) = (sx, sy) := ⟨_, _, rfl⟩
            obtain ⟨hcI, hcJ⟩ := domOk_cells hdo
            rw [hsec] at hcJ
            have HT2 : Hid (takeOut (sWithout (sWithout S (domI (dx, dy, dd))) (domJ (dx, dy, dd))) (F.drop (k + 1)) = T) := Lib.hid (by
              rw [← HT.out, List.drop_eq_getElem_cons hlt, hd, takeOut_cons])
            have hIe : domI (dx, dy, dd) = (cellIx (dx, dy)).toNat := rfl
            have hJe : domJ (dx, dy, dd) = (cellIx (sx, sy)).toNat := by unfold domJ; rw [hsec]
            obtain ⟨S1, hS1⟩ : ∃ q, q = sWithout S (domI (dx, dy, dd)) := ⟨_, rfl⟩
            obtain ⟨S2, hS2⟩ : ∃ q, q = sWithout S1 (domJ (dx, dy, dd)) := ⟨_, rfl⟩
            have hl1 : S1 < U64 := by rw [hS1]; exact sDiff_lt hS
            have hl2 : S2 < U64 := by rw [hS2]; exact sDiff_lt hl1
            have ho1 := rowsOf_ok S 8 (Nat.le_refl _)
            have ho2 := rowsOf_ok S1 8 (Nat.le_refl _)
            have C1 : ∀ (u : Value) (w : World), Rd 1 RInt w u (rowsOf S 8) → Calls Try.prog 100 #[.agg #[u], .agg #[.int .i64 dx, .int .i64 dy], .bool false] w (RetRegB (rowsOf S1 8) true w) := fun u w k1 => by
              have := withCellS_any u (rowsOf S 8) dx dy false w k1 (by rw [rowsOf_len]; unfold Small; decide)
              rw [withOut ho1 hcI, setOf_rowsOf hS, ← hIe, ← hS1] at this; exact this
            have C2 : ∀ (u : Value) (w : World), Rd 1 RInt w u (rowsOf S1 8) → Calls Try.prog 100 #[.agg #[u], .agg #[.int .i64 sx, .int .i64 sy], .bool false] w (RetRegB (rowsOf S2 8) true w) := fun u w k1 => by
              have := withCellS_any u (rowsOf S1 8) sx sy false w k1 (by rw [rowsOf_len]; unfold Small; decide)
              rw [withOut ho2 hcJ, setOf_rowsOf hl1, ← hJe, ← hS2] at this; exact this
            rw [← hS1, ← hS2] at HT2
            have Hsec := Lib.hid hsec; have Hdo := Lib.hid hdo
            have hkI : (k : Int) < F.length := by omega
            obtain ⟨V, hV⟩ : ∃ V, V = wr := ⟨_, rfl⟩
            rw [← hV] at bO own oF bR B r0 r1 r2 hLb ⊢
            clear hV hd hsec hdo hcI hcJ hIe hJe hS1 hS2 ho1 ho2 HT
            go_wp2_with fail
            refine (underS_any dx dy dd _ Hdo.out).mono ?_
            rintro e w4 ⟨rfl, hb4⟩
            rw [Hsec.out]
            go_upto_region 11 with (fail)
            have bO4 := ((bO.bl hb4).alloc (.cells #[.int .i64 dx, .int .i64 dy] 44)).alloc (.cells #[.int .i64 sx, .int .i64 sy] 44)
            have bR4 := ((bR.bl hb4).alloc (.cells #[.int .i64 dx, .int .i64 dy] 44)).alloc (.cells #[.int .i64 sx, .int .i64 sy] 44)
            have bA4 := (Blk.new_ w4 44 #[.int .i64 dx, .int .i64 dy]).alloc (.cells #[.int .i64 sx, .int .i64 sy] 44)
            have bB4 := Blk.new2 (w4.alloc (.cells #[.int .i64 dx, .int .i64 dy] 44)) 44 #[.int .i64 sx, .int .i64 sy] (w4.heap.size + 1) (by simp)
            have oF4 := ((oF.below hb4).alloc (.cells #[.int .i64 dx, .int .i64 dy] 44)).alloc (.cells #[.int .i64 sx, .int .i64 sy] 44)
            have own4 := ((own.below hb4).alloc (.cells #[.int .i64 dx, .int .i64 dy] 44)).alloc (.cells #[.int .i64 sx, .int .i64 sy] 44)
            have B4 := ((B.tr hb4).al (.cells #[.int .i64 dx, .int .i64 dy] 44)).al (.cells #[.int .i64 sx, .int .i64 sy] 44)
            have hOl := (bO.bl hb4).lt
            have hRl4 := (bR.bl hb4).lt
            obtain ⟨U, hU⟩ : ∃ U, U = (w4.alloc (.cells #[.int .i64 dx, .int .i64 dy] 44)).alloc (.cells #[.int .i64 sx, .int .i64 sy] 44) := ⟨_, rfl⟩
            obtain ⟨gB, hgB⟩ : ∃ g, g = w4.heap.size + 1 := ⟨_, rfl⟩
            obtain ⟨gA, hgA⟩ : ∃ g, g = w4.heap.size := ⟨_, rfl⟩
            rw [← hU] at bO4 bR4 bA4 bB4 own4 B4 oF4 ⊢
            rw [← hgB] at bB4 ⊢
            rw [← hgA] at bA4 ⊢
            have hOA : gO ≠ gA := by omega
            have hOB : gO ≠ gB := by omega
            have hAO := hOA.symm
            have hBO := hOB.symm
            clear hU hgB hgA r0 r1 r2 hb4 bO own bR B oF
            have z_0 := bO4.c1
            have a_0 := bA4.cell 0
            have a_1 := bA4.cell 1
            simp only [List.getElem?_toArray, List.getElem?_cons_zero, List.getElem?_cons_succ] at a_0 a_1
            go_wp2_with fail
            refine (C1 _ _ (own4.rd lenInt (by decide))).mono ?_
            rintro e w5 ⟨E1, e1, rfl, own5, hb5⟩
            rw [rowsOf_len] at own5 ⊢
            have own5 := (own5.mono B4.size).far (a := ⟨gO, 0, none⟩) ((own5.mono B4.size).apart (bO4.bl hb5) (by decide)) (.slice E1 8 e1)
            have fO := fun j => (bO4.bl hb5).frozen j
            have zO := (bO4.bl hb5).c1
            have bO5 := (bO4.bl hb5).set1 (.slice E1 8 e1)
            have bR5 := (bR4.bl hb5).far (p := ⟨gO, 0, none⟩) hRO (.slice E1 8 e1)
            have bB5 := (bB4.bl hb5).far (p := ⟨gO, 0, none⟩) hBO (.slice E1 8 e1)
            have oF5 := (oF4.below hb5).far (a := ⟨gO, 0, none⟩) ((oF4.below hb5).apart (bO4.bl hb5) (by decide)) (.slice E1 8 e1)
            have B5 := (B4.tr hb5).st ⟨gO, 0, none⟩ (.slice E1 8 e1) hgO0
            clear z_0 a_0 a_1
            have z_0 := bO5.c1
            have b_0 := bB5.cell 0
            have b_1 := bB5.cell 1
            simp only [List.getElem?_toArray, List.getElem?_cons_zero, List.getElem?_cons_succ] at b_0 b_1
            go_wp2_with fail
            refine (C2 _ _ (own5.rd (l := rowsOf S1 8) lenInt (by decide))).mono ?_
            rintro e w6 ⟨E2, e2, rfl, own6, hb6⟩
            rw [rowsOf_len] at own6 ⊢
            have own6 := (own6.mono B5.size).far (a := ⟨gO, 0, none⟩) ((own6.mono B5.size).apart (bO5.bl hb6) (by decide)) (.slice E2 8 e2)
            have fO6 := fun j => (bO5.bl hb6).frozen j
            have zO6 := (bO5.bl hb6).c1
            have bO6 := (bO5.bl hb6).set1 (.slice E2 8 e2)
            have bR6 := (bR5.bl hb6).far (p := ⟨gO, 0, none⟩) hRO (.slice E2 8 e2)
            have oF6 := (oF5.below hb6).far (a := ⟨gO, 0, none⟩) ((oF5.below hb6).apart (bO5.bl hb6) (by decide)) (.slice E2 8 e2)
            have B6 := (B5.tr hb6).st ⟨gO, 0, none⟩ (.slice E2 8 e2) hgO0
            go_wp2
            go_roundw
            case rel => exact ⟨k + 1, S2, E2, e2, by omega, by go_num, hl2, bO6, own6, oF6, bR6, B6, HT2⟩
            case measure => simp [intOf]; omega
          · obtain rfl : k = F.length := by omega
            have hST : S = T := by rw [← HT.out, List.drop_of_length_le (Nat.le_refl _)]; rfl
            subst hST
            have z0 := bO.c1
            have z1 := bR.c1
            have fR := fun j => bR.frozen j
            have hgg := hgR
            have oE := own.far (a := ⟨gR, 0, none⟩) (own.apart bR (by decide)) (.slice A1 8 c1)
            have BE := B.st ⟨gR, 0, none⟩ (.slice A1 8 c1) hgR
            have bE := bR.set1 (.slice A1 8 c1)
            have q0 := bE.c1
            clear HT
            go_wp2
            exact bodyPost_ret (v := .agg #[.slice A1 8 c1]) (by simp [results, Try.results37, go_sem, q0]) rfl ⟨A1, c1, by rw [rowsOf_len], by rw [rowsOf_len]; exact oE, BE⟩
end Go.Proofs.Ytnlljkdfapllpaa
