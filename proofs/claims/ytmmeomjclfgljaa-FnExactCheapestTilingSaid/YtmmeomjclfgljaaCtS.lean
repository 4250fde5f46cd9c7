/- The cheapest tiling, by the reference: the walk. No conditions. -/
import Derived.Test.YtmmeomjclfgljaaListS
namespace Go.Proofs.Ytmmeomjclfgljaa
open Go.ChangeShapes Go.WideShapes Go.ChangeAt Go.RowKit
set_option linter.unusedVariables false
set_option linter.unusedSimpArgs false

abbrev oCtS0 : Oper := { dst := some 28, op := Go.Op.load 47 (Go.Operand.tmp 2), type := 47, pos := "l34_cost.go:92", after := #[], guard := none }
abbrev oCtS1 : Oper := { dst := some 29, op := Go.Op.move (Go.Operand.tmp 7), type := 56, pos := "l34_cost.go:92", after := #[], guard := none }
abbrev oCtS2 : Oper := { dst := some 30, op := Go.Op.move (Go.Operand.tmp 9), type := 3, pos := "l34_cost.go:92", after := #[], guard := none }
abbrev oCtS3 : Oper := { dst := some 31, op := Go.Op.indexAddr 56 (Go.Operand.tmp 29) (Go.Operand.tmp 30), type := 0, pos := "l34_cost.go:92", after := #[{ on := 1, ground := Go.Ground.data }, { on := 2, ground := Go.Ground.data }], guard := none }
abbrev oCtS4 : Oper := { dst := some 32, op := Go.Op.load 27 (Go.Operand.tmp 31), type := 27, pos := "l34_cost.go:92", after := #[{ on := 3, ground := Go.Ground.data }], guard := none }
abbrev oCtS5 : Oper := { dst := some 34, op := Go.Op.load 47 (Go.Operand.tmp 2), type := 47, pos := "l34_cost.go:92", after := #[], guard := none }
abbrev oCtS6 : Oper := { dst := some 35, op := Go.Op.move (Go.Operand.tmp 7), type := 56, pos := "l34_cost.go:92", after := #[], guard := none }
abbrev oCtS7 : Oper := { dst := some 36, op := Go.Op.move (Go.Operand.tmp 8), type := 3, pos := "l34_cost.go:92", after := #[], guard := none }
abbrev oCtS8 : Oper := { dst := some 37, op := Go.Op.indexAddr 56 (Go.Operand.tmp 35) (Go.Operand.tmp 36), type := 0, pos := "l34_cost.go:92", after := #[{ on := 7, ground := Go.Ground.data }, { on := 8, ground := Go.Ground.data }], guard := none }
abbrev oCtS9 : Oper := { dst := some 38, op := Go.Op.load 27 (Go.Operand.tmp 37), type := 27, pos := "l34_cost.go:92", after := #[{ on := 9, ground := Go.Ground.data }], guard := none }
abbrev oCtS10 : Oper := { dst := some 33, op := Go.Op.call { callee := Go.Callee.value (Go.Operand.func 63), args := #[Go.Operand.tmp 28, Go.Operand.tmp 32], argTypes := #[47, 27] }, type := 3, pos := "l34_cost.go:92", after := #[{ on := 0, ground := Go.Ground.data }, { on := 4, ground := Go.Ground.data }], guard := none }
abbrev oCtS11 : Oper := { dst := some 39, op := Go.Op.call { callee := Go.Callee.value (Go.Operand.func 63), args := #[Go.Operand.tmp 34, Go.Operand.tmp 38], argTypes := #[47, 27] }, type := 3, pos := "l34_cost.go:92", after := #[{ on := 6, ground := Go.Ground.data }, { on := 10, ground := Go.Ground.data }, { on := 5, ground := Go.Ground.chain }], guard := none }
abbrev oCtS12 : Oper := { dst := some 40, op := Go.Op.binOp Go.BinOp.lss 3 (Go.Operand.tmp 33) (Go.Operand.tmp 39) 3, type := 4, pos := "l34_cost.go:92", after := #[{ on := 5, ground := Go.Ground.data }, { on := 11, ground := Go.Ground.data }], guard := none }
set_option maxHeartbeats 4000000 in
set_option maxRecDepth 100000 in
theorem ctS_any (p : Pr) (v : Value) (rows : List Int) (w : World) (h : Rd 1 RInt w v rows) : Calls Try.prog 19 #[aPr p, .agg #[v]] w (RetTB (cheapT p rows) (cheapB p rows) w) := by
  obtain ⟨A, c, rfl, hc, hm⟩ := h.form
  obtain ⟨pa, pb, pc, pd⟩ := p
  obtain ⟨T, hT⟩ : ∃ T, T = cheapT (pa, pb, pc, pd) rows := ⟨_, rfl⟩
  obtain ⟨bb, hbb⟩ : ∃ bb, bb = cheapB (pa, pb, pc, pd) rows := ⟨_, rfl⟩
  rw [← hT, ← hbb]
  unfold cheapT at hT
  unfold cheapB at hbb
  obtain ⟨ok, hok⟩ : ∃ ok, ok = pricesOk (pa, pb, pc, pd) := ⟨_, rfl⟩
  have CP : ∀ (w : World), Calls Try.prog 62 #[.agg #[.int .i64 pa, .int .i64 pb, .int .i64 pc, .int .i64 pd]] w (Ret (.bool ok) w) := fun w => by rw [hok]; exact pricesOkS_any pa pb pc pd w
  obtain ⟨L, hL⟩ : ∃ L, L = listRows rows := ⟨_, rfl⟩
  have CL : ∀ (u : Value) (w : World), Rd 1 RInt w u rows → Calls Try.prog 29 #[.agg #[u]] w (RetLL L w) := fun u w k1 => by rw [hL]; exact listTilS_any u rows w k1
  have hLn : ∀ t ∈ L, t.length ≤ 64 := fun t ht => list_mem_len (hL ▸ ht)
  rw [← hL, ← hok] at hT hbb
  have hN : (L.length = 0 ∨ ok = false) → T = [] ∧ bb = false := fun q => by
    rcases q with q | q
    · rw [q] at hT hbb; simp at hT hbb; exact ⟨hT, hbb⟩
    · rw [q] at hT hbb; simp at hT hbb; exact ⟨hT, hbb⟩
  have hY : ∀ (hp : 0 < L.length), ok = true → bb = true ∧ ctGo (floorPrice (pa, pb, pc, pd)) L[0] (L.drop 0) = T := fun hp q => by
    have h1 : decide (L.length ≠ 0) = true := decide_eq_true (by omega)
    rw [q, h1] at hT hbb
    refine ⟨hbb, ?_⟩
    rw [hT, Bool.and_self, if_pos rfl]
    unfold ctOf
    rw [List.drop_zero]
    congr 1
    cases L with
    | nil => simp at hp
    | cons a l => rfl
  have hL300 : L.length ≤ 300 := by rw [hL]; exact list_len rows
  have HN := Lib.hid hN; have HY := Lib.hid hY; have HLn := Lib.hid hLn
  clear hT hbb hok hL hN hY hLn
  have hA := (((Below.refl w.heap.size w).al (.cells #[.int .i64 pa, .int .i64 pb, .int .i64 pc, .int .i64 pd] 47)).al (.cells #[.slice A rows.length c] 26)).al (.cells #[] 66)
  have bP := ((Blk.new_ w 47 #[.int .i64 pa, .int .i64 pb, .int .i64 pc, .int .i64 pd]).alloc (.cells #[.slice A rows.length c] 26)).alloc (.cells #[] 66)
  have oE : OwnL 66 3 eDom w.heap.size (((w.alloc (.cells #[.int .i64 pa, .int .i64 pb, .int .i64 pc, .int .i64 pd] 47)).alloc (.cells #[.slice A rows.length c] 26)).alloc (.cells #[] 66)) (.slice (some ⟨w.heap.size + 1 + 1, 0, none⟩) ([] : List Dm).length 0) [] := by
    have := (own_empty ((w.alloc (.cells #[.int .i64 pa, .int .i64 pb, .int .i64 pc, .int .i64 pd] 47)).alloc (.cells #[.slice A rows.length c] 26)) (E := 66) (size := 3) (enc := eDom)).mono (show w.heap.size ≤ _ by simp; omega)
    simpa using this
  go_enter Try.func19, Try.ntmps19
  go_wp2_with fail
  refine (CL _ _ (h.below RE.stays hA)).mono ?_
  rintro e w1 ⟨AL, cL, rfl, oL, hb1⟩
  have oL := oL.mono hA.size
  have B1 := hA.tr hb1
  have bP1 := bP.bl hb1
  have oE1 := oE.below hb1
  have p_0 := bP1.cell 0
  have p_1 := bP1.cell 1
  have p_2 := bP1.cell 2
  have p_3 := bP1.cell 3
  simp only [List.getElem?_toArray, List.getElem?_cons_zero, List.getElem?_cons_succ] at p_0 p_1 p_2 p_3
  go_wp2_with fail
  refine (CP _).mono ?_
  rintro e w2 ⟨rfl, hb2⟩
  have oL2 := oL.below hb2
  have B2 := B1.tr hb2
  have bP2 := bP1.bl hb2
  have oE2 := oE1.below hb2
  clear oL hb1 hb2 hA bP bP1 p_0 p_1 p_2 p_3 B1 oE oE1
  cases ok
  · obtain ⟨rfl, rfl⟩ := HN.out (.inr rfl)
    clear HY
    go_wp2
    go_ret2
    exact ⟨_, _, rfl, oE2, B2⟩
  · by_cases h0 : L.length = 0
    · have h0B : ((L.length : Int) == 0) = true := by rw [h0]; rfl
      obtain ⟨rfl, rfl⟩ := HN.out (.inl h0)
      clear HY
      go_wp2
      go_ret2
      exact ⟨_, _, rfl, oE2, B2⟩
    · have h0B : ((L.length : Int) == 0) = false := by rw [beq_eq_false_iff_ne]; omega
      have hp : 0 < L.length := by omega
      obtain ⟨rfl, hR0⟩ := HY.out hp rfl
      have HR0 : Hid (∃ hj : 0 < L.length, ctGo (floorPrice (pa, pb, pc, pd)) L[0] (L.drop 0) = T) := Lib.hid ⟨hp, hR0⟩
      clear HY HN hR0 oE2
      obtain ⟨us, u1, u2, u3⟩ := oL2
      obtain ⟨g, rfl, hg1, hg2⟩ := u1.split (k := 0) (by omega)
      have oL2 : OwnLL 27 66 3 eDom w.heap.size w2 (.slice (some ⟨g, 0, none⟩) L.length cL) L := ⟨us, u1, u2, u3⟩
      go_wp2_with fail
      go_loopw [8, 9] (fun s8 s9 wr => ∃ (k j : Nat), k ≤ L.length ∧ s9 = .int .i64 k ∧ s8 = .int .i64 j ∧ OwnLL 27 66 3 eDom w.heap.size wr (.slice (some ⟨g, 0, none⟩) L.length cL) L ∧ Below w.heap.size w wr ∧ Blk wr w.heap.size 47 #[.int .i64 pa, .int .i64 pb, .int .i64 pc, .int .i64 pd] ∧ Hid (∃ hj : j < L.length, ctGo (floorPrice (pa, pb, pc, pd)) L[j] (L.drop k) = T)) (fun _ i _ => L.length - (intOf i).toNat)
      case atStart => exact ⟨0, 0, by omega, rfl, rfl, oL2, B2, bP2, HR0⟩
      case round =>
        obtain ⟨k, j, hk, rfl, rfl, oL3, B3, bP3, HR⟩ := hrel
        clear oL2 B2 bP2 HR0 u1 u2 u3
        obtain ⟨hj, hr⟩ := HR.out
        obtain ⟨gj, D, d, ej, hgj3, hgj4, zj, oj⟩ := oL3.pick hj
        injection ej with ej; injection ej with ej; subst ej
        have hjI : (j : Int) < (L.length : Int) := by omega
        have hbl := HLn.out _ (List.getElem_mem hj)
        by_cases hlt : k < L.length
        · obtain ⟨g', D1, d1, e, hg3, hg4, z1, o1⟩ := oL3.pick hlt
          injection e with e; injection e with e; subst e
          have ht := HLn.out _ (List.getElem_mem hlt)
          rw [ctGo_drop _ _ hlt] at hr
          obtain ⟨t, hte⟩ : ∃ t, t = L[k] := ⟨_, rfl⟩
          obtain ⟨b, hbe⟩ : ∃ b, b = L[j] := ⟨_, rfl⟩
          rw [← hte] at z1 o1 ht hr
          rw [← hbe] at zj oj hbl hr
          have hltI : (k : Int) < (L.length : Int) := by omega
          obtain ⟨n1, hn1⟩ : ∃ n, n = floorPrice (pa, pb, pc, pd) t := ⟨_, rfl⟩
          obtain ⟨n2, hn2⟩ : ∃ n, n = floorPrice (pa, pb, pc, pd) b := ⟨_, rfl⟩
          rw [← hn1, ← hn2] at hr
          have HR4 := Lib.hid hr
          have Hte := Lib.hid hte; have Hbe := Lib.hid hbe
          clear hr HR hte hbe
          have p_0 := bP3.cell 0
          have p_1 := bP3.cell 1
          have p_2 := bP3.cell 2
          have p_3 := bP3.cell 3
          simp only [List.getElem?_toArray, List.getElem?_cons_zero, List.getElem?_cons_succ] at p_0 p_1 p_2 p_3
          have hPl := bP3.lt
          have CF : ∀ (v : Value) (w' : World) (m : Int), ((v = .slice D1 t.length d1 ∧ m = n1) ∨ (v = .slice D b.length d ∧ m = n2)) → Below wr.heap.size wr w' → Calls Try.prog 63 #[.agg #[.int .i64 pa, .int .i64 pb, .int .i64 pc, .int .i64 pd], v] w' (Ret (.int .i64 m) w') := fun v w' m hv hb => by
            rcases hv with ⟨rfl, rfl⟩ | ⟨rfl, rfl⟩
            · rw [hn1]; exact floorPriceS_any (pa, pb, pc, pd) _ t w' ((o1.below hb).rd lenDom (by decide)) (by omega)
            · rw [hn2]; exact floorPriceS_any (pa, pb, pc, pd) _ b w' ((oj.below hb).rd lenDom (by decide)) (by omega)
          have HCF := Lib.hid CF
          clear CF hn1 hn2
          go_upto_region 9 with (fail)
          obtain ⟨W, hW⟩ : ∃ W, W = wr := ⟨_, rfl⟩
          rw [← hW] at oj oL3 B3 bP3 z1 zj o1 p_0 p_1 p_2 p_3 hPl HCF hgj4 hg4 ⊢
          clear hW
          have Bw : Below W.heap.size W W.drew := (Below.refl _ _).drew
          have hz : W.heap.size ≤ W.drew.heap.size := by simp
          refine wp_region_held_drew (S := (fun w' => w'.cell? ⟨w.heap.size, 0, none⟩ = some (.int .i64 pa) ∧ w'.cell? ⟨w.heap.size, 1, none⟩ = some (.int .i64 pb) ∧ w'.cell? ⟨w.heap.size, 2, none⟩ = some (.int .i64 pc) ∧ w'.cell? ⟨w.heap.size, 3, none⟩ = some (.int .i64 pd) ∧ w'.cell? ⟨g, k, none⟩ = some (.slice D1 t.length d1) ∧ w'.cell? ⟨g, j, none⟩ = some (.slice D b.length d))) (by kernel_rfl) ?_ (fun hHeld => ?_)
          · (try dsimp only); (try go_keep)
          refine tk 0 oCtS0 rfl (by kernel_rfl) (v := ?_) (fun _ _ _ h => h) (Or.inl ⟨by rfl, ?_⟩) (by assumption) ?_
          rotate_left 1
          · (intro wS hSw; (try dsimp only at hSw); dsimp only [oCtS0]; go_simp; (all_goals with_reducible rfl))
          simp only [oCtS0, putL, List.set]
          refine tk 1 oCtS1 rfl (by kernel_rfl) (v := ?_) (fun _ _ _ h => h) (Or.inl ⟨by rfl, ?_⟩) (by assumption) ?_
          rotate_left 1
          · (intro wS hSw; (try dsimp only at hSw); dsimp only [oCtS1]; go_simp; (all_goals with_reducible rfl))
          simp only [oCtS1, putL, List.set]
          refine tk 2 oCtS2 rfl (by kernel_rfl) (v := ?_) (fun _ _ _ h => h) (Or.inl ⟨by rfl, ?_⟩) (by assumption) ?_
          rotate_left 1
          · (intro wS hSw; (try dsimp only at hSw); dsimp only [oCtS2]; go_simp; (all_goals with_reducible rfl))
          simp only [oCtS2, putL, List.set]
          refine tk 3 oCtS3 rfl (by kernel_rfl) (v := ?_) (fun _ _ _ h => h) (Or.inl ⟨by rfl, ?_⟩) (by assumption) ?_
          rotate_left 1
          · (intro wS hSw; (try dsimp only at hSw); dsimp only [oCtS3]; go_simp; (all_goals with_reducible rfl))
          simp only [oCtS3, putL, List.set]
          refine tk 4 oCtS4 rfl (by kernel_rfl) (v := ?_) (fun _ _ _ h => h) (Or.inl ⟨by rfl, ?_⟩) (by assumption) ?_
          rotate_left 1
          · (intro wS hSw; (try dsimp only at hSw); dsimp only [oCtS4]; go_simp; (all_goals with_reducible rfl))
          simp only [oCtS4, putL, List.set]
          refine tk 6 oCtS5 rfl (by kernel_rfl) (v := ?_) (fun _ _ _ h => h) (Or.inl ⟨by rfl, ?_⟩) (by assumption) ?_
          rotate_left 1
          · (intro wS hSw; (try dsimp only at hSw); dsimp only [oCtS5]; go_simp; (all_goals with_reducible rfl))
          simp only [oCtS5, putL, List.set]
          refine tk 7 oCtS6 rfl (by kernel_rfl) (v := ?_) (fun _ _ _ h => h) (Or.inl ⟨by rfl, ?_⟩) (by assumption) ?_
          rotate_left 1
          · (intro wS hSw; (try dsimp only at hSw); dsimp only [oCtS6]; go_simp; (all_goals with_reducible rfl))
          simp only [oCtS6, putL, List.set]
          refine tk 8 oCtS7 rfl (by kernel_rfl) (v := ?_) (fun _ _ _ h => h) (Or.inl ⟨by rfl, ?_⟩) (by assumption) ?_
          rotate_left 1
          · (intro wS hSw; (try dsimp only at hSw); dsimp only [oCtS7]; go_simp; (all_goals with_reducible rfl))
          simp only [oCtS7, putL, List.set]
          refine tk 9 oCtS8 rfl (by kernel_rfl) (v := ?_) (fun _ _ _ h => h) (Or.inl ⟨by rfl, ?_⟩) (by assumption) ?_
          rotate_left 1
          · (intro wS hSw; (try dsimp only at hSw); dsimp only [oCtS8]; go_simp; (all_goals with_reducible rfl))
          simp only [oCtS8, putL, List.set]
          refine tk 10 oCtS9 rfl (by kernel_rfl) (v := ?_) (fun _ _ _ h => h) (Or.inl ⟨by rfl, ?_⟩) (by assumption) ?_
          rotate_left 1
          · (intro wS hSw; (try dsimp only at hSw); dsimp only [oCtS9]; go_simp; (all_goals with_reducible rfl))
          simp only [oCtS9, putL, List.set]
          refine wpAnyH_ready (rs := [5]) (by kernel_rfl) (by simp) ?_
          refine AllReadyH.cons (o := oCtS10) rfl (fun K hK => ?_) AllReadyH.nil
          dsimp only [oCtS10]
          (go_simp; go_at_call 63; go_must (refine (HCF.out _ _ n1 (.inl ⟨rfl, rfl⟩) Bw).mono ?_; rintro e wX ⟨rfl, hbX⟩; obtain ⟨hcX, hfX, hzX⟩ := bkn hbX W.heap.size hz; have hz := hzX; have Bw := Bw.tr hbX))
          refine hK.out _ _ ?_ (fun hHeld => ?_)
          · (try dsimp only); (try go_keep)
          clear hK K
          (try simp only [Act.put, List.setIfInBounds_toArray, List.set_cons_zero, List.set_cons_succ])
          refine wpAnyH_ready (rs := [11]) (by kernel_rfl) (by simp) ?_
          refine AllReadyH.cons (o := oCtS11) rfl (fun K hK => ?_) AllReadyH.nil
          dsimp only [oCtS11]
          (go_simp; go_at_call 63; go_must (refine (HCF.out _ _ n2 (.inr ⟨rfl, rfl⟩) Bw).mono ?_; rintro e wX ⟨rfl, hbX⟩; obtain ⟨hcX, hfX, hzX⟩ := bkn hbX W.heap.size hz; have hz := hzX; have Bw := Bw.tr hbX))
          refine hK.out _ _ ?_ (fun hHeld => ?_)
          · (try dsimp only); (try go_keep)
          clear hK K
          (try simp only [Act.put, List.setIfInBounds_toArray, List.set_cons_zero, List.set_cons_succ])
          refine tk 12 oCtS12 rfl (by kernel_rfl) (v := ?_) (fun _ _ _ h => h) (Or.inl ⟨by rfl, ?_⟩) (by assumption) ?_
          rotate_left 1
          · (intro wS hSw; (try dsimp only at hSw); dsimp only [oCtS12]; go_simp; (all_goals with_reducible rfl))
          simp only [oCtS12, putL, List.set]
          refine wpAnyH_done (by kernel_rfl) ?_ _
          all_goals
            have hr := HR4.out
            have oL4 := oL3.below Bw
            have B4 := B3.tr Bw
            have bP4 := bP3.bl Bw
            by_cases hc : n1 < n2
            · rw [if_pos hc, Hte.out] at hr
              have Hr : Hid (∃ hj : k < L.length, ctGo (floorPrice (pa, pb, pc, pd)) L[k] (L.drop (k + 1)) = T) := Lib.hid ⟨hlt, hr⟩
              clear hr
              go_wp2
              go_roundw
              case rel => exact ⟨k + 1, k, by omega, by go_num, rfl, oL4, B4, bP4, Hr⟩
              case measure => simp [intOf]; omega
            · rw [if_neg hc, Hbe.out] at hr
              have Hr : Hid (∃ hj : j < L.length, ctGo (floorPrice (pa, pb, pc, pd)) L[j] (L.drop (k + 1)) = T) := Lib.hid ⟨hj, hr⟩
              clear hr
              go_wp2
              go_roundw
              case rel => exact ⟨k + 1, j, by omega, by go_num, rfl, oL4, B4, bP4, Hr⟩
              case measure => simp [intOf]; omega
        · obtain rfl : k = L.length := by omega
          rw [List.drop_of_length_le (Nat.le_refl _)] at hr
          have hr' : L[j] = T := hr
          subst hr'
          clear HR hr
          go_wp2
          go_ret2
          exact ⟨D, d, rfl, oj, B3⟩
end Go.Proofs.Ytmmeomjclfgljaa
