/- The cheapest tiling, by the program: the walk. No conditions. -/
import Derived.Test.YtmmeomjclfgljaaListI
namespace Go.Proofs.Ytmmeomjclfgljaa
open Go.ChangeShapes Go.WideShapes Go.ChangeAt Go.RowKit
set_option linter.unusedVariables false
set_option linter.unusedSimpArgs false

abbrev oCtI0 : Oper := { dst := some 29, op := Go.Op.load 47 (Go.Operand.tmp 2), type := 47, pos := "l34_cost.go:61", after := #[], guard := none }
abbrev oCtI1 : Oper := { dst := some 30, op := Go.Op.move (Go.Operand.tmp 9), type := 27, pos := "l34_cost.go:61", after := #[], guard := none }
abbrev oCtI2 : Oper := { dst := some 32, op := Go.Op.load 47 (Go.Operand.tmp 2), type := 47, pos := "l34_cost.go:61", after := #[], guard := none }
abbrev oCtI3 : Oper := { dst := some 33, op := Go.Op.move (Go.Operand.tmp 7), type := 27, pos := "l34_cost.go:61", after := #[], guard := none }
abbrev oCtI4 : Oper := { dst := some 31, op := Go.Op.call { callee := Go.Callee.value (Go.Operand.func 45), args := #[Go.Operand.tmp 29, Go.Operand.tmp 30], argTypes := #[47, 27] }, type := 3, pos := "l34_cost.go:61", after := #[{ on := 0, ground := Go.Ground.data }, { on := 1, ground := Go.Ground.data }], guard := none }
abbrev oCtI5 : Oper := { dst := some 34, op := Go.Op.call { callee := Go.Callee.value (Go.Operand.func 45), args := #[Go.Operand.tmp 32, Go.Operand.tmp 33], argTypes := #[47, 27] }, type := 3, pos := "l34_cost.go:61", after := #[{ on := 3, ground := Go.Ground.data }, { on := 4, ground := Go.Ground.data }, { on := 2, ground := Go.Ground.chain }], guard := none }
abbrev oCtI6 : Oper := { dst := some 35, op := Go.Op.binOp Go.BinOp.lss 3 (Go.Operand.tmp 31) (Go.Operand.tmp 34) 3, type := 4, pos := "l34_cost.go:61", after := #[{ on := 2, ground := Go.Ground.data }, { on := 5, ground := Go.Ground.data }], guard := none }
set_option maxHeartbeats 4000000 in
set_option maxRecDepth 100000 in
theorem ctI_any (p : Pr) (v : Value) (rows : List Int) (w : World) (h : Rd 1 RInt w v rows) : Calls Try.prog 21 #[aPr p, .agg #[v]] w (RetTB (cheapT p rows) (cheapB p rows) w) := by
  obtain ⟨A, c, rfl, hc, hm⟩ := h.form
  obtain ⟨pa, pb, pc, pd⟩ := p
  obtain ⟨T, hT⟩ : ∃ T, T = cheapT (pa, pb, pc, pd) rows := ⟨_, rfl⟩
  obtain ⟨bb, hbb⟩ : ∃ bb, bb = cheapB (pa, pb, pc, pd) rows := ⟨_, rfl⟩
  rw [← hT, ← hbb]
  unfold cheapT at hT
  unfold cheapB at hbb
  obtain ⟨ok, hok⟩ : ∃ ok, ok = pricesOk (pa, pb, pc, pd) := ⟨_, rfl⟩
  have CP : ∀ (w : World), Calls Try.prog 46 #[.agg #[.int .i64 pa, .int .i64 pb, .int .i64 pc, .int .i64 pd]] w (Ret (.bool ok) w) := fun w => by rw [hok]; exact pricesOkI_any pa pb pc pd w
  obtain ⟨L, hL⟩ : ∃ L, L = listRows rows := ⟨_, rfl⟩
  have CL : ∀ (u : Value) (w : World), Rd 1 RInt w u rows → Calls Try.prog 64 #[.agg #[u]] w (RetLL L w) := fun u w k1 => by rw [hL]; exact listI_any u rows w k1
  have hLn : ∀ t ∈ L, t.length ≤ 64 := fun t ht => list_mem_len (hL ▸ ht)
  rw [← hL, ← hok] at hT hbb
  have hN : (L.length = 0 ∨ ok = false) → T = [] ∧ bb = false := fun q => by
    rcases q with q | q
    · rw [q] at hT hbb; simp at hT hbb; exact ⟨hT, hbb⟩
    · rw [q] at hT hbb; simp at hT hbb; exact ⟨hT, hbb⟩
  have hY : ∀ (hp : 0 < L.length), ok = true → bb = true ∧ ctGo (floorPrice (pa, pb, pc, pd)) L[0] (L.drop 0) = T := fun hp q => by
    have h1 : decide (L.length ≠ 0) = true := decide_eq_true (by omega)
    rw [q, h1] at hT hbb
    refine ⟨hbb, ?_⟩
    rw [hT, Bool.and_self, if_pos rfl]
    unfold ctOf
    rw [List.drop_zero]
    congr 1
    cases L with
    | nil => simp at hp
    | cons a l => rfl
  have hL300 : L.length ≤ 300 := by rw [hL]; exact list_len rows
  have HN := Lib.hid hN; have HY := Lib.hid hY; have HLn := Lib.hid hLn
  clear hT hbb hok hL hN hY hLn
  have hA := ((Below.refl w.heap.size w).al (.cells #[.int .i64 pa, .int .i64 pb, .int .i64 pc, .int .i64 pd] 47)).al (.cells #[.slice A rows.length c] 26)
  have bP := (Blk.new_ w 47 #[.int .i64 pa, .int .i64 pb, .int .i64 pc, .int .i64 pd]).alloc (.cells #[.slice A rows.length c] 26)
  have bX := Blk.new2 (w.alloc (.cells #[.int .i64 pa, .int .i64 pb, .int .i64 pc, .int .i64 pd] 47)) 26 #[.slice A rows.length c] (w.heap.size + 1) (by simp)
  go_enter Try.func21, Try.ntmps21
  go_wp2_with fail
  refine (CL _ _ (h.below RE.stays hA)).mono ?_
  rintro e w1 ⟨AL, cL, rfl, oL, hb1⟩
  have oL := oL.mono hA.size
  have B1 := hA.tr hb1
  have bP1 := bP.bl hb1
  have p_0 := bP1.cell 0
  have p_1 := bP1.cell 1
  have p_2 := bP1.cell 2
  have p_3 := bP1.cell 3
  simp only [List.getElem?_toArray, List.getElem?_cons_zero, List.getElem?_cons_succ] at p_0 p_1 p_2 p_3
  by_cases h0 : L.length = 0
  · have h0B : ((L.length : Int) == 0) = true := by rw [h0]; rfl
    obtain ⟨rfl, rfl⟩ := HN.out (.inl h0)
    clear HY
    go_wp2
    go_ret2
    exact ⟨none, 0, rfl, OwnL.nil_, B1⟩
  · have h0B : ((L.length : Int) == 0) = false := by rw [beq_eq_false_iff_ne]; omega
    go_wp2_with fail
    refine (CP _).mono ?_
    rintro e w2 ⟨rfl, hb2⟩
    have oL2 := oL.below hb2
    have B2 := B1.tr hb2
    have bP2 := bP1.bl hb2
    clear oL hb1 hb2 hA bX bP bP1 p_0 p_1 p_2 p_3 B1
    cases ok
    · obtain ⟨rfl, rfl⟩ := HN.out (.inr rfl)
      clear HY
      go_wp2
      go_ret2
      exact ⟨none, 0, rfl, OwnL.nil_, B2⟩
    · have hp : 0 < L.length := by omega
      obtain ⟨rfl, hR0⟩ := HY.out hp rfl
      have HR0 := Lib.hid hR0
      clear HY HN hR0
      obtain ⟨g, D0, d0, rfl, hg1, hg2, z0, o0⟩ := oL2.pick hp
      have hpI : (0 : Int) < (L.length : Int) := by omega
      go_wp2_with fail
      go_loopw [7, 25] (fun s7 s25 wr => ∃ (k : Nat) (b : List Dm) (D : Option Addr) (d : Nat), k ≤ L.length ∧ s25 = .int .i64 k ∧ s7 = .slice D b.length d ∧ OwnL 66 3 eDom w.heap.size wr (.slice D b.length d) b ∧ OwnLL 27 66 3 eDom w.heap.size wr (.slice (some ⟨g, 0, none⟩) L.length cL) L ∧ Below w.heap.size w wr ∧ Blk wr w.heap.size 47 #[.int .i64 pa, .int .i64 pb, .int .i64 pc, .int .i64 pd] ∧ b.length ≤ 64 ∧ Hid (ctGo (floorPrice (pa, pb, pc, pd)) b (L.drop k) = T)) (fun _ i _ => L.length - (intOf i).toNat)
      case atStart => exact ⟨0, L[0], _, _, by omega, rfl, rfl, o0, oL2, B2, bP2, HLn.out _ (List.getElem_mem hp), HR0⟩
      case round =>
        obtain ⟨k, b, D, d, hk, rfl, rfl, ob, oL3, B3, bP3, hbl, HR⟩ := hrel
        clear o0 oL2 B2 bP2 HR0 z0
        by_cases hlt : k < L.length
        · obtain ⟨g', D1, d1, e, hg3, hg4, z1, o1⟩ := oL3.pick hlt
          injection e with e; injection e with e; subst e
          have ht := HLn.out _ (List.getElem_mem hlt)
          have hr := HR.out
          rw [ctGo_drop _ _ hlt] at hr
          obtain ⟨t, hte⟩ : ∃ t, t = L[k] := ⟨_, rfl⟩
          rw [← hte] at z1 o1 ht hr
          have hltI : (k : Int) < (L.length : Int) := by omega
          have HR2 := Lib.hid hr
          clear hr HR hte
          have p_0 := bP3.cell 0
          have p_1 := bP3.cell 1
          have p_2 := bP3.cell 2
          have p_3 := bP3.cell 3
          simp only [List.getElem?_toArray, List.getElem?_cons_zero, List.getElem?_cons_succ] at p_0 p_1 p_2 p_3
          have hPl := bP3.lt
          obtain ⟨n1, hn1⟩ : ∃ n, n = floorPrice (pa, pb, pc, pd) t := ⟨_, rfl⟩
          obtain ⟨n2, hn2⟩ : ∃ n, n = floorPrice (pa, pb, pc, pd) b := ⟨_, rfl⟩
          have HR3 := HR2.out
          rw [← hn1, ← hn2] at HR3
          have HR4 := Lib.hid HR3
          have CF : ∀ (v : Value) (w' : World) (m : Int), ((v = .slice D1 t.length d1 ∧ m = n1) ∨ (v = .slice D b.length d ∧ m = n2)) → Below wr.heap.size wr w' → Calls Try.prog 45 #[.agg #[.int .i64 pa, .int .i64 pb, .int .i64 pc, .int .i64 pd], v] w' (Ret (.int .i64 m) w') := fun v w' m hv hb => by
            rcases hv with ⟨rfl, rfl⟩ | ⟨rfl, rfl⟩
            · rw [hn1]; exact floorPriceI_any (pa, pb, pc, pd) _ t w' ((o1.below hb).rd lenDom (by decide)) (by omega)
            · rw [hn2]; exact floorPriceI_any (pa, pb, pc, pd) _ b w' ((ob.below hb).rd lenDom (by decide)) (by omega)
          have HCF := Lib.hid CF
          clear HR3 HR2 CF hn1 hn2
          go_upto_region 8 with (fail)
          obtain ⟨W, hW⟩ : ∃ W, W = wr := ⟨_, rfl⟩
          rw [← hW] at ob oL3 B3 bP3 z1 o1 p_0 p_1 p_2 p_3 hPl HCF ⊢
          clear hW
          have Bw : Below W.heap.size W W.drew := (Below.refl _ _).drew
          have hz : W.heap.size ≤ W.drew.heap.size := by simp
          refine wp_region_held_drew (S := (fun w' => w'.cell? ⟨w.heap.size, 0, none⟩ = some (.int .i64 pa) ∧ w'.cell? ⟨w.heap.size, 1, none⟩ = some (.int .i64 pb) ∧ w'.cell? ⟨w.heap.size, 2, none⟩ = some (.int .i64 pc) ∧ w'.cell? ⟨w.heap.size, 3, none⟩ = some (.int .i64 pd))) (by kernel_rfl) ?_ (fun hHeld => ?_)
          · (try dsimp only); (try go_keep)
          refine tk 0 oCtI0 rfl (by kernel_rfl) (v := ?_) (fun _ _ _ h => h) (Or.inl ⟨by rfl, ?_⟩) (by assumption) ?_
          rotate_left 1
          · (intro wS hSw; (try dsimp only at hSw); dsimp only [oCtI0]; go_simp; (all_goals with_reducible rfl))
          simp only [oCtI0, putL, List.set]
          refine tk 1 oCtI1 rfl (by kernel_rfl) (v := ?_) (fun _ _ _ h => h) (Or.inl ⟨by rfl, ?_⟩) (by assumption) ?_
          rotate_left 1
          · (intro wS hSw; (try dsimp only at hSw); dsimp only [oCtI1]; go_simp; (all_goals with_reducible rfl))
          simp only [oCtI1, putL, List.set]
          refine tk 3 oCtI2 rfl (by kernel_rfl) (v := ?_) (fun _ _ _ h => h) (Or.inl ⟨by rfl, ?_⟩) (by assumption) ?_
          rotate_left 1
          · (intro wS hSw; (try dsimp only at hSw); dsimp only [oCtI2]; go_simp; (all_goals with_reducible rfl))
          simp only [oCtI2, putL, List.set]
          refine tk 4 oCtI3 rfl (by kernel_rfl) (v := ?_) (fun _ _ _ h => h) (Or.inl ⟨by rfl, ?_⟩) (by assumption) ?_
          rotate_left 1
          · (intro wS hSw; (try dsimp only at hSw); dsimp only [oCtI3]; go_simp; (all_goals with_reducible rfl))
          simp only [oCtI3, putL, List.set]
          refine wpAnyH_ready (rs := [2]) (by kernel_rfl) (by simp) ?_
          refine AllReadyH.cons (o := oCtI4) rfl (fun K hK => ?_) AllReadyH.nil
          dsimp only [oCtI4]
          (go_simp; go_at_call 45; go_must (refine (HCF.out _ _ n1 (.inl ⟨rfl, rfl⟩) Bw).mono ?_; rintro e wX ⟨rfl, hbX⟩; obtain ⟨hcX, hfX, hzX⟩ := bkn hbX W.heap.size hz; have hz := hzX; have Bw := Bw.tr hbX))
          refine hK.out _ _ ?_ (fun hHeld => ?_)
          · (try dsimp only); (try go_keep)
          clear hK K
          (try simp only [Act.put, List.setIfInBounds_toArray, List.set_cons_zero, List.set_cons_succ])
          refine wpAnyH_ready (rs := [5]) (by kernel_rfl) (by simp) ?_
          refine AllReadyH.cons (o := oCtI5) rfl (fun K hK => ?_) AllReadyH.nil
          dsimp only [oCtI5]
          (go_simp; go_at_call 45; go_must (refine (HCF.out _ _ n2 (.inr ⟨rfl, rfl⟩) Bw).mono ?_; rintro e wX ⟨rfl, hbX⟩; obtain ⟨hcX, hfX, hzX⟩ := bkn hbX W.heap.size hz; have hz := hzX; have Bw := Bw.tr hbX))
          refine hK.out _ _ ?_ (fun hHeld => ?_)
          · (try dsimp only); (try go_keep)
          clear hK K
          (try simp only [Act.put, List.setIfInBounds_toArray, List.set_cons_zero, List.set_cons_succ])
          refine tk 6 oCtI6 rfl (by kernel_rfl) (v := ?_) (fun _ _ _ h => h) (Or.inl ⟨by rfl, ?_⟩) (by assumption) ?_
          rotate_left 1
          · (intro wS hSw; (try dsimp only at hSw); dsimp only [oCtI6]; go_simp; (all_goals with_reducible rfl))
          simp only [oCtI6, putL, List.set]
          refine wpAnyH_done (by kernel_rfl) ?_ _
          all_goals
            have hr := HR4.out
            have ob4 := ob.below Bw
            have o14 := o1.below Bw
            have oL4 := oL3.below Bw
            have B4 := B3.tr Bw
            have bP4 := bP3.bl Bw
            by_cases hc : n1 < n2
            · rw [if_pos hc] at hr
              have Hr := Lib.hid hr; clear hr
              go_wp2
              go_roundw
              case rel => exact ⟨k + 1, t, D1, d1, by omega, by go_num, rfl, o14, oL4, B4, bP4, ht, Hr⟩
              case measure => simp [intOf]; omega
            · rw [if_neg hc] at hr
              have Hr := Lib.hid hr; clear hr
              go_wp2
              go_roundw
              case rel => exact ⟨k + 1, b, D, d, by omega, by go_num, rfl, ob4, oL4, B4, bP4, hbl, Hr⟩
              case measure => simp [intOf]; omega
        · obtain rfl : k = L.length := by omega
          have hr := HR.out
          rw [List.drop_of_length_le (Nat.le_refl _)] at hr
          obtain rfl : b = T := hr
          clear HR
          go_wp2
          go_ret2
          exact ⟨D, d, rfl, ob, B3⟩
theorem eqDomsL (u v : Value) (l : List Dm) (w : World) (h : Rd 3 RDom w u l) (h' : Rd 3 RDom w v l) : Calls Try.prog 22 #[u, v] w (Ret (.bool true) w) := by
  have := eqDoms_any u v l l w h h'; rw [beq_self_eq_true] at this; exact this
end Go.Proofs.Ytmmeomjclfgljaa
