/- The uncovered cells, and SameCells of one region, of the reference: the walks. No conditions but sizes. -/
import Derived.Test.YtkbndchgmokabaaTilingW
import Derived.Test.YtkbndchgmokabaaFloorsPl
namespace Go.Proofs.Ytkbndchgmokabaa
open Go.ChangeShapes Go.WideShapes Go.ChangeAt Go.RowKit
set_option linter.unusedVariables false
set_option linter.unusedSimpArgs false

theorem apart_app {α β : Type} {E1 E2 : TypeId} {s1 s2 : Nat} {e1 : α → List Value} {e2 : β → List Value} {B1 B2 : Nat} {w w' : World} {c v v' : Value} {l : List α} {o : Obj} (hc : OwnL E1 s1 e1 B1 w c l) (hne : c.ownBlock ≠ v.ownBlock)
    (hg : (w.alloc o).grownBy w' v.ownBlock) (hd : v'.ownBlock = v.ownBlock ∨ v'.ownBlock = some (w.heap.size + 1)) : OwnL E1 s1 e1 B1 w' c l ∧ c.ownBlock ≠ v'.ownBlock := by
  refine ⟨World.ownsRow.kept (hc.alloc o) hg (.inr hne), ?_⟩
  rcases hd with e | e
  · rw [e]; exact hne
  · rw [e]; intro q; have := World.ownsRow.lt hc _ q; omega
set_option maxHeartbeats 2000000 in
set_option maxRecDepth 100000 in
theorem uncovS_any (v u : Value) (rows : List Int) (l : List Dm) (w : World) (h : Rd 1 RInt w v rows) (h2 : Rd 3 RDom w u l) : Calls Try.prog 28 #[.agg #[v], u] w (RetOwn 70 2 ePair (uncov rows l) w) := by
  obtain ⟨A, c, rfl, hc, hm⟩ := h.form
  obtain ⟨A2, c2, rfl, hc2, hm2⟩ := h2.form
  have hA := ((Below.refl w.heap.size w).al (.cells #[.slice A rows.length c] 31)).al (.cells #[] 70)
  have bX := (Blk.new_ w 31 #[.slice A rows.length c]).alloc (.cells #[] 70)
  have ho := own_mt (w.alloc (.cells #[.slice A rows.length c] 31)) (E := 70) (size := 2) (enc := ePair) (w.heap.size + 1) (by simp) w.heap.size (by simp)
  have hle := regCells_le rows
  obtain ⟨cs, hcs⟩ : ∃ cs, cs = regCells rows := ⟨_, rfl⟩
  have hun : uncov rows l = cs.filter fun c => decide (domAt l c < 0) := by rw [hcs]; rfl
  rw [← hcs] at hle
  obtain ⟨R, hR⟩ : ∃ R, R = uncov rows l := ⟨_, rfl⟩
  rw [← hR] at hun ⊢
  have Hcs := Lib.hid hcs; have Hun := Lib.hid hun; clear hcs hun hR
  go_enter Try.func28, Try.ntmps28
  go_wp2_with fail
  refine (cellsOfS_any _ rows _ (h.below RE.stays hA)).mono ?_
  rintro e w1 ⟨A6, c6, rfl, own6, hb1⟩
  rw [← Hcs.out] at own6 ⊢
  have B1 := hA.tr hb1
  have own5 := ho.below hb1
  have own6' := own6.mono hA.size
  have hne : (Value.slice A6 cs.length c6).ownBlock ≠ (Value.slice (some ⟨w.heap.size + 1, 0, none⟩) 0 0).ownBlock := by
    intro e
    have := World.ownsRow.lt own6 (w.heap.size + 1) (by rw [e]; rfl)
    simp at this; omega
  clear ho own6 bX hA hb1
  go_wp2
  go_loopw [5, 7] (fun s5 s7 wr => ∃ (k : Nat) (out : List Cl) (A5 : Option Addr) (c5 : Nat), k ≤ cs.length ∧ out.length ≤ k ∧ s7 = .int .i64 k ∧ s5 = .slice A5 out.length c5 ∧ Hid (out ++ (cs.drop k).filter (fun c => decide (domAt l c < 0)) = R) ∧ OwnL 70 2 ePair w.heap.size wr (.slice A5 out.length c5) out ∧ OwnL 70 2 ePair w.heap.size wr (.slice A6 cs.length c6) cs ∧ Hid ((Value.slice A6 cs.length c6).ownBlock ≠ (Value.slice A5 out.length c5).ownBlock) ∧ Below w.heap.size w wr) (fun _ i _ => cs.length - (intOf i).toNat)
  case atStart => exact ⟨0, [], _, _, Nat.zero_le _, Nat.le_refl _, rfl, rfl, Lib.hid Hun.out.symm, own5, own6', Lib.hid hne, B1⟩
  case round =>
    obtain ⟨k, out, A5, c5, hk, hol, rfl, rfl, Hg, hown, hcl, Hne, hbel⟩ := hrel
    clear own5 own6' hne B1
    by_cases hlt : k < cs.length
    · have hltI : (k : Int) < (cs.length : Int) := by omega
      obtain ⟨b, off, rfl, hb, q1, q2⟩ := (hcl.rd lenCell (by decide)).atPair hlt
      have hg := Hg.out
      rw [List.drop_eq_getElem_cons hlt, List.filter_cons] at hg
      obtain ⟨d, hd⟩ : ∃ d, d = cs[k] := ⟨_, rfl⟩
      rw [← hd] at q1 q2 hg
      obtain ⟨x, y⟩ := d
      simp only at q1 q2
      obtain ⟨D, hD⟩ : ∃ D, D = domAt l (x, y) := ⟨_, rfl⟩
      rw [← hD] at hg
      have HD := Lib.hid hD; have Hd := Lib.hid hd; clear hD hd
      have H8 : Hid ((out.length + 1) * 16 ≤ 140737488355328) := Lib.hid (by omega)
      have HM : Hid (out.length + 1 ≤ maxLen) := Lib.hid (by unfold maxLen; omega)
      go_wp2_with fail
      refine (domAtS_any _ l x y _ (h2.below RE.stays hbel)).mono ?_
      rintro e w2 ⟨rfl, hb2⟩
      rw [← HD.out]
      have own2 := hown.below hb2
      have cl2 := hcl.below hb2
      have B2 := hbel.tr hb2
      by_cases hneg : D < 0
      · rw [if_pos (by simpa using hneg), ← List.singleton_append, ← List.append_assoc] at hg
        have Hg2 := Lib.hid hg; clear hg
        obtain ⟨b9, off9, e9, r0, r1, r2⟩ := (cl2.rd lenCell (by decide)).atPair hlt
        injection e9 with e9; injection e9 with e91 e92 _; subst e91; subst e92
        rw [← Hd.out] at r1 r2
        simp only at r1 r2
        go_wp2_with (at_builtin; go_must (refine wpList_app1 (enc := ePair) rowCell lenCell oneCell B2 own2 ((x, y) : Cl) H8.out HM.out rfl _ _ rfl rfl rfl ?_); intro v4 w4 own4 hb4 hg4 hd4; obtain ⟨A4, c4, rfl, hc4, hm4⟩ := own4.form)
        have ha := apart_app (B2 := 0) (E2 := 0) (s2 := 0) (e2 := fun (x : Nat) => []) cl2 Hne.out hg4 hd4
        go_roundw
        case rel => exact ⟨k + 1, out ++ [(x, y)], A4, c4, by omega, by simp; omega, by go_num, by simp, Hg2, own4, ha.1, Lib.hid ha.2, hb4⟩
        case measure => simp [intOf]; omega
      · rw [if_neg (by simpa using hneg)] at hg
        have Hg2 := Lib.hid hg; clear hg
        go_wp2
        go_roundw
        case rel => exact ⟨k + 1, out, A5, c5, by omega, by omega, by go_num, rfl, Hg2, own2, cl2, Hne, B2⟩
        case measure => simp [intOf]; omega
    · obtain rfl : k = cs.length := by omega
      have hg := Hg.out
      rw [List.drop_of_length_le (Nat.le_refl _), List.filter_nil, List.append_nil] at hg
      subst hg
      go_wp2
      go_ret
      exact ⟨A5, c5, rfl, hown, hbel⟩
/-- Cells of a region stand in order. -/
theorem cells_pw (s : Nat) : (cellsTo s 64).Pairwise fun a b => cellIx a < cellIx b := by
  unfold cellsTo
  rw [List.pairwise_map]
  refine (List.pairwise_lt_range.filter _).imp_of_mem fun {a b} ha hb hab => ?_
  have h1 := List.mem_range.1 (List.mem_filter.1 ha).1
  have h2 := List.mem_range.1 (List.mem_filter.1 hb).1
  have e : ∀ i, i < 64 → cellIx (ixCell i) = i := fun i hi => by
    rw [(cellIx_in (ixCell_ok hi)).1]; unfold ixCell; simp only; omega
  rw [e a h1, e b h2]; omega
theorem cells_mem {s : Nat} {c : Cl} (h : c ∈ cellsTo s 64) : cellOk c = true ∧ s.testBit (cellIx c).toNat = true := by
  unfold cellsTo at h
  obtain ⟨i, hi, rfl⟩ := List.mem_map.1 h
  obtain ⟨h1, h2⟩ := List.mem_filter.1 hi
  have h3 := List.mem_range.1 h1
  refine ⟨ixCell_ok h3, ?_⟩
  rw [cellIx_ix h3]; exact h2
theorem cov_none {l : List Dm} {c : Cl} (h : covOf l c = none) {e : Dm} (he : e ∈ l) (ho : domOk e = true) (hc : cellOk c = true) : (domSet e).testBit (cellIx c).toNat = false := by
  have := List.find?_eq_none.1 h e he
  rw [← domHas_bit ho, hc, Bool.true_and] at this
  simpa using this
/-- A domino laid where two cells of the set are free, behind all others. -/
theorem part_snoc {s : Nat} {out : List Dm} {d : Dm} (h : PartOk s out) (hd : domOk d = true) (h1 : s.testBit (domI d) = true) (h2 : s.testBit (domJ d) = true) (c1 : covOf out (d.1, d.2.1) = none) (c2 : covOf out (sec d) = none)
    (hb : ∀ e ∈ out, cellIx (e.1, e.2.1) < cellIx (d.1, d.2.1)) : PartOk s (out ++ [d]) := by
  obtain ⟨k1, k2⟩ := domOk_cells hd
  refine ⟨fun e he => ?_, ?_, ?_⟩
  · rcases List.mem_append.1 he with he | he
    · exact h.1 e he
    · rw [List.mem_singleton.1 he]; exact in_iff.2 ⟨hd, h1, h2⟩
  · rw [List.pairwise_append]
    refine ⟨h.2.1, by simp, fun a ha b hb' => ?_⟩
    rw [List.mem_singleton.1 hb']
    have q := hb a ha
    rw [(cellIx_in (domOk_cells (h.1 a ha).1).1).1, (cellIx_in k1).1] at q
    have e1 := ord_bound a
    have e2 := ord_bound d
    simp only at q
    omega
  · rw [List.pairwise_append]
    refine ⟨h.2.2, by simp, fun a ha b hb' j hj => ?_⟩
    rw [List.mem_singleton.1 hb', domSet_bit hd]
    have n1 := cov_none c1 ha (h.1 a ha).1 k1
    have n2 := cov_none c2 ha (h.1 a ha).1 k2
    rw [Bool.or_eq_false_iff, decide_eq_false_iff_not, decide_eq_false_iff_not]
    refine ⟨fun e => ?_, fun e => ?_⟩
    · unfold domI at e; rw [e, hj] at n1; cases n1
    · unfold domJ at e; rw [e, hj] at n2; cases n2
def Greedy (s : Nat) (cs : List Cl) (k : Nat) (out : List Dm) : Prop := PartOk s out ∧ ∀ e ∈ out, ∀ c ∈ cs.drop k, cellIx (e.1, e.2.1) < cellIx c
theorem Greedy.start (s : Nat) (cs : List Cl) : Greedy s cs 0 [] := ⟨⟨by simp, List.Pairwise.nil, List.Pairwise.nil⟩, by simp⟩
theorem Greedy.next {s : Nat} {cs : List Cl} {k : Nat} {out : List Dm} (h : Greedy s cs k out) : Greedy s cs (k + 1) out :=
  ⟨h.1, fun e he c hc => h.2 e he c (by rw [← List.drop_drop] at hc; exact List.mem_of_mem_drop hc)⟩
theorem Greedy.app {s : Nat} {k : Nat} {out : List Dm} (h : Greedy s (cellsTo s 64) k out) (hk : k < (cellsTo s 64).length) {d : Dm} (hc : (d.1, d.2.1) = (cellsTo s 64)[k]) (hd : domOk d = true) (h2 : s.testBit (domJ d) = true) (c1 : covOf out (d.1, d.2.1) = none) (c2 : covOf out (sec d) = none) : Greedy s (cellsTo s 64) (k + 1) (out ++ [d]) := by
  have hm := cells_mem (List.getElem_mem hk)
  refine ⟨part_snoc h.1 hd (by unfold domI; rw [hc]; exact hm.2) h2 c1 c2 (fun e he => ?_), fun e he c hcm => ?_⟩
  · rw [hc]; exact h.2 e he _ (by rw [List.drop_eq_getElem_cons hk]; exact List.mem_cons_self ..)
  · rcases List.mem_append.1 he with he | he
    · exact h.next.2 e he c hcm
    · rw [List.mem_singleton.1 he, hc]
      have := List.pairwise_iff_getElem.1 (cells_pw s)
      obtain ⟨i, hi, rfl⟩ := List.mem_iff_getElem.1 hcm
      rw [List.getElem_drop]
      exact this k (k + 1 + i) hk (by rw [List.length_drop] at hi; omega) (by omega)

set_option maxHeartbeats 2000000 in
set_option maxRecDepth 100000 in
theorem sameCellsS_same (u v : Value) (rows : List Int) (w : World) (h : Rd 1 RInt w u rows) (h' : Rd 1 RInt w v rows) (Hok : Hid (RowsOk rows)) : Calls Try.prog 25 #[.agg #[u], .agg #[v]] w (Ret (.bool true) w) := by
  obtain ⟨A, c, rfl, hc, hm⟩ := h.form
  obtain ⟨A', c', rfl, hc', hm'⟩ := h'.form
  have hA := ((Below.refl w.heap.size w).al (.cells #[.slice A rows.length c] 31)).al (.cells #[.slice A' rows.length c'] 31)
  have bU := (Blk.new_ w 31 #[.slice A rows.length c]).alloc (.cells #[.slice A' rows.length c'] 31)
  have bV := Blk.new2 (w.alloc (.cells #[.slice A rows.length c] 31)) 31 #[.slice A' rows.length c'] (w.heap.size + 1) (by simp)
  have g := h.below RE.stays hA
  have g' := h'.below RE.stays hA
  have Hr := Lib.hid (regionOk_iff.2 Hok.out)
  go_enter Try.func25, Try.ntmps25
  go_wp2_with fail
  refine (regionOkS_any _ rows _ g).mono ?_
  rintro e w1 ⟨rfl, hb1⟩
  rw [Hr.out]
  have zv := (bV.bl hb1).c1
  go_wp2_with fail
  refine (regionOkS_any _ rows _ (g'.below RE.stays hb1)).mono ?_
  rintro e w2 ⟨rfl, hb2⟩
  rw [Hr.out]
  have B2 := (hA.tr hb1).tr hb2
  have bU2 := (bU.bl hb1).bl hb2
  have bV2 := (bV.bl hb1).bl hb2
  clear zv bU bV hb1 hb2 hA g g'
  go_wp2
  go_loopw [5] (fun s5 wr => ∃ k : Nat, k ≤ 64 ∧ s5 = .int .i64 k ∧ Blk wr w.heap.size 31 #[.slice A rows.length c] ∧ Blk wr (w.heap.size + 1) 31 #[.slice A' rows.length c'] ∧ Below w.heap.size w wr) (fun i _ => 64 - (intOf i).toNat)
  case atStart => exact ⟨0, by omega, rfl, bU2, bV2, B2⟩
  case round =>
    obtain ⟨k, hk, rfl, hU, hV, hbel⟩ := hrel
    clear bU2 bV2 B2
    by_cases hlt : k < 64
    · obtain ⟨x, hx⟩ : ∃ x, x = k % 8 := ⟨_, rfl⟩
      obtain ⟨y, hy⟩ : ∃ y, y = k / 8 := ⟨_, rfl⟩
      have hx8 : x < 8 := by omega
      have hy8 : y < 8 := by omega
      have Hx := Lib.hid hx; have Hy := Lib.hid hy; clear hx hy
      go_wp2_with fail
      refine (cellAtS_n2 k x y _ hlt Hx.out Hy.out).mono ?_
      rintro e w3 ⟨rfl, hb3⟩
      have B3 := (hbel.tr hb3).al (.cells #[.int .i64 x, .int .i64 y] 70)
      have bC := Blk.new_ w3 70 #[.int .i64 x, .int .i64 y]
      have bU3 := (hU.bl hb3).alloc (.cells #[.int .i64 x, .int .i64 y] 70)
      have bV3 := (hV.bl hb3).alloc (.cells #[.int .i64 x, .int .i64 y] 70)
      go_wp2_with fail
      obtain ⟨W4, hW4⟩ : ∃ W4, W4 = w3.alloc (.cells #[.int .i64 x, .int .i64 y] 70) := ⟨_, rfl⟩
      obtain ⟨gc, hgc⟩ : ∃ g, g = w3.heap.size := ⟨_, rfl⟩
      rw [← hW4] at B3 bC bU3 bV3 ⊢
      rw [← hgc] at bC ⊢
      clear hW4 hgc
      have zU := bU3.c1
      have zV := bV3.c1
      have zc_0 := bC.cell 0
      have zc_1 := bC.cell 1
      simp only [List.getElem?_toArray, List.getElem?_cons_zero, List.getElem?_cons_succ] at zc_0 zc_1
      have hp0 := bU3.lt
      have hp1 := bV3.lt
      have hp2 := bC.lt
      obtain ⟨bt, hbt⟩ : ∃ b, b = (setOf rows).testBit (8 * y + x) := ⟨_, rfl⟩
      have Hbt := Lib.hid hbt; clear hbt
      have hbb : (bt != bt) = false := by simp
      have Bw : Below W4.heap.size W4 W4.drew := (Below.refl _ _).drew
      have hz : W4.heap.size ≤ W4.drew.heap.size := by simp
      refine wp_region_held_drew (S := (fun w' => w'.cell? ⟨w.heap.size, 0, none⟩ = some (.slice A rows.length c) ∧ w'.cell? ⟨w.heap.size + 1, 0, none⟩ = some (.slice A' rows.length c') ∧ w'.cell? ⟨gc, 0, none⟩ = some (.int .i64 x) ∧ w'.cell? ⟨gc, 1, none⟩ = some (.int .i64 y))) (by kernel_rfl) ?_ (fun hHeld => ?_)
      · (try dsimp only); (try go_keep)
      refine wpAnyH_take (i := 0) (oi := { dst := some 25, op := Go.Op.load 31 (Go.Operand.tmp 2), type := 31, pos := "l03_region.go:65", after := #[], guard := none }) (v := ?_) rfl (by kernel_rfl) (by kernel_rfl) (by kernel_rfl) (fun _ _ _ h => h) (Or.inl ⟨by rfl, ?_⟩) (by assumption) ?_
      rotate_left 1
      · (intro wS hSw; (try dsimp only at hSw); go_simp; (all_goals with_reducible rfl))
      simp only [Act.put, List.setIfInBounds_toArray, List.set_cons_zero, List.set_cons_succ]
      refine wpAnyH_take (i := 1) (oi := { dst := some 26, op := Go.Op.load 70 (Go.Operand.tmp 6), type := 70, pos := "l03_region.go:65", after := #[], guard := none }) (v := ?_) rfl (by kernel_rfl) (by kernel_rfl) (by kernel_rfl) (fun _ _ _ h => h) (Or.inl ⟨by rfl, ?_⟩) (by assumption) ?_
      rotate_left 1
      · (intro wS hSw; (try dsimp only at hSw); go_simp; (all_goals with_reducible rfl))
      simp only [Act.put, List.setIfInBounds_toArray, List.set_cons_zero, List.set_cons_succ]
      refine wpAnyH_take (i := 3) (oi := { dst := some 28, op := Go.Op.load 31 (Go.Operand.tmp 3), type := 31, pos := "l03_region.go:65", after := #[], guard := none }) (v := ?_) rfl (by kernel_rfl) (by kernel_rfl) (by kernel_rfl) (fun _ _ _ h => h) (Or.inl ⟨by rfl, ?_⟩) (by assumption) ?_
      rotate_left 1
      · (intro wS hSw; (try dsimp only at hSw); go_simp; (all_goals with_reducible rfl))
      simp only [Act.put, List.setIfInBounds_toArray, List.set_cons_zero, List.set_cons_succ]
      refine wpAnyH_take (i := 4) (oi := { dst := some 29, op := Go.Op.load 70 (Go.Operand.tmp 6), type := 70, pos := "l03_region.go:65", after := #[], guard := none }) (v := ?_) rfl (by kernel_rfl) (by kernel_rfl) (by kernel_rfl) (fun _ _ _ h => h) (Or.inl ⟨by rfl, ?_⟩) (by assumption) ?_
      rotate_left 1
      · (intro wS hSw; (try dsimp only at hSw); go_simp; (all_goals with_reducible rfl))
      simp only [Act.put, List.setIfInBounds_toArray, List.set_cons_zero, List.set_cons_succ]
      refine wpAnyH_ready (rs := [2]) (by kernel_rfl) (by simp) ?_
      refine AllReadyH.cons (o := { dst := some 27, op := Go.Op.call { callee := Go.Callee.value (Go.Operand.func 86), args := #[Go.Operand.tmp 25, Go.Operand.tmp 26], argTypes := #[31, 70] }, type := 4, pos := "l03_region.go:65", after := #[{ on := 0, ground := Go.Ground.data }, { on := 1, ground := Go.Ground.data }], guard := none }) rfl (fun K hK => ?_) AllReadyH.nil
      go_simp
      (first | (go_at_call 86; go_must (refine (l03HasS_yes _ rows x y _ (by first | exact h.below RE.stays (B3.tr Bw) | exact h'.below RE.stays (B3.tr Bw)) Hok hx8 hy8).mono ?_; rintro e wX ⟨rfl, hbX⟩; rw [← Hbt.out];obtain ⟨hcX, hfX, hzX⟩ := bkn hbX W4.heap.size hz; have hz := hzX; have Bw := Bw.tr hbX); (try go_wp2_with fail)))
      refine hK.out _ _ ?_ (fun hHeld => ?_)
      · (try dsimp only); (try go_keep)
      clear hK K
      (try simp only [Act.put, List.setIfInBounds_toArray, List.set_cons_zero, List.set_cons_succ])
      refine wpAnyH_ready (rs := [5]) (by kernel_rfl) (by simp) ?_
      refine AllReadyH.cons (o := { dst := some 30, op := Go.Op.call { callee := Go.Callee.value (Go.Operand.func 86), args := #[Go.Operand.tmp 28, Go.Operand.tmp 29], argTypes := #[31, 70] }, type := 4, pos := "l03_region.go:65", after := #[{ on := 3, ground := Go.Ground.data }, { on := 4, ground := Go.Ground.data }, { on := 2, ground := Go.Ground.chain }], guard := none }) rfl (fun K hK => ?_) AllReadyH.nil
      go_simp
      (first | (go_at_call 86; go_must (refine (l03HasS_yes _ rows x y _ (by first | exact h.below RE.stays (B3.tr Bw) | exact h'.below RE.stays (B3.tr Bw)) Hok hx8 hy8).mono ?_; rintro e wX ⟨rfl, hbX⟩; rw [← Hbt.out];obtain ⟨hcX, hfX, hzX⟩ := bkn hbX W4.heap.size hz; have hz := hzX; have Bw := Bw.tr hbX); (try go_wp2_with fail)))
      refine hK.out _ _ ?_ (fun hHeld => ?_)
      · (try dsimp only); (try go_keep)
      clear hK K
      (try simp only [Act.put, List.setIfInBounds_toArray, List.set_cons_zero, List.set_cons_succ])
      refine wpAnyH_take (i := 6) (oi := { dst := some 31, op := Go.Op.binOp Go.BinOp.neq 4 (Go.Operand.tmp 27) (Go.Operand.tmp 30) 4, type := 4, pos := "l03_region.go:65", after := #[{ on := 2, ground := Go.Ground.data }, { on := 5, ground := Go.Ground.data }], guard := none }) (v := ?_) rfl (by kernel_rfl) (by kernel_rfl) (by kernel_rfl) (fun _ _ _ h => h) (Or.inl ⟨by rfl, ?_⟩) (by assumption) ?_
      rotate_left 1
      · (intro wS hSw; (try dsimp only at hSw); go_simp; (all_goals with_reducible rfl))
      simp only [Act.put, List.setIfInBounds_toArray, List.set_cons_zero, List.set_cons_succ]
      refine wpAnyH_done (by kernel_rfl) ?_ _
      all_goals
        go_wp2
        go_roundw
        case rel => exact ⟨k + 1, by omega, by go_num, bU3.bl Bw, bV3.bl Bw, B3.tr Bw⟩
        case measure => simp [intOf]; omega
    · obtain rfl : k = 64 := by omega
      go_wp2
      go_ret
      exact ⟨rfl, hbel⟩
end Go.Proofs.Ytkbndchgmokabaa
