/- FnForced: for all bytes the law returns true. No conditions. -/
import Derived.Test.YtmmeomjclfgljaaForcW
import Derived.Test.YtmmeomjclfgljaaGcdT
namespace Go.Proofs.Ytmmeomjclfgljaa
open Go.ChangeShapes Go.WideShapes Go.ChangeAt Go.RowKit
set_option linter.unusedVariables false
set_option linter.unusedSimpArgs false

theorem bigQ_any (v : Value) (l : List Int) (w : World) (h : Rd 1 RByte w v l) : Calls Try.prog 25 #[v] w (Pure (.bool (decide (1048576 < l.length))) w) := by
  obtain ⟨A, c, rfl, hc, hm⟩ := h.form
  go_enter Try.func25, Try.ntmps25
  go_wp2
  go_ret
  exact ⟨by simp; omega, rfl⟩
def DrawnFew (w : World) (e : Ending) (w' : World) : Prop := ∃ (rows : List Int) (A : Option Addr) (c : Nat), e = .returned (.agg #[.slice A rows.length c]) ∧ OwnL 3 1 eInt w.heap.size w' (.slice A rows.length c) rows ∧ Few rows ∧ Below w.heap.size w w'
set_option maxHeartbeats 1000000 in
set_option maxRecDepth 100000 in
theorem drawFew_any (v : Value) (l : List Int) (w : World) (h : Rd 1 RByte w v l) (ok : AllOk (fun x => 0 ≤ x ∧ x ≤ 255) l) (hl : l.length ≤ 1048576) : Calls Try.prog 26 #[v] w (DrawnFew w) := by
  have Hok := Lib.hid ok
  have hx0 := Blk.new_ w 26 #[.slice none 0 0]
  have hA := (Below.refl w.heap.size w).al (.cells #[.slice none 0 0] 26)
  go_enter Try.func26, Try.ntmps26
  go_wp2_with fail
  refine (new_any _ l _ (h.below RE.stays hA) ok hl).mono ?_
  rintro e w1 ⟨g, rfl, hg, hcur, hb1⟩
  go_wp2_with fail
  refine (fewDraw_any _ g _ l _ (h.below RE.stays hA) Hok hg hb1 hcur).mono ?_
  rintro e w2 ⟨rows, A, c, rfl, own, hf, cur2, B2, k2⟩
  have hx2 := hx0.below B2 hx0.lt
  have own2 := own.mono (show w.heap.size ≤ _ by have := hb1.size; simp at this; omega)
  have z1 := hx2.c1
  have z2 := hx2.frozen 0
  have z3 := hx2.lt
  have z5 := (hx2.set_ 0 (.slice A rows.length c)).cell 0
  simp at z5
  go_wp2
  refine bodyPost_ret (v := .agg #[.slice A rows.length c]) (by simp [results, Try.results26, go_sem, z5]) rfl ⟨rows, A, c, rfl, own2.far (fun e => own2.apart hx2 (by decide) e) _, hf, (hA.tr B2).st _ _ (Nat.le_refl _)⟩
/-- What the law asks of a region with few tilings. -/
theorem forced_facts {rows : List Int} (hf : Few rows) : RowsOk rows ∧ cntRows rows ≠ 0 ∧ cntRows rows = ((listRows rows).length : Nat) ∧ listRows rows = tils (setOf rows) ∧ (∀ t ∈ listRows rows, (∀ d ∈ t, d ∈ possible rows) ∧ ∀ d ∈ forced rows, d ∈ t) := by
  obtain ⟨hr, h1, h2⟩ := hf
  have h0 : cntRows rows ≠ 0 := by omega
  have hl : listRows rows = tils (setOf rows) := by unfold listRows; rw [if_pos (by simp [inB]; omega)]
  refine ⟨hr, h0, by rw [hl]; exact cntRows_is hr, hl, fun t ht => ?_⟩
  rw [hl] at ht
  exact ⟨fun d hd => (mem_possible hr).2 ⟨t, ht, hd⟩, fun d hd => (mem_forced hr h0).1 hd t ht⟩
theorem cell_facts {rows : List Int} (hf : Few rows) {x y : Int} {i : Nat} (hi : i < 64) (hb : (setOf rows).testBit i = true) (hx : x = ((i % 8 : Nat) : Int)) (hy : y = ((i / 8 : Nat) : Int)) : 1 ≤ (overC rows (x, y)).length ∧ (overC rows (x, y)).length ≤ 4 ∧ ((overC rows (x, y)).length = 1 ↔ 0 ≤ domAt (forced rows) (x, y)) := by
  obtain ⟨hr, h0, _, _, _⟩ := forced_facts hf
  have e : ((x, y) : Cl) = ixCell i := by unfold ixCell; rw [hx, hy]; simp
  rw [e]
  exact ⟨over_pos hr h0 hi hb, over_le rows hi, over_one hr h0 hi hb⟩
theorem share_facts {rows : List Int} (hf : Few rows) {d : Dm} (hd : d ∈ possible rows) : ∃ a b : Nat, cntWith rows d = (a : Int) ∧ cntRows rows = (b : Int) ∧ 0 < a ∧ a ≤ b ∧ b ≤ 300 ∧ 1 ≤ a / Nat.gcd a b ∧ a / Nat.gcd a b ≤ b / Nat.gcd a b ∧ (a / Nat.gcd a b) * b = (b / Nat.gcd a b) * a := by
  obtain ⟨hr, h0, hc, hl, _⟩ := forced_facts hf
  have hdo := (mem_whereL.1 hd).1
  have hpos : 0 < cntWith rows d := by have := (mem_whereL.1 hd).2; simpa using this
  have hcw := cntWith_is hr d hdo
  have hcr := cntRows_is hr
  have hle := List.length_filter_le (fun t : List Dm => t.contains d) (tils (setOf rows))
  have h300 := hf.2.2
  refine ⟨_, _, hcw, hcr, by omega, hle, by omega, ?_⟩
  obtain ⟨a, ha⟩ : ∃ a, a = ((tils (setOf rows)).filter (fun t => t.contains d)).length := ⟨_, rfl⟩
  obtain ⟨b, hb⟩ : ∃ b, b = (tils (setOf rows)).length := ⟨_, rfl⟩
  rw [← ha] at hcw hle ⊢
  rw [← hb] at hle ⊢
  have ha0 : 0 < a := by omega
  have hg := Nat.gcd_pos_of_pos_left b ha0
  obtain ⟨p, hp⟩ := Nat.gcd_dvd_left a b
  obtain ⟨q, hq⟩ := Nat.gcd_dvd_right a b
  have e1 : a / Nat.gcd a b = p := by
    have := congrArg (· / Nat.gcd a b) hp
    simpa [Nat.mul_div_cancel_left _ hg] using this
  have e2 : b / Nat.gcd a b = q := by
    have := congrArg (· / Nat.gcd a b) hq
    simpa [Nat.mul_div_cancel_left _ hg] using this
  rw [e1, e2]
  refine ⟨?_, ?_, ?_⟩
  · rcases Nat.eq_zero_or_pos p with h | h
    · rw [h, Nat.mul_zero] at hp; omega
    · exact h
  · rw [← e1, ← e2]; exact Nat.div_le_div_right hle
  · calc p * b = p * (Nat.gcd a b * q) := by rw [← hq]
      _ = q * (Nat.gcd a b * p) := by rw [Nat.mul_left_comm, Nat.mul_comm p q, Nat.mul_left_comm]
      _ = q * a := by rw [← hp]
abbrev oFnForced0 : Oper := { dst := some 57, op := Go.Op.load 26 (Go.Operand.tmp 3), type := 26, pos := "laws.go:426", after := #[], guard := none }
abbrev oFnForced1 : Oper := { dst := some 58, op := Go.Op.move (Go.Operand.tmp 9), type := 28, pos := "laws.go:426", after := #[], guard := none }
abbrev oFnForced2 : Oper := { dst := some 59, op := Go.Op.move (Go.Operand.tmp 10), type := 3, pos := "laws.go:426", after := #[], guard := none }
abbrev oFnForced3 : Oper := { dst := some 60, op := Go.Op.indexAddr 28 (Go.Operand.tmp 58) (Go.Operand.tmp 59), type := 0, pos := "laws.go:426", after := #[{ on := 1, ground := Go.Ground.data }, { on := 2, ground := Go.Ground.data }], guard := none }
abbrev oFnForced4 : Oper := { dst := some 61, op := Go.Op.load 63 (Go.Operand.tmp 60), type := 63, pos := "laws.go:426", after := #[{ on := 3, ground := Go.Ground.data }], guard := none }
abbrev oFnForced5 : Oper := { dst := some 62, op := Go.Op.call { callee := Go.Callee.value (Go.Operand.func 33), args := #[Go.Operand.tmp 57, Go.Operand.tmp 61], argTypes := #[26, 63] }, type := 3, pos := "laws.go:426", after := #[{ on := 0, ground := Go.Ground.data }, { on := 4, ground := Go.Ground.data }], guard := none }
abbrev oFnForced6 : Oper := { dst := some 11, op := Go.Op.assign (Go.Operand.tmp 62), type := 3, pos := "laws.go:426", after := #[{ on := 5, ground := Go.Ground.data }, { on := 5, ground := Go.Ground.chain }, { on := 0, ground := Go.Ground.phase }, { on := 1, ground := Go.Ground.phase }, { on := 2, ground := Go.Ground.phase }, { on := 3, ground := Go.Ground.phase }, { on := 4, ground := Go.Ground.phase }, { on := 5, ground := Go.Ground.phase }], guard := none }
set_option maxHeartbeats 4000000 in
set_option maxRecDepth 100000 in
theorem FnForced_walk (w : World) (v : Value) (l : List Int) (h : Rd 1 RByte w v l) (ok : AllOk (fun x => 0 ≤ x ∧ x ≤ 255) l) : Calls Try.prog 6 #[v] w (Ret (.bool true) w) := by
  by_cases hsz : 1048576 < l.length
  · have hd : decide (1048576 < l.length) = true := by simpa using hsz
    have Hd := Lib.hid hd; clear hd
    go_enter Try.func6, Try.ntmps6
    go_wp2_with fail
    refine (bigQ_any _ l _ h).mono ?_
    rintro e w0 ⟨rfl, rfl⟩
    rw [Hd.out]
    go_wp2
    go_ret
    exact ⟨rfl, Below.refl _ _⟩
  · have hd : decide (1048576 < l.length) = false := by simpa using hsz
    have Hd := Lib.hid hd; clear hd
    have hl : l.length ≤ 1048576 := by omega
    have Hok := Lib.hid ok; clear ok
    go_enter Try.func6, Try.ntmps6
    go_wp2_with fail
    refine (bigQ_any _ l _ h).mono ?_
    rintro e w0 ⟨rfl, rfl⟩
    rw [Hd.out]
    go_wp2_with fail
    refine (drawFew_any _ l _ h Hok.out hl).mono ?_
    rintro e w1 ⟨rows, A, c, rfl, ro, hf, hb1⟩
    obtain ⟨hr, h0, hcn, hls, hmem⟩ := forced_facts hf
    have h300 := list_len rows
    have hsm : Small rows.length := by unfold Small; have := hr.1; omega
    have hPl : (possible rows).length ≤ 128 := whereL_len _ _
    have hXc := free_cnt hr h0
    have hXf := free_forced hr h0
    have hXs := free_cells hr h0
    have hrc : regCells rows = cellsTo (setOf rows) 64 := by unfold regCells; rw [if_pos (regionOk_iff.2 hr)]
    have hcl := regCells_le rows
    have hcell : ∀ k (hk : k < (regCells rows).length), 1 ≤ (overC rows (regCells rows)[k]).length ∧ (overC rows (regCells rows)[k]).length ≤ 4 ∧ ((overC rows (regCells rows)[k]).length = 1 ↔ 0 ≤ domAt (forced rows) (regCells rows)[k]) := by
      rw [hrc]
      intro k hk
      obtain ⟨i, hi, hb, he⟩ := cells_at hk
      rw [he]
      exact cell_facts hf hi hb rfl rfl
    have hshare := fun d (hd : d ∈ possible rows) => share_facts hf hd
    rw [hcn] at hXc
    obtain ⟨F, hF⟩ : ∃ F, F = forced rows := ⟨_, rfl⟩
    obtain ⟨P, hP⟩ : ∃ P, P = possible rows := ⟨_, rfl⟩
    obtain ⟨L, hL⟩ : ∃ L, L = listRows rows := ⟨_, rfl⟩
    obtain ⟨X, hX⟩ : ∃ X, X = freeRows rows := ⟨_, rfl⟩
    obtain ⟨cs, hcs⟩ : ∃ cs, cs = regCells rows := ⟨_, rfl⟩
    have CF : ∀ (u : Value) (w : World), Rd 1 RInt w u rows → Calls Try.prog 27 #[.agg #[u]] w (fun e w' => ∃ A c, e = .returned (.slice A F.length c) ∧ Rd 3 RDom w' (.slice A F.length c) F ∧ Below w.heap.size w w') := fun u w k1 => by rw [hF]; exact forcedI_any u rows w k1
    have CP : ∀ (u : Value) (w : World), Rd 1 RInt w u rows → Calls Try.prog 28 #[.agg #[u]] w (RetOwn 66 3 eDom P w) := fun u w k1 => by rw [hP]; exact possibleI_any u rows w k1 hr
    have CL : ∀ (u : Value) (w : World), Rd 1 RInt w u rows → Calls Try.prog 29 #[.agg #[u]] w (RetLL L w) := fun u w k1 => by rw [hL]; exact listTilS_any u rows w k1
    have CX : ∀ (u : Value) (w : World), Rd 1 RInt w u rows → Calls Try.prog 30 #[.agg #[u]] w (RetReg X w) := fun u w k1 => by rw [hX]; exact freeI_any u rows w k1 hsm
    have CC : ∀ (u : Value) (w : World), Rd 1 RInt w u rows → Calls Try.prog 32 #[.agg #[u]] w (RetOwn 63 2 ePair cs w) := fun u w k1 => by rw [hcs]; exact cellsOfS_any u rows w k1
    have CT : ∀ (u : Value) (w : World), Rd 1 RInt w u X → Calls Try.prog 38 #[.agg #[u]] w (Ret (.int .i64 (L.length : Nat)) w) := fun u w k1 => by have := cntTilS_any u X w k1; rw [hX, hXc, ← hL] at this; exact this
    have CG : ∀ (u : Value) (w : World), Rd 1 RInt w u X → Calls Try.prog 27 #[.agg #[u]] w (fun e w' => ∃ A c, e = .returned (.slice A 0 c) ∧ Below w.heap.size w w') := fun u w k1 => (forcedI_any u X w k1).mono (by
      rintro e w' ⟨A, c, rfl, _, hb⟩
      rw [hX, hXf]
      exact ⟨A, c, rfl, hb⟩)
    have CN : ∀ (u : Value) (w : World), Rd 1 RInt w u X → Calls Try.prog 39 #[.agg #[u]] w (Ret (.int .i64 ((regCells X).length : Nat)) w) := fun u w k1 => countCellsS_any u X w k1
    rw [← hX] at hXs
    rw [← hF, ← hcs] at hXs
    rw [← hL] at h300 hmem
    rw [← hP] at hPl hmem hshare
    rw [← hF] at hmem hcell
    rw [← hcs] at hcell hcl
    obtain ⟨nX, hnX⟩ : ∃ nX, nX = (regCells X).length := ⟨_, rfl⟩
    rw [← hnX] at CN hXs
    have hsum : IntKind.i64.wrap ((nX : Int) + IntKind.i64.wrap (2 * (F.length : Int))) = (cs.length : Int) := by rw [IntWalk.i64_in (2 * (F.length : Int)) (by omega)]; rw [IntWalk.i64_in _ (by omega)]; omega
    have hsum1 : IntKind.i64.wrap (2 * (F.length : Int)) = 2 * (F.length : Int) := IntWalk.i64_in _ (by omega)
    have hsum2 : IntKind.i64.wrap ((nX : Int) + 2 * (F.length : Int)) = (cs.length : Int) := by rw [IntWalk.i64_in _ (by omega)]; omega
    have Hmem := Lib.hid hmem; have Hcell := Lib.hid hcell; have Hshare := Lib.hid hshare; have Hcn := Lib.hid hcn; have Hr := Lib.hid hr; have HL := Lib.hid hL; have HXs := Lib.hid hXs
    have hsum3 : (nX : Int) + 2 * (F.length : Int) = (cs.length : Int) := by omega
    clear hf h0 hcn hls hmem hsm hXc hXf hXs hrc hcell hshare hF hP hL hX hcs hnX hr
    have bR := Blk.new_ w1 26 #[.slice A rows.length c]
    have ro1 := ro.alloc (.cells #[.slice A rows.length c] 26)
    have B1 := hb1.al (.cells #[.slice A rows.length c] 26)
    clear ro hb1
    go_upto_region 4 with (fail)
    obtain ⟨W, hW⟩ : ∃ W, W = w1.alloc (.cells #[.slice A rows.length c] 26) := ⟨_, rfl⟩
    obtain ⟨gR, hgR⟩ : ∃ q, q = w1.heap.size := ⟨_, rfl⟩
    rw [← hW] at bR B1 ro1 ⊢
    rw [← hgR] at bR ⊢
    clear hW hgR
    have zr := bR.c1
    go_wp2_with fail
    refine (CF _ _ (ro1.rd lenInt (by decide))).mono ?_
    rintro e w2 ⟨AF, cF, rfl, rF, hb2⟩
    replace bR := bR.bl hb2
    have ro2 := ro1.below hb2
    have B2 := B1.tr hb2
    clear ro1 B1 hb2 zr
    have zr := bR.c1
    go_wp2_with fail
    refine (CP _ _ (ro2.rd lenInt (by decide))).mono ?_
    rintro e w3 ⟨AP, cP, rfl, oP, hb3⟩
    replace bR := bR.bl hb3
    replace rF := rF.below RE.stays hb3
    have ro3 := ro2.below hb3
    have B3 := B2.tr hb3
    clear ro2 B2 hb3 zr
    have zr := bR.c1
    go_wp2_with fail
    refine (CL _ _ (ro3.rd lenInt (by decide))).mono ?_
    rintro e w4 ⟨AL, cL, rfl, oL, hb4⟩
    replace bR := bR.bl hb4
    replace rF := rF.below RE.stays hb4
    replace oP := oP.below hb4
    have ro4 := ro3.below hb4
    have B4 := B3.tr hb4
    clear ro3 B3 hb4 zr
    have zr := bR.c1
    go_wp2_with fail
    refine (CX _ _ (ro4.rd lenInt (by decide))).mono ?_
    rintro e w5 ⟨AX, cX, rfl, oX, hb5⟩
    replace bR := (bR.bl hb5).alloc (.cells #[.slice AX X.length cX] 26)
    replace rF := rF.below RE.stays ((Below.refl w4.heap.size w4).tr hb5)
    have rF5 := rF.below RE.stays ((Below.refl w5.heap.size w5).al (.cells #[.slice AX X.length cX] 26))
    replace oP := (oP.below hb5).alloc (.cells #[.slice AX X.length cX] 26)
    replace oL := (oL.below hb5).alloc (.cells #[.slice AX X.length cX] 26)
    replace oX := oX.alloc (.cells #[.slice AX X.length cX] 26)
    have ro5 := (ro4.below hb5).alloc (.cells #[.slice AX X.length cX] 26)
    have B5 := (B4.tr hb5).al (.cells #[.slice AX X.length cX] 26)
    have bX := Blk.new_ w5 26 #[.slice AX X.length cX]
    clear ro4 B4 hb5 zr rF
    go_wp2_with fail
    obtain ⟨W0, hW0⟩ : ∃ W0, W0 = w5.alloc (.cells #[.slice AX X.length cX] 26) := ⟨_, rfl⟩
    obtain ⟨gX, hgX⟩ : ∃ q, q = w5.heap.size := ⟨_, rfl⟩
    rw [← hW0] at bR rF5 oP oL oX ro5 B5 bX ⊢
    rw [← hgX] at bX ⊢
    clear hW0 hgX
    go_loopw [8] (fun s8 wr => ∃ k : Nat, k ≤ L.length ∧ s8 = .int .i64 k ∧ Below W0.heap.size W0 wr) (fun i _ => L.length - (intOf i).toNat)
    case atStart => exact ⟨0, Nat.zero_le _, rfl, Below.refl _ _⟩
    case round =>
      obtain ⟨k, hk, rfl, hb⟩ := hrel
      by_cases hlt : k < L.length
      · obtain ⟨g, D, d, rfl, hg1, hg2, zt, ot⟩ := (oL.below hb).pick hlt
        have hltI : (k : Int) < (L.length : Int) := by omega
        obtain ⟨hm1, hm2⟩ := Hmem.out _ (List.getElem_mem hlt)
        obtain ⟨t, hte⟩ : ∃ t, t = L[k] := ⟨_, rfl⟩
        rw [← hte] at zt ot hm1 hm2
        have Hm1 := Lib.hid hm1; have Hm2 := Lib.hid hm2
        clear hm1 hm2 hte
        go_wp2_with fail
        refine (noChange_any _ _ t P _ (ot.rd lenDom (by decide)) ((oP.below hb).rd lenDom (by decide)) Hm1.out).mono ?_
        rintro e w7 ⟨rfl, hb7⟩
        have zt7 : w7.cell? ⟨g, k, none⟩ = some (.slice D t.length d) := by rw [← zt]; exact hb7.cell (p := ⟨g, k, none⟩) hg2
        have hg7 : g < w7.heap.size := Nat.lt_of_lt_of_le hg2 hb7.size
        have ot7 := ot.below hb7
        have hb' := hb.tr hb7
        clear zt ot hb hb7 hg2
        go_wp2_with fail
        refine (noChange_any _ _ F t _ (rF5.below RE.stays hb') (ot7.rd lenDom (by decide)) Hm2.out).mono ?_
        rintro e w8 ⟨rfl, hb8⟩
        go_wp2
        go_roundw
        case rel => exact ⟨k + 1, by omega, by go_num, hb'.tr hb8⟩
        case measure => simp [intOf]; omega
      · obtain rfl : k = L.length := by omega
        replace bR := bR.bl hb
        replace rF5 := rF5.below RE.stays hb
        replace oP := oP.below hb
        replace oX := oX.below hb
        replace bX := bX.bl hb
        have ro6 := ro5.below hb
        have B6 := B5.tr hb
        clear ro5 B5 hb oL hlt hk
        have zr := bR.c1
        go_wp2_with fail
        refine (CC _ _ (ro6.rd lenInt (by decide))).mono ?_
        rintro e w9 ⟨AC, cC, rfl, oC, hb9⟩
        replace bR := bR.bl hb9
        replace rF5 := rF5.below RE.stays hb9
        replace oP := oP.below hb9
        replace oX := oX.below hb9
        replace bX := bX.bl hb9
        have ro7 := ro6.below hb9
        have B7 := B6.tr hb9
        clear ro6 B6 hb9 zr
        obtain ⟨W1, hW1⟩ : ∃ W1, W1 = w9 := ⟨_, rfl⟩
        rw [← hW1] at bR rF5 oP oX bX ro7 B7 oC ⊢
        clear hW1
        go_wp2_with fail
        go_loopw [10] (fun s10 wr => ∃ k : Nat, k ≤ cs.length ∧ s10 = .int .i64 k ∧ Below W1.heap.size W1 wr) (fun i _ => cs.length - (intOf i).toNat)
        case atStart => exact ⟨0, Nat.zero_le _, rfl, Below.refl _ _⟩
        case round =>
          obtain ⟨k, hk, rfl, hb⟩ := hrel
          by_cases hlt : k < cs.length
          · obtain ⟨b, off, rfl, hbl, q1, q2⟩ := ((oC.below hb).rd lenCell (by decide)).atPair hlt
            have hltI : (k : Int) < (cs.length : Int) := by omega
            obtain ⟨hc1, hc2, hc3⟩ := Hcell.out k hlt
            obtain ⟨e, he⟩ : ∃ e, e = cs[k] := ⟨_, rfl⟩
            rw [← he] at q1 q2 hc1 hc2 hc3
            obtain ⟨x, y⟩ := e
            simp only at q1 q2
            obtain ⟨n, hn⟩ : ∃ n, n = (overC rows (x, y)).length := ⟨_, rfl⟩
            obtain ⟨D, hD⟩ : ∃ D, D = domAt F (x, y) := ⟨_, rfl⟩
            have CO : ∀ (u : Value) (w : World), Rd 1 RInt w u rows → Calls Try.prog 33 #[.agg #[u], .agg #[.int .i64 x, .int .i64 y]] w (Ret (.int .i64 (n : Nat)) w) := fun u w k1 => by rw [hn]; exact overI_any u rows x y w k1 Hr.out
            have CD : ∀ (w' : World), Rd 3 RDom w' (.slice AF F.length cF) F → Calls Try.prog 34 #[.slice AF F.length cF, .agg #[.int .i64 x, .int .i64 y]] w' (Ret (.int .i64 D) w') := fun w' k1 => by rw [hD]; exact domAtS_any _ F x y w' k1
            rw [← hn] at hc1 hc2 hc3
            rw [← hD] at hc3
            clear he hn hD
            have bR1 := bR.bl hb
            have zr := bR1.c1
            have hRl := bR1.lt
            go_upto_region 17 with (fail)
            obtain ⟨V, hV⟩ : ∃ V, V = wr := ⟨_, rfl⟩
            rw [← hV] at hb q1 q2 hbl bR1 zr hRl ⊢
            clear hV
            have Bw : Below V.heap.size V V.drew := (Below.refl _ _).drew
            have hz : V.heap.size ≤ V.drew.heap.size := by simp
            refine wp_region_held_drew (S := (fun w' => w'.cell? ⟨gR, 0, none⟩ = some (.slice A rows.length c) ∧ w'.cell? ⟨b, off + k * 2, none⟩ = some (.int .i64 x) ∧ w'.cell? ⟨b, off + k * 2 + 1, none⟩ = some (.int .i64 y))) (by kernel_rfl) ?_ (fun hHeld => ?_)
            · (try dsimp only); (try go_keep)
            refine tk 0 oFnForced0 rfl (by kernel_rfl) (v := ?_) (fun _ _ _ h => h) (Or.inl ⟨by rfl, ?_⟩) (by assumption) ?_
            rotate_left 1
            · (intro wS hSw; (try dsimp only at hSw); dsimp only [oFnForced0]; go_simp; (all_goals with_reducible rfl))
            simp only [oFnForced0, putL, List.set]
            refine tk 1 oFnForced1 rfl (by kernel_rfl) (v := ?_) (fun _ _ _ h => h) (Or.inl ⟨by rfl, ?_⟩) (by assumption) ?_
            rotate_left 1
            · (intro wS hSw; (try dsimp only at hSw); dsimp only [oFnForced1]; go_simp; (all_goals with_reducible rfl))
            simp only [oFnForced1, putL, List.set]
            refine tk 2 oFnForced2 rfl (by kernel_rfl) (v := ?_) (fun _ _ _ h => h) (Or.inl ⟨by rfl, ?_⟩) (by assumption) ?_
            rotate_left 1
            · (intro wS hSw; (try dsimp only at hSw); dsimp only [oFnForced2]; go_simp; (all_goals with_reducible rfl))
            simp only [oFnForced2, putL, List.set]
            refine tk 3 oFnForced3 rfl (by kernel_rfl) (v := ?_) (fun _ _ _ h => h) (Or.inl ⟨by rfl, ?_⟩) (by assumption) ?_
            rotate_left 1
            · (intro wS hSw; (try dsimp only at hSw); dsimp only [oFnForced3]; go_simp; (all_goals with_reducible rfl))
            simp only [oFnForced3, putL, List.set]
            refine tk 4 oFnForced4 rfl (by kernel_rfl) (v := ?_) (fun _ _ _ h => h) (Or.inl ⟨by rfl, ?_⟩) (by assumption) ?_
            rotate_left 1
            · (intro wS hSw; (try dsimp only at hSw); dsimp only [oFnForced4]; go_simp; (all_goals with_reducible rfl))
            simp only [oFnForced4, putL, List.set]
            refine wpAnyH_ready (rs := [5]) (by kernel_rfl) (by simp) ?_
            refine AllReadyH.cons (o := oFnForced5) rfl (fun K hK => ?_) AllReadyH.nil
            dsimp only [oFnForced5]
            go_simp
            (first | (go_at_call 33; go_must (refine (CO _ _ ((ro7.below (hb.tr Bw)).rd lenInt (by decide))).mono ?_; rintro e wX ⟨rfl, hbX⟩; obtain ⟨hcX, hfX, hzX⟩ := bkn hbX V.heap.size hz; have hz := hzX; have Bw := Bw.tr hbX); (try go_wp2_with fail)))
            refine hK.out _ _ ?_ (fun hHeld => ?_)
            · (try dsimp only); (try go_keep)
            clear hK K
            (try simp only [Act.put, List.setIfInBounds_toArray, List.set_cons_zero, List.set_cons_succ])
            refine tk 6 oFnForced6 rfl (by kernel_rfl) (v := ?_) (fun _ _ _ h => h) (Or.inl ⟨by rfl, ?_⟩) (by assumption) ?_
            rotate_left 1
            · (intro wS hSw; (try dsimp only at hSw); dsimp only [oFnForced6]; go_simp; (all_goals with_reducible rfl))
            simp only [oFnForced6, putL, List.set]
            refine wpAnyH_done (by kernel_rfl) ?_ _
            have n1 : decide ((n : Int) < 1) = false := decide_eq_false (by omega)
            have n2 : decide ((4 : Int) < (n : Int)) = false := decide_eq_false (by omega)
            have n1' : ¬ (n : Int) < 1 := by omega
            have n2' : ¬ (4 : Int) < (n : Int) := by omega
            have q1' : wX.cell? ⟨b, off + k * 2, none⟩ = some (.int .i64 x) := by rw [← q1]; exact Bw.cell (p := ⟨b, off + k * 2, none⟩) hbl
            have q2' : wX.cell? ⟨b, off + k * 2 + 1, none⟩ = some (.int .i64 y) := by rw [← q2]; exact Bw.cell (p := ⟨b, off + k * 2 + 1, none⟩) hbl
            have hbl' : b < wX.heap.size := Nat.lt_of_lt_of_le hbl Bw.size
            have hbX' := hb.tr Bw
            obtain ⟨V2, hV2⟩ : ∃ V2, V2 = wX := ⟨_, rfl⟩
            rw [← hV2] at q1' q2' hbl' hbX' ⊢
            clear hV2 hcX hfX hz Bw q1 q2 zr hRl bR1 hb hbl
            (try clear hHeld)
            by_cases hone : n = 1
            · have d1 : (0 : Int) ≤ D := hc3.1 hone
              have d2 : decide ((0 : Int) ≤ D) = true := decide_eq_true d1
              have d3 : ((n : Int) == 1) = true := by rw [hone]; rfl
              clear hc1 hc2 hc3 hone
              go_wp2_with fail
              refine (CD _ (rF5.below RE.stays hbX')).mono ?_
              rintro e w11 ⟨rfl, hb11⟩
              go_wp2
              go_roundw
              case rel => exact ⟨k + 1, by omega, by go_num, hbX'.tr hb11⟩
              case measure => simp [intOf]; omega
            · have d1 : ¬ (0 : Int) ≤ D := fun q => hone (hc3.2 q)
              have d2 : decide ((0 : Int) ≤ D) = false := decide_eq_false d1
              have d3 : ((n : Int) == 1) = false := by rw [beq_eq_false_iff_ne]; omega
              clear hc1 hc2 hc3 hone
              go_wp2_with fail
              refine (CD _ (rF5.below RE.stays hbX')).mono ?_
              rintro e w11 ⟨rfl, hb11⟩
              go_wp2
              go_roundw
              case rel => exact ⟨k + 1, by omega, by go_num, hbX'.tr hb11⟩
              case measure => simp [intOf]; omega
          · obtain rfl : k = cs.length := by omega
            replace bR := bR.bl hb
            replace oP := oP.below hb
            replace oX := oX.below hb
            replace bX := bX.bl hb
            have ro8 := ro7.below hb
            have B8 := B7.tr hb
            clear ro7 B7 hb oC rF5 hlt hk
            obtain ⟨W2, hW2⟩ : ∃ W2, W2 = wr := ⟨_, rfl⟩
            rw [← hW2] at bR oP oX bX ro8 B8 ⊢
            clear hW2
            by_cases hp0 : P.length = 0
            · have hp1 : decide ((0 : Int) < (P.length : Int)) = false := decide_eq_false (by omega)
              have hp2 : ¬ (0 : Int) < (P.length : Int) := by omega
              have zx := bX.c1
              go_wp2_with fail
              refine (CT _ _ (oX.rd lenInt (by decide))).mono ?_
              rintro e w20 ⟨rfl, hb20⟩
              have bX20 := bX.bl hb20
              have oX20 := oX.below hb20
              have B20 := B8.tr hb20
              clear zx
              have zx := bX20.c1
              go_wp2_with fail
              refine (CG _ _ (oX20.rd lenInt (by decide))).mono ?_
              rintro e w21 ⟨AG, cG, rfl, hb21⟩
              have bX21 := bX20.bl hb21
              have oX21 := oX20.below hb21
              have B21 := B20.tr hb21
              clear zx
              have zx := bX21.c1
              go_wp2_with fail
              refine (CN _ _ (oX21.rd lenInt (by decide))).mono ?_
              rintro e w22 ⟨rfl, hb22⟩
              go_wp2
              go_ret
              exact ⟨rfl, B21.tr hb22⟩
            · have hp1 : decide ((0 : Int) < (P.length : Int)) = true := decide_eq_true (by omega)
              have hp2 : (0 : Int) < (P.length : Int) := by omega
              go_wp2_with fail
              refine (atQ_any _ l 0 _ (h.below RE.stays B8) Hok.out hl (by decide) (by decide)).mono ?_
              rintro e w12 ⟨a0, ha1, ha2, rfl, rfl⟩
              obtain ⟨n0, rfl⟩ := Int.eq_ofNat_of_zero_le ha1
              have hjl : n0 % P.length < P.length := Nat.mod_lt _ (by omega)
              have e1 : (n0 : Int) % (P.length : Int) = ((n0 % P.length : Nat) : Int) := by simp
              have e2 : Int.tmod (n0 : Int) (P.length : Int) = ((n0 % P.length : Nat) : Int) := tmod_nat _ _
              obtain ⟨j, hj⟩ : ∃ j, j = n0 % P.length := ⟨_, rfl⟩
              rw [← hj] at hjl e1 e2
              have e3 : ((n0 : Int) % (P.length : Int)).toNat = j := by rw [e1]; rfl
              have e4 : (Int.tmod (n0 : Int) (P.length : Int)).toNat = j := by rw [e2]; rfl
              have e5 : IntKind.i64.wrap (j : Int) = (j : Int) := IntWalk.i64_in _ (by omega)
              have hjI : (j : Int) < (P.length : Int) := by omega
              have hpz : ((P.length : Int) == 0) = false := by rw [beq_eq_false_iff_ne]; omega
              have hpz2 : (P.length : Int) ≠ 0 := by omega
              obtain ⟨b0, off, rfl, hbl, q1, q2, q3⟩ := (oP.rd lenDom (by decide)).atDom hjl
              obtain ⟨a, b, s1, s2, s3, s4, s5, s6, s7, s8⟩ := Hshare.out _ (List.getElem_mem hjl)
              obtain ⟨e, he⟩ : ∃ e, e = P[j] := ⟨_, rfl⟩
              rw [← he] at q1 q2 q3 s1
              obtain ⟨dx, dy, dd⟩ := e
              simp only at q1 q2 q3
              have hLb : L.length = b := by have h1 := Hcn.out; rw [s2, ← HL.out] at h1; omega
              have CS : ∀ (u : Value) (w : World), Rd 1 RInt w u rows → Calls Try.prog 36 #[.agg #[u], .agg #[.int .i64 dx, .int .i64 dy, .bool dd]] w (Ret2 ((a / Nat.gcd a b : Nat) : Int) ((b / Nat.gcd a b : Nat) : Int) w) := fun u w k1 => shareI_any u rows dx dy dd w k1 a b s1 s2 s3
              have CW : ∀ (u : Value) (w : World), Rd 1 RInt w u rows → Calls Try.prog 37 #[.agg #[u], .agg #[.int .i64 dx, .int .i64 dy, .bool dd]] w (Ret (.int .i64 (a : Nat)) w) := fun u w k1 => by have := cntWithS_any u rows dx dy dd w k1; rw [s1] at this; exact this
              have l1 : a / Nat.gcd a b ≤ a := Nat.div_le_self _ _
              have l2 : b / Nat.gcd a b ≤ b := Nat.div_le_self _ _
              obtain ⟨x, hx⟩ : ∃ x, x = a / Nat.gcd a b := ⟨_, rfl⟩
              obtain ⟨y, hy⟩ : ∃ y, y = b / Nat.gcd a b := ⟨_, rfl⟩
              rw [← hx, ← hy] at CS s7 s8
              rw [← hx] at s6 l1
              rw [← hy] at l2
              have m1 : x * b ≤ 300 * 300 := Nat.mul_le_mul (by omega) (by omega)
              obtain ⟨M, hM⟩ : ∃ M, M = x * b := ⟨_, rfl⟩
              have hM2 : y * a = M := by rw [hM]; exact s8.symm
              rw [← hM] at m1
              have p1 : (x : Int) * (L.length : Int) = (M : Int) := by rw [hLb, hM]; simp
              have p2 : (y : Int) * (a : Int) = (M : Int) := by rw [← hM2]; simp
              have p3 : IntKind.i64.wrap ((x : Int) * (L.length : Int)) = (M : Int) := by rw [p1]; exact IntWalk.i64_in _ (by omega)
              have p4 : IntKind.i64.wrap ((y : Int) * (a : Int)) = (M : Int) := by rw [p2]; exact IntWalk.i64_in _ (by omega)
              have p5 : IntKind.i64.wrap (M : Int) = (M : Int) := IntWalk.i64_in _ (by omega)
              have r1 : decide ((x : Int) < 1) = false := decide_eq_false (by omega)
              have r1' : ¬ (x : Int) < 1 := by omega
              have r2 : decide ((y : Int) < (x : Int)) = false := decide_eq_false (by omega)
              have r2' : ¬ (y : Int) < (x : Int) := by omega
              clear s1 s2 s3 s4 s6 s7 s8 hx hy hM hM2 he hLb l1 l2 m1 hj hjl
              have bR1 := bR.alloc (.cells #[.int .i64 dx, .int .i64 dy, .bool dd] 66)
              have oX1 := oX.alloc (.cells #[.int .i64 dx, .int .i64 dy, .bool dd] 66)
              have bX1 := bX.alloc (.cells #[.int .i64 dx, .int .i64 dy, .bool dd] 66)
              have ro1 := ro8.alloc (.cells #[.int .i64 dx, .int .i64 dy, .bool dd] 66)
              have B1 := B8.al (.cells #[.int .i64 dx, .int .i64 dy, .bool dd] 66)
              have bD1 := Blk.new_ W2 66 #[.int .i64 dx, .int .i64 dy, .bool dd]
              go_upto_region 22 with (fail)
              obtain ⟨V, hV⟩ : ∃ V, V = W2.alloc (.cells #[.int .i64 dx, .int .i64 dy, .bool dd] 66) := ⟨_, rfl⟩
              obtain ⟨gD, hgD⟩ : ∃ q, q = W2.heap.size := ⟨_, rfl⟩
              rw [← hV] at bR1 oX1 bX1 ro1 B1 bD1 ⊢
              rw [← hgD] at bD1 ⊢
              clear hV hgD bR oX bX ro8 B8 oP q1 q2 q3 hbl
              have zr := bR1.c1
              have d_0 := bD1.cell 0
              have d_1 := bD1.cell 1
              have d_2 := bD1.cell 2
              simp only [List.getElem?_toArray, List.getElem?_cons_zero, List.getElem?_cons_succ] at d_0 d_1 d_2
              go_wp2_with fail
              refine (CS _ _ (ro1.rd lenInt (by decide))).mono ?_
              rintro e w13 ⟨rfl, hb13⟩
              have bR2 := bR1.bl hb13
              have oX2 := oX1.below hb13
              have bX2 := bX1.bl hb13
              have ro2 := ro1.below hb13
              have B2 := B1.tr hb13
              have bD2 := bD1.bl hb13
              clear bR1 oX1 bX1 ro1 B1 bD1 hb13 zr d_0 d_1 d_2
              have zr := bR2.c1
              have d_0 := bD2.cell 0
              have d_1 := bD2.cell 1
              have d_2 := bD2.cell 2
              simp only [List.getElem?_toArray, List.getElem?_cons_zero, List.getElem?_cons_succ] at d_0 d_1 d_2
              go_wp2_with fail
              refine (CW _ _ (ro2.rd lenInt (by decide))).mono ?_
              rintro e w14 ⟨rfl, hb14⟩
              have oX3 := oX2.below hb14
              have bX3 := bX2.bl hb14
              have B3 := B2.tr hb14
              clear bR2 oX2 bX2 ro2 B2 bD2 hb14 zr d_0 d_1 d_2
              have zx := bX3.c1
              go_wp2_with fail
              refine (CT _ _ (oX3.rd lenInt (by decide))).mono ?_
              rintro e w20 ⟨rfl, hb20⟩
              have bX20 := bX3.bl hb20
              have oX20 := oX3.below hb20
              have B20 := B3.tr hb20
              clear zx
              have zx := bX20.c1
              go_wp2_with fail
              refine (CG _ _ (oX20.rd lenInt (by decide))).mono ?_
              rintro e w21 ⟨AG, cG, rfl, hb21⟩
              have bX21 := bX20.bl hb21
              have oX21 := oX20.below hb21
              have B21 := B20.tr hb21
              clear zx
              have zx := bX21.c1
              go_wp2_with fail
              refine (CN _ _ (oX21.rd lenInt (by decide))).mono ?_
              rintro e w22 ⟨rfl, hb22⟩
              go_wp2
              go_ret
              exact ⟨rfl, B21.tr hb22⟩
end Go.Proofs.Ytmmeomjclfgljaa
