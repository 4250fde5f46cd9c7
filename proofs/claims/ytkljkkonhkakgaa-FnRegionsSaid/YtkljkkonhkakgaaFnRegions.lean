/- FnRegions: for all bytes the law returns true. No conditions. -/
import Derived.Test.YtkljkkonhkakgaaRegPlain
import Derived.Test.YtkljkkonhkakgaaDrawR
import Derived.Test.YtkljkkonhkakgaaRegConv
import Derived.Test.YtkljkkonhkakgaaFnBoxes
namespace Go.Proofs.Ytkljkkonhkakgaa
open Go.ChangeShapes Go.WideShapes Go.ChangeAt Go.RowKit
set_option linter.unusedVariables false

theorem withCellI_ix (v : Value) (rows : List Int) (i : Nat) (on : Bool) (w : World) (h : Rd 1 RInt w v rows) (Hok : Hid (RowsOk rows)) (hi : i < 64) :
    Calls Try.prog 25 #[.agg #[v], .agg #[.int .i64 ((i : Int) % 8), .int .i64 ((i : Int) / 8)], .bool on] w (RetRegB (rowsOf (withSet (setOf rows) i on) 8) true w) := by
  have h1 := Hok.out.1
  have := withCellI_any v rows (ixCell i).1 (ixCell i).2 on w h (by unfold Small; omega)
  have e : withCell rows ((ixCell i).1, (ixCell i).2) on = (rowsOf (withSet (setOf rows) i on) 8, true) := withCell_ix Hok.out hi on
  rw [e] at this; exact this
theorem hasCellI_ix (v : Value) (rows : List Int) (i : Nat) (w : World) (h : Rd 1 RInt w v rows) (Hok : Hid (RowsOk rows)) (hi : i < 64) :
    Calls Try.prog 29 #[.agg #[v], .agg #[.int .i64 ((i : Int) % 8), .int .i64 ((i : Int) / 8)]] w (Ret (.bool ((setOf rows).testBit i)) w) := by
  have := hasCellI_any v rows (ixCell i).1 (ixCell i).2 w h
  have e : hasCell rows ((ixCell i).1, (ixCell i).2) = (setOf rows).testBit i := hasCell_ix Hok.out hi
  rw [e] at this; exact this
theorem hasCellI_xy (v : Value) (rows : List Int) (x y : Nat) (w : World) (h : Rd 1 RInt w v rows) (Hok : Hid (RowsOk rows)) (hx : x < 8) (hy : y < 8) :
    Calls Try.prog 29 #[.agg #[v], .agg #[.int .i64 x, .int .i64 y]] w (Ret (.bool ((setOf rows).testBit (8 * y + x))) w) := by
  have := hasCellI_ix v rows (8 * y + x) w h Hok (by omega)
  rw [show ((8 * y + x : Nat) : Int) % 8 = x by omega, show ((8 * y + x : Nat) : Int) / 8 = y by omega] at this; exact this
theorem rectI_int (a b : Int) (w : World) (ha1 : 1 ≤ a) (ha8 : a ≤ 8) (hb1 : 1 ≤ b) (hb8 : b ≤ 8) : Calls Try.prog 32 #[.int .i64 a, .int .i64 b] w (RetReg (rectRows a.toNat b.toNat) w) := by
  obtain ⟨a, rfl⟩ := Int.eq_ofNat_of_zero_le (show 0 ≤ a by omega)
  obtain ⟨b, rfl⟩ := Int.eq_ofNat_of_zero_le (show 0 ≤ b by omega)
  rw [Int.toNat_natCast, Int.toNat_natCast]
  exact rectI_yes a b w ⟨by omega, by omega⟩ ⟨by omega, by omega⟩
theorem btoi_any (b : Bool) (w : World) : Calls Try.prog 28 #[.bool b] w (Pure (.int .i64 (if b then 1 else 0)) w) := by
  cases b
  all_goals
    go_enter Try.func28, Try.ntmps28
    go_wp2
    go_ret
    exact ⟨rfl, rfl⟩

set_option maxHeartbeats 8000000 in
set_option maxRecDepth 100000 in
theorem FnRegions_walk (w : World) (v : Value) (l : List Int) (h : Rd 1 RByte w v l) (ok : AllOk (fun x => 0 ≤ x ∧ x ≤ 255) l) :
    Calls Try.prog 4 #[v] w (Ret (.bool true) w) := by
  by_cases hsz : 1048576 < l.length
  · have hd : decide (1048576 < l.length) = true := by simpa using hsz
    have Hd := Lib.hid hd; clear hd
    go_enter Try.func4, Try.ntmps4
    go_wp2_with fail
    refine (big_any _ l _ h).mono ?_
    rintro e w0 ⟨rfl, rfl⟩
    rw [Hd.out]
    go_wp2
    go_ret
    exact ⟨rfl, Below.refl _ _⟩
  · have hd : decide (1048576 < l.length) = false := by simpa using hsz
    have Hd := Lib.hid hd; clear hd
    have hl : l.length ≤ 1048576 := by omega
    have Hok := Lib.hid ok; clear ok
    go_enter Try.func4, Try.ntmps4
    go_wp2_with fail
    refine (big_any _ l _ h).mono ?_
    rintro e w0 ⟨rfl, rfl⟩
    rw [Hd.out]
    go_wp2_with fail
    refine (drawRegion_any _ l _ h Hok.out hl).mono ?_
    rintro e w3 ⟨rows, hr1, hr5, hrr, A3, c3, rfl, own3, hb3⟩
    have hro : RowsOk rows := ⟨by omega, hrr⟩
    have hs := setOf_lt hro
    obtain ⟨s, hse⟩ : ∃ s, s = setOf rows := ⟨_, rfl⟩
    rw [← hse] at hs
    have Hro := Lib.hid hro; have Hse := Lib.hid hse; clear hro hse hrr
    have x3 := Blk.new_ w3 37 #[.slice A3 rows.length c3]
    have B3 := hb3.al (.cells #[.slice A3 rows.length c3] 37)
    have r3 := (own3.alloc (.cells #[.slice A3 rows.length c3] 37)).rd lenInt (by decide)
    clear own3 hb3
    go_wp2_with fail
    refine (at_any _ l 0 _ (h.below RE.stays B3) Hok.out hl (by decide) (by decide)).mono ?_
    rintro e w4 ⟨a0, ha1, ha2, rfl, rfl⟩
    obtain ⟨I, hI⟩ : ∃ I : Nat, a0 % 64 = (I : Int) := ⟨(a0 % 64).toNat, by omega⟩
    have hI64 : I < 64 := by omega
    go_wp2_with fail
    refine (cellAtS_yes I _ hI64).mono ?_
    rintro e w4 ⟨rfl, hb4⟩
    obtain ⟨hc4, hf4, hz4⟩ := bk hb4
    (try simp at hz4)
    have hy4_0 : w3.heap.size < w4.heap.size := by omega
    have x34 := (x3.below hb4 x3.lt).alloc (.cells #[.int .i64 ((I : Int) % 8), .int .i64 ((I : Int) / 8)] 40)
    have x44 := Blk.new_ w4 40 #[.int .i64 ((I : Int) % 8), .int .i64 ((I : Int) / 8)]
    have B4 := (B3.tr hb4).al (.cells #[.int .i64 ((I : Int) % 8), .int .i64 ((I : Int) / 8)] 40)
    have r34 := (r3.below RE.stays hb4).below RE.stays ((Below.refl _ _).al (.cells #[.int .i64 ((I : Int) % 8), .int .i64 ((I : Int) / 8)] 40))
    have HI := Lib.hid hI
    obtain ⟨b3, hb3⟩ : ∃ b3, b3 = w3.heap.size := ⟨_, rfl⟩
    have z3 := (x3.below hb4 x3.lt).c1
    rw [← hb3] at x34 z3 ⊢
    have h34 : b3 < w4.heap.size := by omega
    clear x3 B3 r3 hc4 hf4 hz4 hy4_0 hI hb3 hb4
    go_wp2_with fail
    refine (withCellI_ix _ rows I true _ r34 Hro hI64).mono ?_
    rintro e w6 ⟨A6, c6, rfl, own6, hb6⟩
    obtain ⟨b4, hb4⟩ : ∃ b4, b4 = w4.heap.size := ⟨_, rfl⟩
    have x36 := x34.below hb6 x34.lt
    have x46 := x44.below hb6 x44.lt
    have B6 := B4.tr hb6
    have r36 := r34.below RE.stays hb6
    have r66 := own6.rd lenInt (by decide)
    rw [← hb4] at x46 h34 ⊢
    rw [← Hse.out] at own6 r66 ⊢
    have hra := rowsOf_ok (withSet s I true) 8 (by decide)
    have hrl := rowsOf_len (withSet s I true) 8
    have hsa := setOf_rowsOf (wset_lt hs hI64 true)
    obtain ⟨ra, hrae⟩ : ∃ ra, ra = rowsOf (withSet s I true) 8 := ⟨_, rfl⟩
    rw [← hrae] at hra hrl hsa r66 ⊢
    have y3 := x36.c1
    have y4 := x46.cell 0
    have y4' := x46.cell 1
    simp only [List.getElem?_toArray, List.getElem?_cons_zero, List.getElem?_cons_succ] at y4 y4'
    have h3l := x36.lt
    have h4l := x46.lt
    have Hra := Lib.hid hra; have Hrl := Lib.hid hrl; have Hsa := Lib.hid hsa; have Hb4 := Lib.hid hb4
    clear hra hrl hsa hrae hb4 x34 x44 B4 r34 z3 own6
    rw [Hrl.out] at r66 ⊢
    have hn34 : b3 ≠ b4 := by omega
    go_wp2_with fail
    have x66 := Blk.new_ w6 37 #[.slice A6 8 c6]
    have x37 := x36.alloc (.cells #[.slice A6 8 c6] 37)
    have x47 := x46.alloc (.cells #[.slice A6 8 c6] 37)
    have B7 := B6.al (.cells #[.slice A6 8 c6] 37)
    have K7 := (Below.refl w6.heap.size w6).al (.cells #[.slice A6 8 c6] 37)
    have r37 := r36.below RE.stays K7
    have r67 := r66.below RE.stays K7
    refine (withCellI_ix _ ra I false _ r67 Hra hI64).mono ?_
    rintro e w8 ⟨A8, c8, rfl, own8, hb8⟩
    obtain ⟨b6, hb6'⟩ : ∃ b6, b6 = w6.heap.size := ⟨_, rfl⟩
    rw [Hsa.out, wset_two hs hI64] at own8 ⊢
    have hrb := rowsOf_ok (withSet s I false) 8 (by decide)
    have hrlb := rowsOf_len (withSet s I false) 8
    have hsb := setOf_rowsOf (wset_lt hs hI64 false)
    obtain ⟨rb, hrbe⟩ : ∃ rb, rb = rowsOf (withSet s I false) 8 := ⟨_, rfl⟩
    rw [← hrbe] at hrb hrlb hsb own8 ⊢
    have r88 := own8.rd lenInt (by decide)
    rw [hrlb] at r88 ⊢
    have x38 := x37.below hb8 x37.lt
    have x48 := x47.below hb8 x47.lt
    have x68 := x66.below hb8 x66.lt
    have B8 := B7.tr hb8
    have r38 := r37.below RE.stays hb8
    have r68 := r67.below RE.stays hb8
    rw [← hb6'] at x68 h3l h4l ⊢
    have Hrb := Lib.hid hrb; have Hsb := Lib.hid hsb; have Hb6 := Lib.hid hb6'
    have y3 := x38.c1
    have y4 := x48.cell 0
    have y4' := x48.cell 1
    have y6 := x68.c1
    simp only [List.getElem?_toArray, List.getElem?_cons_zero, List.getElem?_cons_succ] at y4 y4'
    have h68 := x68.lt
    clear hrb hrlb hsb hrbe hb6' x36 x46 x66 x37 x47 B6 B7 K7 r36 r66 r37 r67 own8 hb8 hb6
    have hn36 : b3 ≠ b6 := by omega
    have hn46 : b4 ≠ b6 := by omega
    have h38 : b3 < w8.heap.size := by omega
    have h48 : b4 < w8.heap.size := by omega
    go_wp2_with fail
    have K9 := (Below.refl w8.heap.size w8).al (.cells #[.slice A8 8 c8] 37)
    have x89 := Blk.new_ w8 37 #[.slice A8 8 c8]
    have x39 := x38.below K9 x38.lt
    have x49 := x48.below K9 x48.lt
    have x69 := x68.below K9 x68.lt
    have B9 := B8.tr K9
    have r39 := r38.below RE.stays K9
    have r69 := r68.below RE.stays K9
    have r89 := r88.below RE.stays K9
    refine (countCellsI_any _ rows _ r39).mono ?_
    rintro e w10 ⟨rfl, hb10⟩
    obtain ⟨cn, hcn⟩ : ∃ cn, cn = (regCells rows).length := ⟨_, rfl⟩
    have hcn64 := regCells_le rows
    obtain ⟨b8, hb8⟩ : ∃ b8, b8 = w8.heap.size := ⟨_, rfl⟩
    rw [← hcn] at hcn64 ⊢
    rw [← hb8] at x89 h68 ⊢
    have x3 := x39.below hb10 x39.lt
    have x4 := x49.below hb10 x49.lt
    have x6 := x69.below hb10 x69.lt
    have x8 := x89.below hb10 x89.lt
    have B10 := B9.tr hb10
    have r3 := r39.below RE.stays hb10
    have r6 := r69.below RE.stays hb10
    have r8 := r89.below RE.stays hb10
    have Hcn := Lib.hid hcn; have Hb8 := Lib.hid hb8
    clear y3 y4 y4' y6 x38 x48 x68 x39 x49 x69 x89 B8 B9 K9 r38 r68 r88 r39 r69 r89 hb10 hcn hb8
    have y3 := x3.c1
    have h8l := x8.lt
    go_wp2_with fail
    refine (regTextI_yes _ rows _ r3 Hro).mono ?_
    rintro e w11 ⟨A11, c11, rfl, own11, hb11⟩
    rw [← Hse.out] at own11 ⊢
    have htl : (textTo s rows.length).length = rows.length := by simp [textTo]
    rw [htl] at own11 ⊢
    have x3 := x3.below hb11 x3.lt
    have x4 := x4.below hb11 x4.lt
    have x6 := x6.below hb11 x6.lt
    have x8 := x8.below hb11 x8.lt
    have B11 := B10.tr hb11
    have r3 := r3.below RE.stays hb11
    have r6 := r6.below RE.stays hb11
    have r8 := r8.below RE.stays hb11
    have t11 := own11.rd lenStr (by decide)
    have Htl := Lib.hid htl
    have Hmarks := Lib.hid (marks_all Hro.out)
    rw [← Hse.out, ← Hcn.out] at Hmarks
    clear htl hb11 y3 B10 own11
    go_wp2
    go_loopw [12, 13] (fun s12 s13 wr => ∃ y m : Nat, y ≤ rows.length ∧ m ≤ 64 ∧ s13 = .int .i64 y ∧ s12 = .int .i64 m ∧ Hid (m = (cellsTo s (8 * y)).length) ∧ Below w11.heap.size w11 wr) (fun _ i _ => rows.length - (intOf i).toNat)
    case atStart => exact ⟨0, 0, Nat.zero_le _, Nat.zero_le _, rfl, rfl, Lib.hid rfl, Below.refl _ _⟩
    case round =>
      obtain ⟨y, m, hy, hm64, rfl, rfl, Hm, hbel⟩ := hrel
      by_cases hlt : y < rows.length
      · have hyt : y < (textTo s rows.length).length := by rw [Htl.out]; exact hlt
        have t12 := t11.below RE.stays hbel
        obtain ⟨bt, offt, hAt, hbt, q1⟩ := t11.atStr hyt
        have hSe : (textTo s rows.length)[y] = lineTo s y 8 := by simp [textTo]
        rw [hSe] at q1
        have hS8 := lineTo_size s y 8
        have hSbit : ∀ x, (hx : x < (lineTo s y 8).size) → (lineTo s y 8)[x] = sign (s.testBit (8 * y + x)) := fun x hx => by
          simp [lineTo, ByteArray.getElem_eq_getElem_data]
        obtain ⟨S, hS⟩ : ∃ S, S = lineTo s y 8 := ⟨_, rfl⟩
        rw [← hS] at q1 hS8
        have hSbit2 : ∀ x, (hx : x < S.size) → S[x] = sign (s.testBit (8 * y + x)) := by subst hS; exact hSbit
        subst hAt
        have q2 : wr.cell? ⟨bt, offt + y, none⟩ = some (.string S) := (hbel.cell (p := ⟨bt, offt + y, none⟩) hbt).trans q1
        have hne8 : ((S.size : Int) != 8) = false := by rw [hS8]; rfl
        have HSb := Lib.hid hSbit2; have HS := Lib.hid hS; have HS8 := Lib.hid hS8
        clear hSbit hSbit2 hS hSe hS8 t12
        go_wp2
        obtain ⟨wo, rfl⟩ : ∃ wo : World, wo = wr := ⟨_, rfl⟩
        clear hne8
        go_loopw [12, 14] (fun s12 s14 wr => ∃ x m : Nat, x ≤ 8 ∧ m ≤ 64 ∧ s14 = .int .i64 x ∧ s12 = .int .i64 m ∧ Hid (m = (cellsTo s (8 * y + x)).length) ∧ Below w11.heap.size w11 wr) (fun _ i _ => 8 - (intOf i).toNat)
        case atStart => exact ⟨0, m, by omega, hm64, rfl, rfl, Hm, hbel⟩
        case round =>
          obtain ⟨x, m', hx, hm64', rfl, rfl, Hm', hbel'⟩ := hrel
          clear q2
          have q2 : wr.cell? ⟨bt, offt + y, none⟩ = some (.string S) := (hbel'.cell (p := ⟨bt, offt + y, none⟩) hbt).trans q1
          by_cases hx8 : x < 8
          · have hxS : x < S.size := by rw [HS8.out]; exact hx8
            have hxI : (x : Int) < S.size := by omega
            have hSx := HSb.out x hxS
            have hcl := cellsTo_len s (8 * y + x)
            have hcle := cellsTo_le s (8 * y + x + 1)
            have hy8 : y < 5 := by omega
            rcases hb : s.testBit (8 * y + x) with _ | _
            · skip
              rw [hb] at hSx hcl
              have hbb : (((S[x].toNat : Nat) : Int) == 35) = false := by rw [hSx]; rfl
              have HmN : Hid (m' = (cellsTo s (8 * y + (x + 1))).length) := Lib.hid (by have := Hm'.out; rw [← Nat.add_assoc, hcl, ← this]; rfl)
              have hm2 : m' ≤ 64 := by rw [HmN.out, ← Nat.add_assoc]; omega
              have Hb := Lib.hid hb; clear hSx hcl hb hcle
              go_wp2_with fail
              refine (btoi_any _ _).mono ?_
              rintro e w12 ⟨rfl, rfl⟩
              have Bacc := hbel'.drew
              have z3 := (x3.below hbel' x3.lt).c1
              have hz11 := hbel'.size
              have h311 := x3.lt
              go_wp2_with fail
              go_region_held3 (fun w' => w'.cell? ⟨bt, offt + y, none⟩ = some (.string S) ∧ w'.cell? ⟨b3, 0, none⟩ = some (.slice A3 rows.length c3)) (go_keep) (first | (go_at_call 29; go_must (refine (hasCellI_xy _ rows x y _ (r3.below RE.stays Bacc) Hro hx8 (by omega)).mono ?_; rintro e w13 ⟨rfl, hb13⟩; rw [← Hse.out, Hb.out]; obtain ⟨hc13, hf13, hz13⟩ := bkn hb13 w11.heap.size hz11)))
              all_goals
                have B13 := Bacc.tr hb13
                go_wp2
                go_roundw
                case rel => exact ⟨x + 1, m', by omega, hm2, by go_num, by go_num, HmN, B13⟩
                case measure => simp [intOf]; omega
            · skip
              rw [hb] at hSx hcl
              have hbb : (((S[x].toNat : Nat) : Int) == 35) = true := by rw [hSx]; rfl
              have HmN : Hid ((m' + 1) = (cellsTo s (8 * y + (x + 1))).length) := Lib.hid (by have := Hm'.out; rw [← Nat.add_assoc, hcl, ← this]; rfl)
              have hm2 : (m' + 1) ≤ 64 := by rw [HmN.out, ← Nat.add_assoc]; omega
              have Hb := Lib.hid hb; clear hSx hcl hb hcle
              go_wp2_with fail
              refine (btoi_any _ _).mono ?_
              rintro e w12 ⟨rfl, rfl⟩
              have Bacc := hbel'.drew
              have z3 := (x3.below hbel' x3.lt).c1
              have hz11 := hbel'.size
              have h311 := x3.lt
              go_wp2_with fail
              go_region_held3 (fun w' => w'.cell? ⟨bt, offt + y, none⟩ = some (.string S) ∧ w'.cell? ⟨b3, 0, none⟩ = some (.slice A3 rows.length c3)) (go_keep) (first | (go_at_call 29; go_must (refine (hasCellI_xy _ rows x y _ (r3.below RE.stays Bacc) Hro hx8 (by omega)).mono ?_; rintro e w13 ⟨rfl, hb13⟩; rw [← Hse.out, Hb.out]; obtain ⟨hc13, hf13, hz13⟩ := bkn hb13 w11.heap.size hz11)))
              all_goals
                have B13 := Bacc.tr hb13
                go_wp2
                go_roundw
                case rel => exact ⟨x + 1, (m' + 1), by omega, hm2, by go_num, by go_num, HmN, B13⟩
                case measure => simp [intOf]; omega
          · obtain rfl : x = 8 := by omega
            go_wp2
            go_roundw
            case rel => exact ⟨y + 1, m', by omega, hm64', by go_num, rfl, Hm', hbel'⟩
            case measure => simp [intOf]; omega
      · obtain rfl : y = rows.length := by omega
        have hmc : m = cn := by rw [Hm.out, Hmarks.out]
        subst hmc
        go_wp2_with fail
        refine (at_any _ l 1 _ (h.below RE.stays (B11.tr hbel)) Hok.out hl (by decide) (by decide)).mono ?_
        rintro e w20 ⟨a1, hc1, hc2, rfl, rfl⟩
        go_wp2_with fail
        refine (at_any _ l 2 _ (h.below RE.stays (B11.tr hbel)) Hok.out hl (by decide) (by decide)).mono ?_
        rintro e w20 ⟨a2, hd1, hd2, rfl, rfl⟩
        have z3 := (x3.below hbel x3.lt).c1
        have z4 := (x4.below hbel x4.lt).cell 0
        have z4' := (x4.below hbel x4.lt).cell 1
        have z6 := (x6.below hbel x6.lt).c1
        have z8 := (x8.below hbel x8.lt).c1
        simp only [List.getElem?_toArray, List.getElem?_cons_zero, List.getElem?_cons_succ] at z4 z4'
        have h311 := x3.lt
        have h411 := x4.lt
        have h611 := x6.lt
        have h811 := x8.lt
        have hz := hbel.size
        have Bacc := hbel.drew
        have ha : (setOf ra).testBit I = true := by rw [Hsa.out, wset_bit hs hI64, if_pos rfl]
        have hb : (setOf rb).testBit I = false := by rw [Hsb.out, wset_bit hs hI64, if_pos rfl]
        have hd1' : decide (setOf rows = setOf ra) = (s.testBit I == true) := by rw [Hsa.out, ← Hse.out, wset_same hs hI64]
        have hd2' : decide (setOf rows = setOf rb) = (s.testBit I == false) := by rw [Hsb.out, ← Hse.out, wset_same hs hI64]
        obtain ⟨p, hp⟩ : ∃ p, p = 1 + a1 % 8 := ⟨_, rfl⟩
        obtain ⟨q, hq⟩ : ∃ q, q = 1 + a2 % 8 := ⟨_, rfl⟩
        have hp1 : 1 ≤ p := by omega
        have hp8 : p ≤ 8 := by omega
        have hq1 : 1 ≤ q := by omega
        have hq8 : q ≤ 8 := by omega
        have hpq : ((regCells (rectRows p.toNat q.toNat)).length : Int) = p * q := by
          rw [rect_count ⟨by omega, by omega⟩ ⟨by omega, by omega⟩, Int.natCast_mul, Int.toNat_of_nonneg (by omega), Int.toNat_of_nonneg (by omega)]
        have hpq2 := prod_in (a := p) (b := q) hp1 (by omega) hq1 (by omega)
        have e3 : IntKind.i64.wrap (p * q) = p * q := IntWalk.i64_in _ (by omega)
        have Ha := Lib.hid ha; have Hb := Lib.hid hb; have Hp := Lib.hid hp; have Hq := Lib.hid hq; have Hpq := Lib.hid hpq
        clear ha hb hpq hpq2
        rcases hbit : s.testBit I with _ | _
        all_goals
          rw [hbit] at hd1' hd2'
          (first | change _ = false at hd1' | change _ = true at hd1')
          (first | change _ = false at hd2' | change _ = true at hd2')
          have Hbit := Lib.hid hbit; have Hd1 := Lib.hid hd1'; have Hd2 := Lib.hid hd2'
          clear hbit hd1' hd2'
          go_wp2_with fail
          rw [← hp, ← hq]
          clear hp hq
          go_region_held3 (fun w' => w'.cell? ⟨b3, 0, none⟩ = some (.slice A3 rows.length c3) ∧ w'.cell? ⟨b4, 0, none⟩ = some (.int .i64 ((I : Int) % 8)) ∧ w'.cell? ⟨b4, 1, none⟩ = some (.int .i64 ((I : Int) / 8)) ∧ w'.cell? ⟨b6, 0, none⟩ = some (.slice A6 8 c6) ∧ w'.cell? ⟨b8, 0, none⟩ = some (.slice A8 8 c8)) (go_keep) (first | (go_at_call 29; go_must (refine ((hasCellI_ix _ _ I _ (by first | exact r3.below RE.stays Bacc | exact r6.below RE.stays Bacc | exact r8.below RE.stays Bacc) (by first | exact Hro | exact Hra | exact Hrb) hI64)).mono ?_; rintro e wX ⟨rfl, hbX⟩; (first | rw [← Hse.out, Hbit.out] | rw [Ha.out] | rw [Hb.out]); obtain ⟨hcX, hfX, hzX⟩ := bkn hbX w11.heap.size hz; have hz := hzX; have Bacc := Bacc.tr hbX)) | (go_at_call 30; go_must (refine ((sameCellsI_yes _ _ _ _ _ (r3.below RE.stays Bacc) (by first | exact r6.below RE.stays Bacc | exact r8.below RE.stays Bacc) Hro (by first | exact Hra | exact Hrb))).mono ?_; rintro e wX ⟨rfl, hbX⟩; (first | rw [Hd1.out] | rw [Hd2.out]); obtain ⟨hcX, hfX, hzX⟩ := bkn hbX w11.heap.size hz; have hz := hzX; have Bacc := Bacc.tr hbX)) | (go_at_call 31; go_must (refine ((cellsOfI_any _ rows _ (r3.below RE.stays Bacc))).mono ?_; rintro e wX ⟨AX, cX, rfl, ownX, hbX⟩; rw [← Hcn.out]; obtain ⟨hcX, hfX, hzX⟩ := bkn hbX w11.heap.size hz; have hz := hzX; have Bacc := Bacc.tr hbX)) | (go_at_call 32; go_must (refine ((rectI_int _ _ _ hp1 hp8 hq1 hq8)).mono ?_; rintro e wX ⟨AR, cR, rfl, ownR, hbX⟩; obtain ⟨hcX, hfX, hzX⟩ := bkn hbX w11.heap.size hz; have hz := hzX; have Bacc := Bacc.tr hbX)) | (go_at_call 26; go_must (refine ((countCellsI_any _ _ _ (ownR.rd lenInt (by decide)))).mono ?_; rintro e wX ⟨rfl, hbX⟩; rw [Hpq.out]; obtain ⟨hcX, hfX, hzX⟩ := bkn hbX w11.heap.size hz; have hz := hzX; have Bacc := Bacc.tr hbX)) | (go_at_call 33; go_must (refine ((regionOkI_of _ rows _ (r3.below RE.stays Bacc) Hro)).mono ?_; rintro e wX ⟨rfl, hbX⟩; obtain ⟨hcX, hfX, hzX⟩ := bkn hbX w11.heap.size hz; have hz := hzX; have Bacc := Bacc.tr hbX)))
          go_wp2
          go_ret
          exact ⟨rfl, B11.tr Bacc⟩
end Go.Proofs.Ytkljkkonhkakgaa
