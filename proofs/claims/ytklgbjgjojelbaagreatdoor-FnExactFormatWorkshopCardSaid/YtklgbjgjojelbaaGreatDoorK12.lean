/- SameCells, RegionText, Rectangle of the program: the walks. Conditions: valid regions. Plain laws for FnRegions: cells put in and taken out, counts of cells. Conditions: valid regions and cells. FloorLines of the program: the walk. No conditions but sizes. FloorLines of the reference: the walk. No conditions but sizes. The law's marks in lists of strings: markText, markStringS, heldStringS. No conditions but sizes.. Conditions, where there are any, stand in the statements. -/
import Derived.Test.YtklgbjgjojelbaaGreatDoorK3
import Derived.Test.YtklgbjgjojelbaaGreatDoorK1
import Derived.Test.YtklgbjgjojelbaaGreatDoorK4
import Derived.Laws.BytesArg
import Derived.Deep.RegionHeld3
import Derived.Deep.DeepMust
namespace Go.Proofs.YtklgbjgjojelbaaGreatDoor
open Go.ChangeShapes Go.WideShapes Go.ChangeAt Go.RowKit
set_option linter.unusedVariables false

theorem regionOkI_of (v : Value) (rows : List Int) (w : World) (h : Rd 1 RInt w v rows) (Hok : Hid (RowsOk rows)) : Calls Tryz.prog 68 #[.agg #[v]] w (Ret (.bool true) w) := by
  have := regionOkI_any v rows w h; rw [regionOk_iff.2 Hok.out] at this; exact this
def sign (b : Bool) : UInt8 := if b then 35 else 46
def lineTo (s y k : Nat) : ByteArray := ⟨((List.range k).map fun x => sign (s.testBit (8 * y + x))).toArray⟩
theorem push_eq (a : ByteArray) (x : UInt8) : a ++ (⟨#[x]⟩ : ByteArray) = a.push x := by
  apply ByteArray.ext
  rw [ByteArray.data_append]
  simp [ByteArray.push]
theorem lineTo_succ (s y k : Nat) : lineTo s y k ++ (⟨#[sign (s.testBit (8 * y + k))]⟩ : ByteArray) = lineTo s y (k + 1) := by
  rw [push_eq]
  unfold lineTo ByteArray.push
  congr 1
  simp [List.range_succ]
theorem lineTo_size (s y k : Nat) : (lineTo s y k).size = k := by simp [lineTo, ByteArray.size]
def textTo (s n : Nat) : List ByteArray := (List.range n).map fun y => lineTo s y 8

end Go.Proofs.YtklgbjgjojelbaaGreatDoor
namespace Go.Proofs.YtklgbjgjojelbaaGreatDoor
open Go.ChangeShapes Go.WideShapes Go.ChangeAt Go.RowKit
set_option linter.unusedVariables false

theorem wset_lt {s i : Nat} (hs : s < U64) (hi : i < 64) (on : Bool) : withSet s i on < U64 := by
  unfold withSet; split
  · exact sWith_lt (sDiff_lt hs) hi
  · exact sDiff_lt hs
theorem wset_bit {s i : Nat} (hs : s < U64) (hi : i < 64) (on : Bool) (j : Nat) : (withSet s i on).testBit j = if i = j then on else s.testBit j := by
  unfold withSet
  cases on
  · rw [if_neg (by simp), testBit_sWithout hs hi]
    by_cases h : i = j <;> simp [h]
  · rw [if_pos rfl, testBit_sWith, testBit_sWithout hs hi]
    by_cases h : i = j <;> simp [h]
theorem wset_same {s i : Nat} (hs : s < U64) (hi : i < 64) (on : Bool) : decide (s = withSet s i on) = (s.testBit i == on) := by
  rw [Bool.eq_iff_iff, decide_eq_true_iff, beq_iff_eq]
  refine ⟨fun h => ?_, fun h => ?_⟩
  · rw [h, wset_bit hs hi, if_pos rfl]
  · refine set_ext hs (wset_lt hs hi on) fun j _ => ?_
    rw [wset_bit hs hi]
    by_cases hij : i = j
    · subst hij; rw [if_pos rfl, h]
    · rw [if_neg hij]
theorem wset_two {s i : Nat} (hs : s < U64) (hi : i < 64) : withSet (withSet s i true) i false = withSet s i false := by
  refine set_ext (wset_lt (wset_lt hs hi _) hi _) (wset_lt hs hi _) fun j _ => ?_
  rw [wset_bit (wset_lt hs hi _) hi, wset_bit hs hi, wset_bit hs hi]
  by_cases h : i = j <;> simp [h]
theorem ixCell_ok {i : Nat} (hi : i < 64) : cellOk (ixCell i) = true := by
  rw [cellOk_iff]; unfold ixCell; simp only; omega
theorem cellIx_ix {i : Nat} (hi : i < 64) : (cellIx (ixCell i)).toNat = i := by
  rw [(cellIx_in (ixCell_ok hi)).1]; unfold ixCell; simp only; omega
theorem withCell_ix {rows : List Int} (h : RowsOk rows) {i : Nat} (hi : i < 64) (on : Bool) : withCell rows (ixCell i) on = (rowsOf (withSet (setOf rows) i on) 8, true) := by
  unfold withCell; rw [regionOk_iff.2 h, ixCell_ok hi, cellIx_ix hi]; rfl
theorem hasCell_ix {rows : List Int} (h : RowsOk rows) {i : Nat} (hi : i < 64) : hasCell rows (ixCell i) = (setOf rows).testBit i := by
  unfold hasCell; rw [regionOk_iff.2 h, ixCell_ok hi, cellIx_ix hi]; rfl
theorem cellsTo_past {rows : List Int} (h : RowsOk rows) : ∀ d, (cellsTo (setOf rows) (8 * rows.length + d)) = cellsTo (setOf rows) (8 * rows.length) := by
  intro d
  induction d with
  | zero => rfl
  | succ d ih =>
    rw [← Nat.add_assoc, cellsTo_succ, ih]
    have : (setOf rows).testBit (8 * rows.length + d) = false := by
      rw [setOf_bit h, List.getD_eq_getElem?_getD, List.getElem?_eq_none (by omega)]
      simp
    rw [this]; simp
theorem marks_all {rows : List Int} (h : RowsOk rows) : (cellsTo (setOf rows) (8 * rows.length)).length = (regCells rows).length := by
  unfold regCells
  rw [regionOk_iff.2 h, if_pos rfl, ← cellsTo_past h (64 - 8 * rows.length)]
  have := h.1
  congr 2; omega
theorem cellsTo_len (s k : Nat) : (cellsTo s (k + 1)).length = (cellsTo s k).length + if s.testBit k then 1 else 0 := by
  rw [cellsTo_succ, List.length_append]; split <;> rfl
theorem rect_all : ∀ a b : Fin 9, 1 ≤ a.val → 1 ≤ b.val → (regCells (rectRows a.val b.val)).length = a.val * b.val := by decide +kernel
theorem rect_count {a b : Nat} (ha : 1 ≤ a ∧ a ≤ 8) (hb : 1 ≤ b ∧ b ≤ 8) : (regCells (rectRows a b)).length = a * b := rect_all ⟨a, by omega⟩ ⟨b, by omega⟩ ha.1 hb.1
end Go.Proofs.YtklgbjgjojelbaaGreatDoor
namespace Go.Proofs.YtklgbjgjojelbaaGreatDoor
open Go.ChangeShapes Go.WideShapes Go.ChangeAt Go.RowKit
set_option linter.unusedVariables false
set_option linter.unusedSimpArgs false

theorem lenByte : ∀ x : Int, (eByte x).length = 1 := fun _ => rfl
theorem oneByte : ∀ x : Int, ∀ u ∈ eByte x, u.oneCell' = true := by
  intro x u hu; simp [eByte] at hu; rcases hu with rfl; rfl
theorem rowByte : Row Tryz.prog 68 5 (.int .u8 0) 1 1 := ⟨Tryz.underlying68, by kernel_rfl, rfl, by decide⟩
/-- append of one element, the new cell's place reckoned. -/
theorem wpList_app1g {P : Program} {ops : Array Oper} {rest : List Oper} {o : Oper} {a : Act} {Q : Exit → Act → World → Prop} {α : Type} {t E : TypeId} {z : Value} {size bytes : Nat} (R : Row P t E z size bytes)
    {enc : α → List Value} (henc : ∀ x, (enc x).length = size) (h1 : ∀ x, ∀ u ∈ enc x, u.oneCell' = true)
    {W0 w : World} (hbel : Below W0.heap.size W0 w) {v : Value} {l : List α} (hown : OwnL E size enc W0.heap.size w v l) (y : α)
    (hlen : (l.length + 1) * bytes ≤ 140737488355328) (hlen2 : l.length + 1 ≤ maxLen) {g : Nat} (hg : g = w.heap.size)
    (hgd : o.guard = none) (s x : Operand) (ho : o.op = .call { callee := .builtin .append, args := #[s, x], argTypes := #[t, t] })
    (hs : a.eval s = v) (hx : a.eval x = .slice (some ⟨g, 0, none⟩) 1 1)
    (h : ∀ v' w', OwnL E size enc W0.heap.size w' v' (l ++ [y]) → Below W0.heap.size W0 w' → (w.alloc (.cells (enc y).toArray E)).grownBy w' v.ownBlock → (v'.ownBlock = v.ownBlock ∨ v'.ownBlock = some (w.heap.size + 1)) → wpList P ops Q rest (a.put o.dst v') w') :
    wpList P ops Q (o :: rest) a (w.alloc (.cells (enc y).toArray E)) := by
  subst hg
  exact wpList_app1 R henc h1 hbel hown y hlen hlen2 hgd s x ho hs hx h
def fInts (s : Nat) (l : List Dm) (y k : Nat) : List Int := (fLine s l y k).map fun b => (b.toNat : Int)
theorem fInts_len (s : Nat) (l : List Dm) (y k : Nat) : (fInts s l y k).length = k := by simp [fInts, fLine]
theorem fInts_succ (s : Nat) (l : List Dm) (y k : Nat) {x : UInt8} {n : Int} (h : sgn s l k y = x) (hn : n = (x.toNat : Int)) : fInts s l y (k + 1) = fInts s l y k ++ [n] := by
  unfold fInts; rw [fLine_succ, List.map_append, h, hn]; rfl
theorem fInts_str (s : Nat) (l : List Dm) (y : Nat) : strOfNums (fInts s l y 8) = fStr s l y 8 := by
  unfold strOfNums fStr fInts
  congr 1
  rw [List.map_map]
  congr 1
  rw [show ((fun n : Int => UInt8.ofNat n.toNat) ∘ fun b : UInt8 => (b.toNat : Int)) = id from by funext b; simp]
  simp
theorem sgn_out {s : Nat} {l : List Dm} {x y : Nat} (h : s.testBit (8 * y + x) = false) : sgn s l x y = 46 := by unfold sgn; rw [h]; rfl
theorem sgn_none {s : Nat} {l : List Dm} {x y : Nat} (h : s.testBit (8 * y + x) = true) (hc : covOf l ((x : Int), (y : Int)) = none) : sgn s l x y = 63 := by unfold sgn; rw [h, hc]; rfl
theorem sgn_some {s : Nat} {l : List Dm} {x y : Nat} {d : Dm} (h : s.testBit (8 * y + x) = true) (hc : covOf l ((x : Int), (y : Int)) = some d) : sgn s l x y = markOf d ((x : Int), (y : Int)) := by unfold sgn; rw [h, hc]; rfl

theorem ix_xy {x y : Nat} (hx : x < 8) (hy : y < 8) : cellOk ((x : Int), (y : Int)) = true ∧ (cellIx ((x : Int), (y : Int))).toNat = 8 * y + x := by
  have hck : cellOk ((x : Int), (y : Int)) = true := cellOk_iff.2 ⟨⟨by omega, by omega⟩, by omega, by omega⟩
  exact ⟨hck, by rw [(cellIx_in hck).1]; simp only; omega⟩

set_option maxHeartbeats 4000000 in
set_option maxRecDepth 100000 in
theorem floorLinesI_any (v u : Value) (rows : List Int) (l : List Dm) (w : World) (h : Rd 1 RInt w v rows) (h2 : Rd 3 RDom w u l) : Calls Tryz.prog 19 #[.agg #[v], u] w (RetOwn 9 1 eStr (floorLines rows l) w) := by
  obtain ⟨A, c, rfl, hc, hm⟩ := h.form
  obtain ⟨A2, c2, rfl, hc2, hm2⟩ := h2.form
  have hA := ((Below.refl w.heap.size w).al (.cells #[.slice A rows.length c] 34))
  have hx := Blk.new_ w 34 #[.slice A rows.length c]
  have h' := h.below RE.stays hA
  rcases hp : isPartial rows l with _ | _
  · have e : floorLines rows l = [] := by unfold floorLines; rw [hp]; rfl
    rw [e]
    go_enter Tryz.func19, Tryz.ntmps19
    go_wp2_with fail
    refine (partI_any _ _ rows l _ h' (h2.below RE.stays hA)).mono ?_
    rintro e w1 ⟨rfl, hb1⟩
    obtain ⟨hc1, hf1, hz1⟩ := bk hb1
    (try simp at hz1)
    have hy1_0 : w.heap.size < w1.heap.size := by omega
    rw [hp]
    go_wp2
    go_ret
    exact ⟨none, 0, rfl, own_nil _, hA.tr hb1⟩
  · have e : floorLines rows l = fText (setOf rows) l rows.length := by unfold floorLines; rw [hp]; rfl
    rw [e]
    obtain ⟨hok, _⟩ := isPartial_ok hp
    have h8 := hok.1
    have hs := setOf_lt hok
    have hcov := fun (c : Cl) (d : Dm) (hd : covOf l c = some d) => cov_has hp hd
    have Hp := Lib.hid hp; have Hok := Lib.hid hok; have Hcov := Lib.hid hcov; clear hp hok hcov e
    go_enter Tryz.func19, Tryz.ntmps19
    go_wp2_with fail
    refine (partI_any _ _ rows l _ h' (h2.below RE.stays hA)).mono ?_
    rintro e w1 ⟨rfl, hb1⟩
    obtain ⟨hc1, hf1, hz1⟩ := bk hb1
    (try simp at hz1)
    have hy1_0 : w.heap.size < w1.heap.size := by omega
    rw [Hp.out]
    have hx1 := (hx.bl hb1).alloc (.cells #[] 9)
    have z1 := hx1.c1
    have hl1 := hx1.lt
    have B1 := (hA.tr hb1).al (.cells #[] 9)
    have own0 := own_mt w1 (E := 9) (size := 1) (enc := eStr) w1.heap.size rfl w.heap.size (hA.tr hb1).size
    have hz1' := hx1.lt
    go_wp2_with fail
    refine (setI_any _ rows _ (h.below RE.stays B1) Hok).mono ?_
    rintro e w2 ⟨rfl, hb2⟩
    obtain ⟨hc2, hf2, hz2⟩ := bk hb2
    (try simp at hz2)
    have hy2_0 : w.heap.size < w2.heap.size := by omega
    have hx2 := hx1.bl hb2
    have B2 := B1.tr hb2
    have own2 := own0.below hb2
    have z2 := hx2.c1
    clear hc1 hf1 hc2 hf2 z1 hz1' hl1
    go_wp2
    obtain ⟨s, hse⟩ : ∃ s, s = setOf rows := ⟨_, rfl⟩
    rw [← hse] at hs ⊢
    have Hse := Lib.hid hse; clear hse
    go_loopw [5, 25] (fun s5 s25 wr => ∃ (y : Nat) (D : Option Addr) (d : Nat), y ≤ rows.length ∧ s25 = .int .i64 y ∧ s5 = .slice D y d ∧ OwnL 9 1 eStr w.heap.size wr (.slice D y d) (fText s l y) ∧ Below w.heap.size w wr) (fun _ i _ => rows.length - (intOf i).toNat)
    case atStart => exact ⟨0, _, _, by omega, rfl, rfl, own2, B2⟩
    case round =>
      obtain ⟨y, D, d, hy, rfl, rfl, hown, hbel⟩ := hrel
      clear own0 own2 hx2 z2 hx1 B1 B2 hb2 hb1
      by_cases hlt : y < rows.length
      · have hy8 : y < 8 := by omega
        go_wp2
        obtain ⟨wo, rfl⟩ : ∃ wo : World, wo = wr := ⟨_, rfl⟩
        have B0 := (Below.refl wo.heap.size wo).al (.cells #[] 5)
        have ownb := own_mt wo (E := 5) (size := 1) (enc := eByte) wo.heap.size rfl wo.heap.size (Nat.le_refl _)
        go_loopw [8, 29] (fun s8 s29 wr => ∃ (k : Nat) (D : Option Addr) (d : Nat), k ≤ 8 ∧ s29 = .int .i64 k ∧ s8 = .slice D k d ∧ OwnL 5 1 eByte wo.heap.size wr (.slice D k d) (fInts s l y k) ∧ Below wo.heap.size wo wr) (fun _ i _ => 8 - (intOf i).toNat)
        case atStart => exact ⟨0, _, _, by omega, rfl, rfl, ownb, B0⟩
        case round =>
          obtain ⟨k, Dk, dk, hk, rfl, rfl, hownk, hbk⟩ := hrel
          clear B0 ownb
          by_cases hk8 : k < 8
          · obtain ⟨hck, hix⟩ := ix_xy hk8 hy8
            have hlen := fInts_len s l y k
            have H8 : Hid (((fInts s l y k).length + 1) * 1 ≤ 140737488355328) := Lib.hid (by rw [hlen]; omega)
            have HM : Hid ((fInts s l y k).length + 1 ≤ maxLen) := Lib.hid (by rw [hlen]; unfold maxLen; omega)
            have hcA := Hcov.out ((k : Int), (y : Int))
            have hz : wr.heap.size < (wr.alloc (.cells #[.int .i64 k, .int .i64 y] 62)).heap.size := by simp
            have hBl := (hbel.tr hbk).al (.cells #[.int .i64 k, .int .i64 y] 62)
            have hbits : ∀ d, covOf l ((k : Int), (y : Int)) = some d → s.testBit (8 * y + k) = true := fun d hd => by
              have := (hcA d hd).2.2; rw [hix, ← Hse.out] at this; exact this
            have Hlen := Lib.hid hlen; have Hck := Lib.hid hck; have Hix := Lib.hid hix; have Hbits := Lib.hid hbits; have HcA := Lib.hid hcA
            clear hlen hck hix hbits hcA
            rcases domAt_spec l ((k : Int), (y : Int)) with ⟨hD, hC⟩ | ⟨j, hj, hD, hC⟩
            · have HD := Lib.hid hD; have HC := Lib.hid hC; clear hD hC
              rcases hbit : s.testBit (8 * y + k) with _ | _
              · have Hsg : Hid (sgn s l k y = 46) := Lib.hid (sgn_out hbit)
                have Hbit := Lib.hid hbit; clear hbit
                go_wp2_with fail
                refine (hasI_any s k y _ hs).mono ?_
                rintro e w4 ⟨rfl, hb4⟩
                obtain ⟨hc4, hf4, hz4⟩ := bk hb4
                (try simp at hz4)
                have hy4_0 : wr.heap.size < w4.heap.size := by omega
                rw [Hck.out, Bool.true_and, Hix.out, Hbit.out]
                go_wp2_with fail
                refine (domAtI_any _ l k y _ (h2.below RE.stays (hBl.tr hb4))).mono ?_
                rintro e w5 ⟨rfl, hb5⟩
                obtain ⟨hc5, hf5, hz5⟩ := bk hb5
                (try simp at hz5)
                have hy5_0 : wr.heap.size < w5.heap.size := by omega
                rw [HD.out]
                have own5 := ((hownk.alloc (.cells #[.int .i64 k, .int .i64 y] 62)).below hb4).below hb5
                have B5 := ((hbk.al (.cells #[.int .i64 k, .int .i64 y] 62)).tr hb4).tr hb5
                go_wp2_with (at_builtin; go_must (refine wpList_app1g (enc := eByte) rowByte lenByte oneByte B5 own5 (46 : Int) H8.out HM.out (by simp) rfl _ _ rfl rfl rfl ?_); intro v6 w6 own6 hb6 hg6 hd6; obtain ⟨A6, c6, rfl, hc6, hm6⟩ := own6.form)
                go_roundw
                case rel => exact ⟨k + 1, A6, c6, by omega, by go_num, by simp [Hlen.out], by have e : (fInts s l y k ++ [(46 : Int)]).length = k + 1 := (by rw [List.length_append, Hlen.out]; rfl); rw [fInts_succ s l y k Hsg.out rfl, ← e]; exact own6, hb6⟩
                case measure => simp [intOf]; omega
              · have Hsg : Hid (sgn s l k y = 63) := Lib.hid (sgn_none hbit HC.out)
                have Hbit := Lib.hid hbit; clear hbit
                go_wp2_with fail
                refine (hasI_any s k y _ hs).mono ?_
                rintro e w4 ⟨rfl, hb4⟩
                obtain ⟨hc4, hf4, hz4⟩ := bk hb4
                (try simp at hz4)
                have hy4_0 : wr.heap.size < w4.heap.size := by omega
                rw [Hck.out, Bool.true_and, Hix.out, Hbit.out]
                go_wp2_with fail
                refine (domAtI_any _ l k y _ (h2.below RE.stays (hBl.tr hb4))).mono ?_
                rintro e w5 ⟨rfl, hb5⟩
                obtain ⟨hc5, hf5, hz5⟩ := bk hb5
                (try simp at hz5)
                have hy5_0 : wr.heap.size < w5.heap.size := by omega
                rw [HD.out]
                have own5 := ((hownk.alloc (.cells #[.int .i64 k, .int .i64 y] 62)).below hb4).below hb5
                have B5 := ((hbk.al (.cells #[.int .i64 k, .int .i64 y] 62)).tr hb4).tr hb5
                go_wp2_with (at_builtin; go_must (refine wpList_app1g (enc := eByte) rowByte lenByte oneByte B5 own5 (63 : Int) H8.out HM.out (by simp) rfl _ _ rfl rfl rfl ?_); intro v6 w6 own6 hb6 hg6 hd6; obtain ⟨A6, c6, rfl, hc6, hm6⟩ := own6.form)
                go_roundw
                case rel => exact ⟨k + 1, A6, c6, by omega, by go_num, by simp [Hlen.out], by have e : (fInts s l y k ++ [(63 : Int)]).length = k + 1 := (by rw [List.length_append, Hlen.out]; rfl); rw [fInts_succ s l y k Hsg.out rfl, ← e]; exact own6, hb6⟩
                case measure => simp [intOf]; omega
            · have hbit := Hbits.out _ hC
              have hsg := sgn_some hbit hC
              obtain ⟨b, off, rfl, hb, q1, q2, q3⟩ := (h2.below RE.stays (hbel.tr hbk)).atDom hj
              obtain ⟨d, hd⟩ : ∃ d, d = l[j] := ⟨_, rfl⟩
              rw [← hd] at q1 q2 q3 hsg
              obtain ⟨dx, dy, dn⟩ := d
              simp only at q1 q2 q3
              have hj0 : (0 : Int) ≤ (j : Int) := by omega
              have hjI : (j : Int) < (l.length : Int) := by omega
              have hbz : b < (wr.alloc (.cells #[.int .i64 k, .int .i64 y] 62)).heap.size := by simp; omega
              have hnb : b ≠ wr.heap.size := by omega
              have HD := Lib.hid hD; have Hbit := Lib.hid hbit; have Hd := Lib.hid hd; clear hD hC hbit hd
              by_cases hdx : dx = (k : Int)
              · subst hdx
                by_cases hdy : dy = (y : Int)
                · subst hdy
                  rcases dn with _ | _
                  · have Hsg : Hid (sgn s l k y = 60) := Lib.hid (by rw [hsg]; simp [markOf])
                    clear hsg
                    go_wp2_with fail
                    refine (hasI_any s k y _ hs).mono ?_
                    rintro e w4 ⟨rfl, hb4⟩
                    obtain ⟨hc4, hf4, hz4⟩ := bk hb4
                    (try simp at hz4)
                    have hy4_0 : wr.heap.size < w4.heap.size := by omega
                    have hy4_1 : b < w4.heap.size := by omega
                    rw [Hck.out, Bool.true_and, Hix.out, Hbit.out]
                    go_wp2_with fail
                    refine (domAtI_any _ l k y _ (h2.below RE.stays (hBl.tr hb4))).mono ?_
                    rintro e w5 ⟨rfl, hb5⟩
                    obtain ⟨hc5, hf5, hz5⟩ := bk hb5
                    (try simp at hz5)
                    have hy5_0 : wr.heap.size < w5.heap.size := by omega
                    have hy5_1 : b < w5.heap.size := by omega
                    rw [HD.out]
                    obtain ⟨sx, sy, hsec⟩ : ∃ sx sy, sec ((k : Int), (y : Int), false) = (sx, sy) := ⟨_, _, rfl⟩
                    have Hsec := Lib.hid hsec; clear hsec
                    go_wp2_with fail
                    refine (endsI_any (k : Int) (y : Int) false _).mono ?_
                    rintro e w9 ⟨rfl, hb9⟩
                    obtain ⟨hc9, hf9, hz9⟩ := bk hb9
                    (try simp at hz9)
                    have hy9_0 : wr.heap.size < w9.heap.size := by omega
                    have hy9_1 : b < w9.heap.size := by omega
                    rw [Hsec.out]
                    have hn1 : b ≠ w9.heap.size := by omega
                    have hn2 : b ≠ w9.heap.size + 1 := by omega
                    have hn3 : wr.heap.size ≠ w9.heap.size := by omega
                    have hn4 : wr.heap.size ≠ w9.heap.size + 1 := by omega
                    have own5 := (((((hownk.alloc (.cells #[.int .i64 k, .int .i64 y] 62)).below hb4).below hb5).below hb9).alloc (.cells #[.int .i64 (k : Int), .int .i64 (y : Int)] 62)).alloc (.cells #[.int .i64 sx, .int .i64 sy] 62)
                    have B5 := (((((hbk.al (.cells #[.int .i64 k, .int .i64 y] 62)).tr hb4).tr hb5).tr hb9).al (.cells #[.int .i64 (k : Int), .int .i64 (y : Int)] 62)).al (.cells #[.int .i64 sx, .int .i64 sy] 62)
                    go_wp2_with (at_builtin; go_must (refine wpList_app1g (enc := eByte) rowByte lenByte oneByte B5 own5 (60 : Int) H8.out HM.out (by simp) rfl _ _ rfl rfl rfl ?_); intro v6 w6 own6 hb6 hg6 hd6; obtain ⟨A6, c6, rfl, hc6, hm6⟩ := own6.form)
                    go_roundw
                    case rel => exact ⟨k + 1, A6, c6, by omega, by go_num, by simp [Hlen.out], by have e : (fInts s l y k ++ [(60 : Int)]).length = k + 1 := (by rw [List.length_append, Hlen.out]; rfl); rw [fInts_succ s l y k Hsg.out rfl, ← e]; exact own6, hb6⟩
                    case measure => simp [intOf]; omega
                  · have Hsg : Hid (sgn s l k y = 94) := Lib.hid (by rw [hsg]; simp [markOf])
                    clear hsg
                    go_wp2_with fail
                    refine (hasI_any s k y _ hs).mono ?_
                    rintro e w4 ⟨rfl, hb4⟩
                    obtain ⟨hc4, hf4, hz4⟩ := bk hb4
                    (try simp at hz4)
                    have hy4_0 : wr.heap.size < w4.heap.size := by omega
                    have hy4_1 : b < w4.heap.size := by omega
                    rw [Hck.out, Bool.true_and, Hix.out, Hbit.out]
                    go_wp2_with fail
                    refine (domAtI_any _ l k y _ (h2.below RE.stays (hBl.tr hb4))).mono ?_
                    rintro e w5 ⟨rfl, hb5⟩
                    obtain ⟨hc5, hf5, hz5⟩ := bk hb5
                    (try simp at hz5)
                    have hy5_0 : wr.heap.size < w5.heap.size := by omega
                    have hy5_1 : b < w5.heap.size := by omega
                    rw [HD.out]
                    obtain ⟨sx, sy, hsec⟩ : ∃ sx sy, sec ((k : Int), (y : Int), true) = (sx, sy) := ⟨_, _, rfl⟩
                    have Hsec := Lib.hid hsec; clear hsec
                    go_wp2_with fail
                    refine (endsI_any (k : Int) (y : Int) true _).mono ?_
                    rintro e w9 ⟨rfl, hb9⟩
                    obtain ⟨hc9, hf9, hz9⟩ := bk hb9
                    (try simp at hz9)
                    have hy9_0 : wr.heap.size < w9.heap.size := by omega
                    have hy9_1 : b < w9.heap.size := by omega
                    rw [Hsec.out]
                    have hn1 : b ≠ w9.heap.size := by omega
                    have hn2 : b ≠ w9.heap.size + 1 := by omega
                    have hn3 : wr.heap.size ≠ w9.heap.size := by omega
                    have hn4 : wr.heap.size ≠ w9.heap.size + 1 := by omega
                    have own5 := (((((hownk.alloc (.cells #[.int .i64 k, .int .i64 y] 62)).below hb4).below hb5).below hb9).alloc (.cells #[.int .i64 (k : Int), .int .i64 (y : Int)] 62)).alloc (.cells #[.int .i64 sx, .int .i64 sy] 62)
                    have B5 := (((((hbk.al (.cells #[.int .i64 k, .int .i64 y] 62)).tr hb4).tr hb5).tr hb9).al (.cells #[.int .i64 (k : Int), .int .i64 (y : Int)] 62)).al (.cells #[.int .i64 sx, .int .i64 sy] 62)
                    go_wp2_with (at_builtin; go_must (refine wpList_app1g (enc := eByte) rowByte lenByte oneByte B5 own5 (94 : Int) H8.out HM.out (by simp) rfl _ _ rfl rfl rfl ?_); intro v6 w6 own6 hb6 hg6 hd6; obtain ⟨A6, c6, rfl, hc6, hm6⟩ := own6.form)
                    go_roundw
                    case rel => exact ⟨k + 1, A6, c6, by omega, by go_num, by simp [Hlen.out], by have e : (fInts s l y k ++ [(94 : Int)]).length = k + 1 := (by rw [List.length_append, Hlen.out]; rfl); rw [fInts_succ s l y k Hsg.out rfl, ← e]; exact own6, hb6⟩
                    case measure => simp [intOf]; omega
                · rcases dn with _ | _
                  · have Hsg : Hid (sgn s l k y = 62) := Lib.hid (by rw [hsg]; simp [markOf, hdy])
                    clear hsg
                    go_wp2_with fail
                    refine (hasI_any s k y _ hs).mono ?_
                    rintro e w4 ⟨rfl, hb4⟩
                    obtain ⟨hc4, hf4, hz4⟩ := bk hb4
                    (try simp at hz4)
                    have hy4_0 : wr.heap.size < w4.heap.size := by omega
                    have hy4_1 : b < w4.heap.size := by omega
                    rw [Hck.out, Bool.true_and, Hix.out, Hbit.out]
                    go_wp2_with fail
                    refine (domAtI_any _ l k y _ (h2.below RE.stays (hBl.tr hb4))).mono ?_
                    rintro e w5 ⟨rfl, hb5⟩
                    obtain ⟨hc5, hf5, hz5⟩ := bk hb5
                    (try simp at hz5)
                    have hy5_0 : wr.heap.size < w5.heap.size := by omega
                    have hy5_1 : b < w5.heap.size := by omega
                    rw [HD.out]
                    obtain ⟨sx, sy, hsec⟩ : ∃ sx sy, sec ((k : Int), dy, false) = (sx, sy) := ⟨_, _, rfl⟩
                    have Hsec := Lib.hid hsec; clear hsec
                    go_wp2_with fail
                    refine (endsI_any (k : Int) dy false _).mono ?_
                    rintro e w9 ⟨rfl, hb9⟩
                    obtain ⟨hc9, hf9, hz9⟩ := bk hb9
                    (try simp at hz9)
                    have hy9_0 : wr.heap.size < w9.heap.size := by omega
                    have hy9_1 : b < w9.heap.size := by omega
                    rw [Hsec.out]
                    have hn1 : b ≠ w9.heap.size := by omega
                    have hn2 : b ≠ w9.heap.size + 1 := by omega
                    have hn3 : wr.heap.size ≠ w9.heap.size := by omega
                    have hn4 : wr.heap.size ≠ w9.heap.size + 1 := by omega
                    have own5 := (((((hownk.alloc (.cells #[.int .i64 k, .int .i64 y] 62)).below hb4).below hb5).below hb9).alloc (.cells #[.int .i64 (k : Int), .int .i64 dy] 62)).alloc (.cells #[.int .i64 sx, .int .i64 sy] 62)
                    have B5 := (((((hbk.al (.cells #[.int .i64 k, .int .i64 y] 62)).tr hb4).tr hb5).tr hb9).al (.cells #[.int .i64 (k : Int), .int .i64 dy] 62)).al (.cells #[.int .i64 sx, .int .i64 sy] 62)
                    go_wp2_with (at_builtin; go_must (refine wpList_app1g (enc := eByte) rowByte lenByte oneByte B5 own5 (62 : Int) H8.out HM.out (by simp) rfl _ _ rfl rfl rfl ?_); intro v6 w6 own6 hb6 hg6 hd6; obtain ⟨A6, c6, rfl, hc6, hm6⟩ := own6.form)
                    go_roundw
                    case rel => exact ⟨k + 1, A6, c6, by omega, by go_num, by simp [Hlen.out], by have e : (fInts s l y k ++ [(62 : Int)]).length = k + 1 := (by rw [List.length_append, Hlen.out]; rfl); rw [fInts_succ s l y k Hsg.out rfl, ← e]; exact own6, hb6⟩
                    case measure => simp [intOf]; omega
                  · have Hsg : Hid (sgn s l k y = 118) := Lib.hid (by rw [hsg]; simp [markOf, hdy])
                    clear hsg
                    go_wp2_with fail
                    refine (hasI_any s k y _ hs).mono ?_
                    rintro e w4 ⟨rfl, hb4⟩
                    obtain ⟨hc4, hf4, hz4⟩ := bk hb4
                    (try simp at hz4)
                    have hy4_0 : wr.heap.size < w4.heap.size := by omega
                    have hy4_1 : b < w4.heap.size := by omega
                    rw [Hck.out, Bool.true_and, Hix.out, Hbit.out]
                    go_wp2_with fail
                    refine (domAtI_any _ l k y _ (h2.below RE.stays (hBl.tr hb4))).mono ?_
                    rintro e w5 ⟨rfl, hb5⟩
                    obtain ⟨hc5, hf5, hz5⟩ := bk hb5
                    (try simp at hz5)
                    have hy5_0 : wr.heap.size < w5.heap.size := by omega
                    have hy5_1 : b < w5.heap.size := by omega
                    rw [HD.out]
                    obtain ⟨sx, sy, hsec⟩ : ∃ sx sy, sec ((k : Int), dy, true) = (sx, sy) := ⟨_, _, rfl⟩
                    have Hsec := Lib.hid hsec; clear hsec
                    go_wp2_with fail
                    refine (endsI_any (k : Int) dy true _).mono ?_
                    rintro e w9 ⟨rfl, hb9⟩
                    obtain ⟨hc9, hf9, hz9⟩ := bk hb9
                    (try simp at hz9)
                    have hy9_0 : wr.heap.size < w9.heap.size := by omega
                    have hy9_1 : b < w9.heap.size := by omega
                    rw [Hsec.out]
                    have hn1 : b ≠ w9.heap.size := by omega
                    have hn2 : b ≠ w9.heap.size + 1 := by omega
                    have hn3 : wr.heap.size ≠ w9.heap.size := by omega
                    have hn4 : wr.heap.size ≠ w9.heap.size + 1 := by omega
                    have own5 := (((((hownk.alloc (.cells #[.int .i64 k, .int .i64 y] 62)).below hb4).below hb5).below hb9).alloc (.cells #[.int .i64 (k : Int), .int .i64 dy] 62)).alloc (.cells #[.int .i64 sx, .int .i64 sy] 62)
                    have B5 := (((((hbk.al (.cells #[.int .i64 k, .int .i64 y] 62)).tr hb4).tr hb5).tr hb9).al (.cells #[.int .i64 (k : Int), .int .i64 dy] 62)).al (.cells #[.int .i64 sx, .int .i64 sy] 62)
                    go_wp2_with (at_builtin; go_must (refine wpList_app1g (enc := eByte) rowByte lenByte oneByte B5 own5 (118 : Int) H8.out HM.out (by simp) rfl _ _ rfl rfl rfl ?_); intro v6 w6 own6 hb6 hg6 hd6; obtain ⟨A6, c6, rfl, hc6, hm6⟩ := own6.form)
                    go_roundw
                    case rel => exact ⟨k + 1, A6, c6, by omega, by go_num, by simp [Hlen.out], by have e : (fInts s l y k ++ [(118 : Int)]).length = k + 1 := (by rw [List.length_append, Hlen.out]; rfl); rw [fInts_succ s l y k Hsg.out rfl, ← e]; exact own6, hb6⟩
                    case measure => simp [intOf]; omega
              · rcases dn with _ | _
                · have Hsg : Hid (sgn s l k y = 62) := Lib.hid (by rw [hsg]; simp [markOf, hdx])
                  clear hsg
                  go_wp2_with fail
                  refine (hasI_any s k y _ hs).mono ?_
                  rintro e w4 ⟨rfl, hb4⟩
                  obtain ⟨hc4, hf4, hz4⟩ := bk hb4
                  (try simp at hz4)
                  have hy4_0 : wr.heap.size < w4.heap.size := by omega
                  have hy4_1 : b < w4.heap.size := by omega
                  rw [Hck.out, Bool.true_and, Hix.out, Hbit.out]
                  go_wp2_with fail
                  refine (domAtI_any _ l k y _ (h2.below RE.stays (hBl.tr hb4))).mono ?_
                  rintro e w5 ⟨rfl, hb5⟩
                  obtain ⟨hc5, hf5, hz5⟩ := bk hb5
                  (try simp at hz5)
                  have hy5_0 : wr.heap.size < w5.heap.size := by omega
                  have hy5_1 : b < w5.heap.size := by omega
                  rw [HD.out]
                  obtain ⟨sx, sy, hsec⟩ : ∃ sx sy, sec (dx, dy, false) = (sx, sy) := ⟨_, _, rfl⟩
                  have Hsec := Lib.hid hsec; clear hsec
                  go_wp2_with fail
                  refine (endsI_any dx dy false _).mono ?_
                  rintro e w9 ⟨rfl, hb9⟩
                  obtain ⟨hc9, hf9, hz9⟩ := bk hb9
                  (try simp at hz9)
                  have hy9_0 : wr.heap.size < w9.heap.size := by omega
                  have hy9_1 : b < w9.heap.size := by omega
                  rw [Hsec.out]
                  have hn1 : b ≠ w9.heap.size := by omega
                  have hn2 : b ≠ w9.heap.size + 1 := by omega
                  have hn3 : wr.heap.size ≠ w9.heap.size := by omega
                  have hn4 : wr.heap.size ≠ w9.heap.size + 1 := by omega
                  have own5 := (((((hownk.alloc (.cells #[.int .i64 k, .int .i64 y] 62)).below hb4).below hb5).below hb9).alloc (.cells #[.int .i64 dx, .int .i64 dy] 62)).alloc (.cells #[.int .i64 sx, .int .i64 sy] 62)
                  have B5 := (((((hbk.al (.cells #[.int .i64 k, .int .i64 y] 62)).tr hb4).tr hb5).tr hb9).al (.cells #[.int .i64 dx, .int .i64 dy] 62)).al (.cells #[.int .i64 sx, .int .i64 sy] 62)
                  go_wp2_with (at_builtin; go_must (refine wpList_app1g (enc := eByte) rowByte lenByte oneByte B5 own5 (62 : Int) H8.out HM.out (by simp) rfl _ _ rfl rfl rfl ?_); intro v6 w6 own6 hb6 hg6 hd6; obtain ⟨A6, c6, rfl, hc6, hm6⟩ := own6.form)
                  go_roundw
                  case rel => exact ⟨k + 1, A6, c6, by omega, by go_num, by simp [Hlen.out], by have e : (fInts s l y k ++ [(62 : Int)]).length = k + 1 := (by rw [List.length_append, Hlen.out]; rfl); rw [fInts_succ s l y k Hsg.out rfl, ← e]; exact own6, hb6⟩
                  case measure => simp [intOf]; omega
                · have Hsg : Hid (sgn s l k y = 118) := Lib.hid (by rw [hsg]; simp [markOf, hdx])
                  clear hsg
                  go_wp2_with fail
                  refine (hasI_any s k y _ hs).mono ?_
                  rintro e w4 ⟨rfl, hb4⟩
                  obtain ⟨hc4, hf4, hz4⟩ := bk hb4
                  (try simp at hz4)
                  have hy4_0 : wr.heap.size < w4.heap.size := by omega
                  have hy4_1 : b < w4.heap.size := by omega
                  rw [Hck.out, Bool.true_and, Hix.out, Hbit.out]
                  go_wp2_with fail
                  refine (domAtI_any _ l k y _ (h2.below RE.stays (hBl.tr hb4))).mono ?_
                  rintro e w5 ⟨rfl, hb5⟩
                  obtain ⟨hc5, hf5, hz5⟩ := bk hb5
                  (try simp at hz5)
                  have hy5_0 : wr.heap.size < w5.heap.size := by omega
                  have hy5_1 : b < w5.heap.size := by omega
                  rw [HD.out]
                  obtain ⟨sx, sy, hsec⟩ : ∃ sx sy, sec (dx, dy, true) = (sx, sy) := ⟨_, _, rfl⟩
                  have Hsec := Lib.hid hsec; clear hsec
                  go_wp2_with fail
                  refine (endsI_any dx dy true _).mono ?_
                  rintro e w9 ⟨rfl, hb9⟩
                  obtain ⟨hc9, hf9, hz9⟩ := bk hb9
                  (try simp at hz9)
                  have hy9_0 : wr.heap.size < w9.heap.size := by omega
                  have hy9_1 : b < w9.heap.size := by omega
                  rw [Hsec.out]
                  have hn1 : b ≠ w9.heap.size := by omega
                  have hn2 : b ≠ w9.heap.size + 1 := by omega
                  have hn3 : wr.heap.size ≠ w9.heap.size := by omega
                  have hn4 : wr.heap.size ≠ w9.heap.size + 1 := by omega
                  have own5 := (((((hownk.alloc (.cells #[.int .i64 k, .int .i64 y] 62)).below hb4).below hb5).below hb9).alloc (.cells #[.int .i64 dx, .int .i64 dy] 62)).alloc (.cells #[.int .i64 sx, .int .i64 sy] 62)
                  have B5 := (((((hbk.al (.cells #[.int .i64 k, .int .i64 y] 62)).tr hb4).tr hb5).tr hb9).al (.cells #[.int .i64 dx, .int .i64 dy] 62)).al (.cells #[.int .i64 sx, .int .i64 sy] 62)
                  go_wp2_with (at_builtin; go_must (refine wpList_app1g (enc := eByte) rowByte lenByte oneByte B5 own5 (118 : Int) H8.out HM.out (by simp) rfl _ _ rfl rfl rfl ?_); intro v6 w6 own6 hb6 hg6 hd6; obtain ⟨A6, c6, rfl, hc6, hm6⟩ := own6.form)
                  go_roundw
                  case rel => exact ⟨k + 1, A6, c6, by omega, by go_num, by simp [Hlen.out], by have e : (fInts s l y k ++ [(118 : Int)]).length = k + 1 := (by rw [List.length_append, Hlen.out]; rfl); rw [fInts_succ s l y k Hsg.out rfl, ← e]; exact own6, hb6⟩
                  case measure => simp [intOf]; omega
          · obtain rfl : k = 8 := by omega
            obtain ⟨g, rfl, hB, hg⟩ := hownk.split (k := 0) (by rw [fInts_len]; omega)
            have hconv := run_convert_bytes_arg (P := Tryz.prog) wr 68 5 Tryz.underlying68 Tryz.underlying5 g 0 8 dk (fInts s l y 8) (fInts_len _ _ _ _) (fun i hi => by
              have hil : i < (fInts s l y 8).length := by rw [fInts_len]; exact hi
              have := hownk.slot lenByte Nat.one_pos hil 0 (.int .u8 (fInts s l y 8)[i]) rfl
              rw [Nat.mul_one, Nat.add_zero] at this
              rw [Nat.zero_add, this, List.getD_eq_getElem?_getD, List.getElem?_eq_getElem hil, Option.getD_some]) 9 Tryz.underlying9
            rw [fInts_str] at hconv
            have own2 := hown.below hbk
            have B2 := hbel.tr hbk
            have H8 : Hid (((fText s l y).length + 1) * 16 ≤ 140737488355328) := Lib.hid (by rw [fText_len]; omega)
            have HM : Hid ((fText s l y).length + 1 ≤ maxLen) := Lib.hid (by rw [fText_len]; unfold maxLen; omega)
            have Hsc := Lib.hid (fText_succ s l y)
            have Htl := Lib.hid (fText_len s l y)
            go_wp2_with (at_builtin; go_must (refine wpList_app1g (enc := eStr) rowStr lenStr oneStr B2 own2 (fStr s l y 8) H8.out HM.out (by simp) rfl _ _ rfl rfl rfl ?_); intro v4 w4 own4 hb4 hg4 hd4; obtain ⟨A4, c4, rfl, hc4, hm4⟩ := own4.form)
            go_roundw
            case rel => exact ⟨y + 1, A4, c4, by omega, by go_num, by simp [Htl.out], by have e : (fText s l y ++ [fStr s l y 8]).length = y + 1 := (by rw [List.length_append, Htl.out]; rfl); rw [Hsc.out, ← e]; exact own4, hb4⟩
            case measure => simp [intOf]; omega
      · obtain rfl : y = rows.length := by omega
        go_wp2
        go_ret
        have htl : (fText (setOf rows) l rows.length).length = rows.length := fText_len _ _ _
        rw [Hse.out] at hown
        refine ⟨D, d, by rw [htl]; rfl, ?_, hbel⟩
        rw [htl]; exact hown
end Go.Proofs.YtklgbjgjojelbaaGreatDoor
namespace Go.Proofs.YtklgbjgjojelbaaGreatDoor
open Go.ChangeShapes Go.WideShapes Go.ChangeAt Go.RowKit
set_option linter.unusedVariables false
set_option linter.unusedSimpArgs false

set_option maxHeartbeats 4000000 in
set_option maxRecDepth 100000 in
theorem floorLinesS_any (v u : Value) (rows : List Int) (l : List Dm) (w : World) (h : Rd 1 RInt w v rows) (h2 : Rd 3 RDom w u l) : Calls Tryz.prog 15 #[.agg #[v], u] w (RetOwn 9 1 eStr (floorLines rows l) w) := by
  obtain ⟨A, c, rfl, hc, hm⟩ := h.form
  obtain ⟨A2, c2, rfl, hc2, hm2⟩ := h2.form
  have hA := ((Below.refl w.heap.size w).al (.cells #[.slice A rows.length c] 34)).al (.cells #[] 9)
  have hx := (Blk.new_ w 34 #[.slice A rows.length c]).alloc (.cells #[] 9)
  have hn0 : w.heap.size ≠ w.heap.size + 1 := by omega
  rcases hp : isPartial rows l with _ | _
  · have e : floorLines rows l = [] := by unfold floorLines; rw [hp]; rfl
    rw [e]
    go_enter Tryz.func15, Tryz.ntmps15
    go_wp2_with fail
    refine (partS_any _ _ rows l _ (h.below RE.stays hA) (h2.below RE.stays hA)).mono ?_
    rintro e w1 ⟨rfl, hb1⟩
    obtain ⟨hc1, hf1, hz1⟩ := bk hb1
    (try simp at hz1)
    have hy1_0 : w.heap.size < w1.heap.size := by omega
    rw [hp]
    have own1 := (own_mt (w.alloc (.cells #[.slice A rows.length c] 34)) (E := 9) (size := 1) (enc := eStr) (w.heap.size + 1) (by simp) w.heap.size (by simp)).below hb1
    go_wp2
    go_ret
    exact ⟨some ⟨w.heap.size + 1, 0, none⟩, 0, rfl, own1, hA.tr hb1⟩
  · have e : floorLines rows l = fText (setOf rows) l rows.length := by unfold floorLines; rw [hp]; rfl
    rw [e]
    obtain ⟨hok, _⟩ := isPartial_ok hp
    have h8 := hok.1
    have hs := setOf_lt hok
    have hcov := fun (c : Cl) (d : Dm) (hd : covOf l c = some d) => cov_has hp hd
    have Hp := Lib.hid hp; have Hok := Lib.hid hok; have Hcov := Lib.hid hcov; clear hp hok hcov e
    go_enter Tryz.func15, Tryz.ntmps15
    go_wp2_with fail
    refine (partS_any _ _ rows l _ (h.below RE.stays hA) (h2.below RE.stays hA)).mono ?_
    rintro e w1 ⟨rfl, hb1⟩
    obtain ⟨hc1, hf1, hz1⟩ := bk hb1
    (try simp at hz1)
    have hy1_0 : w.heap.size < w1.heap.size := by omega
    rw [Hp.out]
    have own1 := (own_mt (w.alloc (.cells #[.slice A rows.length c] 34)) (E := 9) (size := 1) (enc := eStr) (w.heap.size + 1) (by simp) w.heap.size (by simp)).below hb1
    have hx1 := hx.bl hb1
    have B1 := hA.tr hb1
    clear hc1 hf1
    go_wp2
    obtain ⟨s, hse⟩ : ∃ s, s = setOf rows := ⟨_, rfl⟩
    rw [← hse] at hs ⊢
    have Hse := Lib.hid hse; clear hse
    go_loopw [5, 6] (fun s5 s25 wr => ∃ (y : Nat) (D : Option Addr) (d : Nat), y ≤ rows.length ∧ s25 = .int .i64 y ∧ s5 = .slice D y d ∧ OwnL 9 1 eStr w.heap.size wr (.slice D y d) (fText s l y) ∧ Blk wr w.heap.size 34 #[.slice A rows.length c] ∧ Below w.heap.size w wr) (fun _ i _ => rows.length - (intOf i).toNat)
    case atStart => exact ⟨0, _, _, by omega, rfl, rfl, own1, hx1, B1⟩
    case round =>
      obtain ⟨y, D, d, hy, rfl, rfl, hown, hR, hbel⟩ := hrel
      clear own1 hx1 B1 hb1 hx
      have z1 := hR.c1
      have hRl := hR.lt
      by_cases hlt : y < rows.length
      · have hy8 : y < 8 := by omega
        go_wp2
        obtain ⟨wo, rfl⟩ : ∃ wo : World, wo = wr := ⟨_, rfl⟩
        go_loopw [7, 8] (fun s8 s29 wr => ∃ (k : Nat), k ≤ 8 ∧ s29 = .int .i64 k ∧ s8 = .string (fStr s l y k) ∧ Below wo.heap.size wo wr) (fun _ i _ => 8 - (intOf i).toNat)
        case atStart => exact ⟨0, by omega, rfl, rfl, Below.refl _ _⟩
        case round =>
          obtain ⟨k, hk, rfl, rfl, hbk⟩ := hrel
          have hR2 := hR.bl hbk
          have z2 := hR2.c1
          have hR2l := hR2.lt
          clear z1
          by_cases hk8 : k < 8
          · obtain ⟨hck, hix⟩ := ix_xy hk8 hy8
            have hsz := fStr_size s l y k
            have hszl : (fStr s l y k).size ≤ 8 := by omega
            have Hsc := Lib.hid (fStr_push s l y k)
            have hBl := (hbel.tr hbk).al (.cells #[.int .i64 k, .int .i64 y] 62)
            have hcA := Hcov.out ((k : Int), (y : Int))
            have hbits : ∀ d, covOf l ((k : Int), (y : Int)) = some d → s.testBit (8 * y + k) = true := fun d hd => by
              have := (hcA d hd).2.2; rw [hix, ← Hse.out] at this; exact this
            have Hck := Lib.hid hck; have Hix := Lib.hid hix; have Hbits := Lib.hid hbits; have HcA := Lib.hid hcA
            clear hck hix hbits hcA hsz
            rcases hbit : s.testBit (8 * y + k) with _ | _
            · have Hsg : Hid (sgn s l k y = 46) := Lib.hid (sgn_out hbit)
              have Hbit := Lib.hid hbit; clear hbit
              obtain ⟨D0, hD0⟩ : ∃ D0, D0 = domAt l ((k : Int), (y : Int)) := ⟨_, rfl⟩
              have HD : Hid (domAt l ((k : Int), (y : Int)) = D0) := Lib.hid hD0.symm
              clear hD0
              go_wp2_with fail
              refine (domAtS_any _ l k y _ (h2.below RE.stays hBl)).mono ?_
              rintro e w5 ⟨rfl, hb5⟩
              obtain ⟨hc5, hf5, hz5⟩ := bk hb5
              (try simp at hz5)
              have hy5_0 : wr.heap.size < w5.heap.size := by omega
              have hy5_1 : w.heap.size < w5.heap.size := by omega
              rw [HD.out]
              have hnR : w.heap.size ≠ wr.heap.size := by omega
              go_wp2_with fail
              refine (l03HasS_yes _ rows k y _ (h.below RE.stays (hBl.tr hb5)) Hok hk8 hy8).mono ?_
              rintro e w6 ⟨rfl, hb6⟩
              obtain ⟨hc6, hf6, hz6⟩ := bk hb6
              (try simp at hz6)
              have hy6_0 : wr.heap.size < w6.heap.size := by omega
              have hy6_1 : w.heap.size < w6.heap.size := by omega
              rw [← Hse.out, Hbit.out]
              have B6 := ((hbk.al (.cells #[.int .i64 k, .int .i64 y] 62)).tr hb5).tr hb6
              go_wp2
              go_roundw
              case rel => exact ⟨k + 1, by omega, by go_num, by rw [← Hsc.out, Hsg.out], B6⟩
              case measure => simp [intOf]; omega
            · rcases domAt_spec l ((k : Int), (y : Int)) with ⟨hD, hC⟩ | ⟨j, hj, hD, hC⟩
              · have Hsg : Hid (sgn s l k y = 63) := Lib.hid (sgn_none hbit hC)
                have HD := Lib.hid hD; have Hbit := Lib.hid hbit; clear hbit hD hC
                go_wp2_with fail
                refine (domAtS_any _ l k y _ (h2.below RE.stays hBl)).mono ?_
                rintro e w5 ⟨rfl, hb5⟩
                obtain ⟨hc5, hf5, hz5⟩ := bk hb5
                (try simp at hz5)
                have hy5_0 : wr.heap.size < w5.heap.size := by omega
                have hy5_1 : w.heap.size < w5.heap.size := by omega
                rw [HD.out]
                have hnR : w.heap.size ≠ wr.heap.size := by omega
                go_wp2_with fail
                refine (l03HasS_yes _ rows k y _ (h.below RE.stays (hBl.tr hb5)) Hok hk8 hy8).mono ?_
                rintro e w6 ⟨rfl, hb6⟩
                obtain ⟨hc6, hf6, hz6⟩ := bk hb6
                (try simp at hz6)
                have hy6_0 : wr.heap.size < w6.heap.size := by omega
                have hy6_1 : w.heap.size < w6.heap.size := by omega
                rw [← Hse.out, Hbit.out]
                have B6 := ((hbk.al (.cells #[.int .i64 k, .int .i64 y] 62)).tr hb5).tr hb6
                go_wp2
                go_roundw
                case rel => exact ⟨k + 1, by omega, by go_num, by rw [← Hsc.out, Hsg.out], B6⟩
                case measure => simp [intOf]; omega
              · have hsg := sgn_some hbit hC
                obtain ⟨b, off, rfl, hb, q1, q2, q3⟩ := (h2.below RE.stays (hbel.tr hbk)).atDom hj
                obtain ⟨d, hd⟩ : ∃ d, d = l[j] := ⟨_, rfl⟩
                rw [← hd] at q1 q2 q3 hsg
                obtain ⟨dx, dy, dn⟩ := d
                simp only at q1 q2 q3
                have hj0 : (0 : Int) ≤ (j : Int) := by omega
                have hjI : (j : Int) < (l.length : Int) := by omega
                have hnb : b ≠ wr.heap.size := by omega
                have HD := Lib.hid hD; have Hbit := Lib.hid hbit; have Hd := Lib.hid hd; clear hD hC hbit hd
                by_cases hdx : dx = (k : Int)
                · subst hdx
                  by_cases hdy : dy = (y : Int)
                  · subst hdy
                    rcases dn with _ | _
                    · have Hsg : Hid (sgn s l k y = 60) := Lib.hid (by rw [hsg]; simp [markOf])
                      clear hsg
                      go_wp2_with fail
                      refine (domAtS_any _ l k y _ (h2.below RE.stays hBl)).mono ?_
                      rintro e w5 ⟨rfl, hb5⟩
                      obtain ⟨hc5, hf5, hz5⟩ := bk hb5
                      (try simp at hz5)
                      have hy5_0 : wr.heap.size < w5.heap.size := by omega
                      have hy5_1 : w.heap.size < w5.heap.size := by omega
                      have hy5_2 : b < w5.heap.size := by omega
                      rw [HD.out]
                      have hnR : w.heap.size ≠ wr.heap.size := by omega
                      go_wp2_with fail
                      refine (l03HasS_yes _ rows k y _ (h.below RE.stays (hBl.tr hb5)) Hok hk8 hy8).mono ?_
                      rintro e w6 ⟨rfl, hb6⟩
                      obtain ⟨hc6, hf6, hz6⟩ := bk hb6
                      (try simp at hz6)
                      have hy6_0 : wr.heap.size < w6.heap.size := by omega
                      have hy6_1 : w.heap.size < w6.heap.size := by omega
                      have hy6_2 : b < w6.heap.size := by omega
                      rw [← Hse.out, Hbit.out]
                      have B6 := ((hbk.al (.cells #[.int .i64 k, .int .i64 y] 62)).tr hb5).tr hb6
                      go_wp2
                      go_roundw
                      case rel => exact ⟨k + 1, by omega, by go_num, by rw [← Hsc.out, Hsg.out], B6⟩
                      case measure => simp [intOf]; omega
                    · have Hsg : Hid (sgn s l k y = 94) := Lib.hid (by rw [hsg]; simp [markOf])
                      clear hsg
                      go_wp2_with fail
                      refine (domAtS_any _ l k y _ (h2.below RE.stays hBl)).mono ?_
                      rintro e w5 ⟨rfl, hb5⟩
                      obtain ⟨hc5, hf5, hz5⟩ := bk hb5
                      (try simp at hz5)
                      have hy5_0 : wr.heap.size < w5.heap.size := by omega
                      have hy5_1 : w.heap.size < w5.heap.size := by omega
                      have hy5_2 : b < w5.heap.size := by omega
                      rw [HD.out]
                      have hnR : w.heap.size ≠ wr.heap.size := by omega
                      go_wp2_with fail
                      refine (l03HasS_yes _ rows k y _ (h.below RE.stays (hBl.tr hb5)) Hok hk8 hy8).mono ?_
                      rintro e w6 ⟨rfl, hb6⟩
                      obtain ⟨hc6, hf6, hz6⟩ := bk hb6
                      (try simp at hz6)
                      have hy6_0 : wr.heap.size < w6.heap.size := by omega
                      have hy6_1 : w.heap.size < w6.heap.size := by omega
                      have hy6_2 : b < w6.heap.size := by omega
                      rw [← Hse.out, Hbit.out]
                      have B6 := ((hbk.al (.cells #[.int .i64 k, .int .i64 y] 62)).tr hb5).tr hb6
                      go_wp2
                      go_roundw
                      case rel => exact ⟨k + 1, by omega, by go_num, by rw [← Hsc.out, Hsg.out], B6⟩
                      case measure => simp [intOf]; omega
                  · rcases dn with _ | _
                    · have Hsg : Hid (sgn s l k y = 62) := Lib.hid (by rw [hsg]; simp [markOf, hdy])
                      clear hsg
                      go_wp2_with fail
                      refine (domAtS_any _ l k y _ (h2.below RE.stays hBl)).mono ?_
                      rintro e w5 ⟨rfl, hb5⟩
                      obtain ⟨hc5, hf5, hz5⟩ := bk hb5
                      (try simp at hz5)
                      have hy5_0 : wr.heap.size < w5.heap.size := by omega
                      have hy5_1 : w.heap.size < w5.heap.size := by omega
                      have hy5_2 : b < w5.heap.size := by omega
                      rw [HD.out]
                      have hnR : w.heap.size ≠ wr.heap.size := by omega
                      go_wp2_with fail
                      refine (l03HasS_yes _ rows k y _ (h.below RE.stays (hBl.tr hb5)) Hok hk8 hy8).mono ?_
                      rintro e w6 ⟨rfl, hb6⟩
                      obtain ⟨hc6, hf6, hz6⟩ := bk hb6
                      (try simp at hz6)
                      have hy6_0 : wr.heap.size < w6.heap.size := by omega
                      have hy6_1 : w.heap.size < w6.heap.size := by omega
                      have hy6_2 : b < w6.heap.size := by omega
                      rw [← Hse.out, Hbit.out]
                      have B6 := ((hbk.al (.cells #[.int .i64 k, .int .i64 y] 62)).tr hb5).tr hb6
                      go_wp2
                      go_roundw
                      case rel => exact ⟨k + 1, by omega, by go_num, by rw [← Hsc.out, Hsg.out], B6⟩
                      case measure => simp [intOf]; omega
                    · have Hsg : Hid (sgn s l k y = 118) := Lib.hid (by rw [hsg]; simp [markOf, hdy])
                      clear hsg
                      go_wp2_with fail
                      refine (domAtS_any _ l k y _ (h2.below RE.stays hBl)).mono ?_
                      rintro e w5 ⟨rfl, hb5⟩
                      obtain ⟨hc5, hf5, hz5⟩ := bk hb5
                      (try simp at hz5)
                      have hy5_0 : wr.heap.size < w5.heap.size := by omega
                      have hy5_1 : w.heap.size < w5.heap.size := by omega
                      have hy5_2 : b < w5.heap.size := by omega
                      rw [HD.out]
                      have hnR : w.heap.size ≠ wr.heap.size := by omega
                      go_wp2_with fail
                      refine (l03HasS_yes _ rows k y _ (h.below RE.stays (hBl.tr hb5)) Hok hk8 hy8).mono ?_
                      rintro e w6 ⟨rfl, hb6⟩
                      obtain ⟨hc6, hf6, hz6⟩ := bk hb6
                      (try simp at hz6)
                      have hy6_0 : wr.heap.size < w6.heap.size := by omega
                      have hy6_1 : w.heap.size < w6.heap.size := by omega
                      have hy6_2 : b < w6.heap.size := by omega
                      rw [← Hse.out, Hbit.out]
                      have B6 := ((hbk.al (.cells #[.int .i64 k, .int .i64 y] 62)).tr hb5).tr hb6
                      go_wp2
                      go_roundw
                      case rel => exact ⟨k + 1, by omega, by go_num, by rw [← Hsc.out, Hsg.out], B6⟩
                      case measure => simp [intOf]; omega
                · rcases dn with _ | _
                  · have Hsg : Hid (sgn s l k y = 62) := Lib.hid (by rw [hsg]; simp [markOf, hdx])
                    clear hsg
                    go_wp2_with fail
                    refine (domAtS_any _ l k y _ (h2.below RE.stays hBl)).mono ?_
                    rintro e w5 ⟨rfl, hb5⟩
                    obtain ⟨hc5, hf5, hz5⟩ := bk hb5
                    (try simp at hz5)
                    have hy5_0 : wr.heap.size < w5.heap.size := by omega
                    have hy5_1 : w.heap.size < w5.heap.size := by omega
                    have hy5_2 : b < w5.heap.size := by omega
                    rw [HD.out]
                    have hnR : w.heap.size ≠ wr.heap.size := by omega
                    go_wp2_with fail
                    refine (l03HasS_yes _ rows k y _ (h.below RE.stays (hBl.tr hb5)) Hok hk8 hy8).mono ?_
                    rintro e w6 ⟨rfl, hb6⟩
                    obtain ⟨hc6, hf6, hz6⟩ := bk hb6
                    (try simp at hz6)
                    have hy6_0 : wr.heap.size < w6.heap.size := by omega
                    have hy6_1 : w.heap.size < w6.heap.size := by omega
                    have hy6_2 : b < w6.heap.size := by omega
                    rw [← Hse.out, Hbit.out]
                    have B6 := ((hbk.al (.cells #[.int .i64 k, .int .i64 y] 62)).tr hb5).tr hb6
                    go_wp2
                    go_roundw
                    case rel => exact ⟨k + 1, by omega, by go_num, by rw [← Hsc.out, Hsg.out], B6⟩
                    case measure => simp [intOf]; omega
                  · have Hsg : Hid (sgn s l k y = 118) := Lib.hid (by rw [hsg]; simp [markOf, hdx])
                    clear hsg
                    go_wp2_with fail
                    refine (domAtS_any _ l k y _ (h2.below RE.stays hBl)).mono ?_
                    rintro e w5 ⟨rfl, hb5⟩
                    obtain ⟨hc5, hf5, hz5⟩ := bk hb5
                    (try simp at hz5)
                    have hy5_0 : wr.heap.size < w5.heap.size := by omega
                    have hy5_1 : w.heap.size < w5.heap.size := by omega
                    have hy5_2 : b < w5.heap.size := by omega
                    rw [HD.out]
                    have hnR : w.heap.size ≠ wr.heap.size := by omega
                    go_wp2_with fail
                    refine (l03HasS_yes _ rows k y _ (h.below RE.stays (hBl.tr hb5)) Hok hk8 hy8).mono ?_
                    rintro e w6 ⟨rfl, hb6⟩
                    obtain ⟨hc6, hf6, hz6⟩ := bk hb6
                    (try simp at hz6)
                    have hy6_0 : wr.heap.size < w6.heap.size := by omega
                    have hy6_1 : w.heap.size < w6.heap.size := by omega
                    have hy6_2 : b < w6.heap.size := by omega
                    rw [← Hse.out, Hbit.out]
                    have B6 := ((hbk.al (.cells #[.int .i64 k, .int .i64 y] 62)).tr hb5).tr hb6
                    go_wp2
                    go_roundw
                    case rel => exact ⟨k + 1, by omega, by go_num, by rw [← Hsc.out, Hsg.out], B6⟩
                    case measure => simp [intOf]; omega
          · obtain rfl : k = 8 := by omega
            have own2 := hown.below hbk
            have B2 := hbel.tr hbk
            have H8 : Hid (((fText s l y).length + 1) * 16 ≤ 140737488355328) := Lib.hid (by rw [fText_len]; omega)
            have HM : Hid ((fText s l y).length + 1 ≤ maxLen) := Lib.hid (by rw [fText_len]; unfold maxLen; omega)
            have Hsc := Lib.hid (fText_succ s l y)
            have Htl := Lib.hid (fText_len s l y)
            have hne := own2.apart hR2 (by decide)
            go_wp2_with (at_builtin; go_must (refine wpList_app1g (enc := eStr) rowStr lenStr oneStr B2 own2 (fStr s l y 8) H8.out HM.out (by simp) rfl _ _ rfl rfl rfl ?_); intro v4 w4 own4 hb4 hg4 hd4; obtain ⟨A4, c4, rfl, hc4, hm4⟩ := own4.form)
            have hR5 := (hR2.alloc _).grown hg4 (fun e => hne e.symm)
            go_roundw
            case rel => exact ⟨y + 1, A4, c4, by omega, by go_num, by simp [Htl.out], by have e : (fText s l y ++ [fStr s l y 8]).length = y + 1 := (by rw [List.length_append, Htl.out]; rfl); rw [Hsc.out, ← e]; exact own4, hR5, hb4⟩
            case measure => simp [intOf]; omega
      · obtain rfl : y = rows.length := by omega
        go_wp2
        go_ret
        have htl : (fText (setOf rows) l rows.length).length = rows.length := fText_len _ _ _
        rw [Hse.out] at hown
        refine ⟨D, d, by rw [htl]; rfl, ?_, hbel⟩
        rw [htl]; exact hown
end Go.Proofs.YtklgbjgjojelbaaGreatDoor
namespace Go.Proofs.YtklgbjgjojelbaaGreatDoor
open Go.ChangeShapes Go.WideShapes Go.ChangeAt Go.RowKit
set_option linter.unusedVariables false
set_option linter.unusedSimpArgs false

def dig1 (n : Nat) : ByteArray := strOfNums [((48 + n % 10 : Nat) : Int)]
def digGo : Nat → Nat → ByteArray → ByteArray
  | 0, _, o => o
  | f + 1, n, o => if n = 0 then o else digGo f (n / 10) (dig1 n ++ o)
def markStr (k : Nat) : ByteArray := (⟨#[109]⟩ : ByteArray) ++ digGo 10 k ByteArray.empty
theorem dig1_size (n : Nat) : (dig1 n).size = 1 := by unfold dig1; rw [strOfNums_size]; rfl
theorem digGo_zero : ∀ (f : Nat) (o : ByteArray), digGo f 0 o = o
  | 0, _ => rfl
  | f + 1, o => rfl
set_option maxHeartbeats 1000000 in
set_option maxRecDepth 100000 in
theorem markText_any (k : Nat) (w : World) (h0 : 1 ≤ k) (hk : k ≤ 1000000000) : Calls Tryz.prog 23 #[.int .i64 k] w (Ret (.string (markStr k)) w) := by
  obtain ⟨R, hR⟩ : ∃ R, R = digGo 10 k ByteArray.empty := ⟨_, rfl⟩
  have e : markStr k = (⟨#[109]⟩ : ByteArray) ++ R := by rw [hR]; rfl
  rw [e]
  have HR := Lib.hid hR; clear e hR
  have hk0 : ¬ ((k : Int) ≤ 0) := by omega
  go_enter Tryz.func23, Tryz.ntmps23
  go_wp2
  go_loopw [0, 3] (fun s0 s3 wr => ∃ (f n : Nat) (o : ByteArray), Hid (n < 10 ^ f) ∧ n ≤ 1000000000 ∧ o.size + f ≤ 10 ∧ s0 = .int .i64 n ∧ s3 = .string o ∧ Hid (digGo f n o = R) ∧ Below w.heap.size w wr) (fun i _ _ => (intOf i).toNat)
  case atStart => exact ⟨10, k, ByteArray.empty, Lib.hid (by omega), hk, by decide, rfl, rfl, Lib.hid HR.out.symm, Below.refl _ _⟩
  case round =>
    obtain ⟨f, n, o, Hn, hn, hf, rfl, rfl, Hg, hbel⟩ := hrel
    have hos : o.size ≤ 10 := by omega
    by_cases hlt : 0 < n
    · obtain ⟨f, rfl⟩ : ∃ f', f = f' + 1 := ⟨f - 1, by have := Hn.out; rcases f with _ | f <;> simp at *; omega⟩
      have hg : digGo f (n / 10) (dig1 n ++ o) = R := by
        rw [← Hg.out]; show _ = if n = 0 then o else digGo f (n / 10) (dig1 n ++ o); rw [if_neg (by omega)]
      have HG := Lib.hid hg; clear hg
      have hd1 := dig1_size n
      have hw : IntKind.u8.wrap (48 + (n : Int) % 10) = 48 + (n : Int) % 10 := by rw [IntKind.wrap_u8]; omega
      have hconv := run_convert_bytes_arg (P := Tryz.prog) (wr.alloc (.cells #[.int .u8 (48 + (n : Int) % 10)] 5)) 68 5 Tryz.underlying68 Tryz.underlying5 wr.heap.size 0 1 1 [48 + (n : Int) % 10] rfl (fun i hi => by
        obtain rfl : i = 0 := by omega
        exact (cell_of_row _ _ 0 #[.int .u8 (48 + (n : Int) % 10)] 5 (0, 0) (heap_alloc_new wr _))) 9 Tryz.underlying9
      have hd : strOfNums [48 + (n : Int) % 10] = dig1 n := by unfold dig1; congr 2
      rw [hd] at hconv
      clear hd
      have hsz : (dig1 n ++ o).size = 1 + o.size := by rw [ByteArray.size_append, hd1]
      have Hn2 : Hid (n / 10 < 10 ^ f) := Lib.hid (by have := Hn.out; rw [Nat.pow_succ] at this; omega)
      have Hsz := Lib.hid hsz; clear hsz
      go_wp2
      go_roundw
      case rel => exact ⟨f, n / 10, dig1 n ++ o, Hn2, by omega, by rw [Hsz.out]; omega, by go_num, rfl, HG, hbel.al _⟩
      case measure => simp [intOf]; omega
    · obtain rfl : n = 0 := by omega
      have HG : Hid (o = R) := Lib.hid (by rw [← Hg.out, digGo_zero])
      go_wp2
      go_ret
      exact ⟨by rw [HG.out]; rfl, hbel⟩

theorem below_gr {w w' : World} (h : Below w.heap.size w w') (r : Option Nat) : w.grownBy w' r := ⟨h.os, h.tape, h.output, h.size, fun k hk _ => h.block k hk⟩
/-- The marks that the law writes into n strings, from k on. -/
def mkStr (k j : Nat) : ByteArray := markStr (k + j)
def marksStr (k n : Nat) : List ByteArray := (List.range n).map (mkStr k)
theorem marksStr_len (k n : Nat) : (marksStr k n).length = n := by simp [marksStr]
theorem marksStr_set {m l : List ByteArray} {j k : Nat} (h : m.length = l.length) (e : m.take j = marksStr k j) (hj : j < l.length) : (m.set j (mkStr k j)).length = l.length ∧ (m.set j (mkStr k j)).take (j + 1) = marksStr k (j + 1) := by
  refine ⟨by simpa using h, ?_⟩
  rw [take_set _ (by omega), e]
  simp [marksStr, List.range_succ]
set_option maxRecDepth 100000 in
theorem markStrs_any (v : Value) (l : List ByteArray) (k B : Nat) (w : World) (h : OwnL 9 1 eStr B w v l) (h0 : 1 ≤ k) (h1 : k ≤ 67108864) (hl : l.length ≤ 1048576) :
    Calls Tryz.prog 11 #[v, .int .i64 k] w (Marked (.int .i64 (k + l.length : Nat)) v (fun w' => OwnL 9 1 eStr B w' v (marksStr k l.length)) w) := by
  obtain ⟨A, c, rfl, hc, hm⟩ := h.form
  go_enter Tryz.func11, Tryz.ntmps11
  go_wp2
  go_loopw [1, 5] (fun q i wr => ∃ (j : Nat) (m : List ByteArray), j ≤ l.length ∧ i = .int .i64 j ∧ q = .int .i64 (k + j : Nat) ∧ Hid (m.length = l.length ∧ m.take j = marksStr k j) ∧ OwnL 9 1 eStr B wr (.slice A l.length c) m ∧ w.grownBy wr (Value.slice A l.length c).ownBlock) (fun _ i _ => l.length - (intOf i).toNat)
  case atStart => exact ⟨0, l, Nat.zero_le _, rfl, rfl, Lib.hid ⟨rfl, rfl⟩, h, World.grownBy.refl _ _⟩
  case round =>
    obtain ⟨j, m, hj, rfl, rfl, Hg, hown, hgr⟩ := hrel
    by_cases hlt : j < l.length
    · obtain ⟨g, rfl, hB, hgl⟩ := hown.split (k := j) (by rw [Hg.out.1]; omega)
      go_wp2_with fail
      refine (markText_any (k + j) _ (by omega) (by omega)).mono ?_
      rintro e w1 ⟨rfl, hb1⟩
      have own1 := hown.below hb1
      obtain ⟨u0, s0⟩ := own1.slot1 lenStr (k := j) (by rw [Hg.out.1]; omega)
      have hsf := own1.free
      go_wp2
      go_roundw
      case rel => exact ⟨j + 1, m.set j (mkStr k j), by omega, by go_num, by go_num, Lib.hid (marksStr_set Hg.out.1 Hg.out.2 hlt), own1.store1 lenStr (by rw [Hg.out.1]; omega) rfl, gr_set (gr_trans hgr (below_gr hb1 _)) _ _⟩
      case measure => simp [intOf]; omega
    · go_wp2
      go_ret
      obtain rfl : j = l.length := by omega
      exact ⟨rfl, by have e := Hg.out.2; rw [List.take_of_length_le (by rw [Hg.out.1]; omega)] at e; rw [← e]; exact hown, hgr⟩
abbrev oMarkStr0 : Oper := { dst := some 12, op := Go.Op.move (Go.Operand.tmp 0), type := 32, pos := "exact.go:127", after := #[], guard := none }
abbrev oMarkStr1 : Oper := { dst := some 13, op := Go.Op.move (Go.Operand.tmp 5), type := 3, pos := "exact.go:127", after := #[], guard := none }
abbrev oMarkStr2 : Oper := { dst := some 14, op := Go.Op.indexAddr 32 (Go.Operand.tmp 12) (Go.Operand.tmp 13), type := 0, pos := "exact.go:127", after := #[{ on := 0, ground := Go.Ground.data }, { on := 1, ground := Go.Ground.data }], guard := none }
abbrev oMarkStr3 : Oper := { dst := some 15, op := Go.Op.load 9 (Go.Operand.tmp 14), type := 9, pos := "exact.go:127", after := #[{ on := 2, ground := Go.Ground.data }], guard := none }
abbrev oMarkStr4 : Oper := { dst := some 16, op := Go.Op.move (Go.Operand.tmp 1), type := 3, pos := "exact.go:127", after := #[], guard := none }
abbrev oMarkStr5 : Oper := { dst := some 17, op := Go.Op.call { callee := Go.Callee.value (Go.Operand.func 23), args := #[Go.Operand.tmp 16], argTypes := #[3] }, type := 9, pos := "exact.go:127", after := #[{ on := 4, ground := Go.Ground.data }], guard := none }
abbrev oMarkStr6 : Oper := { dst := some 18, op := Go.Op.binOp Go.BinOp.neq 9 (Go.Operand.tmp 15) (Go.Operand.tmp 17) 9, type := 4, pos := "exact.go:127", after := #[{ on := 3, ground := Go.Ground.data }, { on := 5, ground := Go.Ground.data }], guard := none }
set_option maxRecDepth 100000 in
theorem heldStrs_any (v : Value) (k n : Nat) (w : World) (h : Rd 1 (RE eStr) w v (marksStr k n)) (h0 : 1 ≤ k) (h1 : k ≤ 67108864) (hl : n ≤ 1048576) :
    Calls Tryz.prog 12 #[v, .int .i64 k] w (Ret (.int .i64 (k + n : Nat)) w) := by
  have hlen : (marksStr k n).length = n := by simp [marksStr]
  obtain ⟨A, c, rfl, hc, hm⟩ := h.form
  rw [hlen] at h hc hm ⊢
  go_enter Tryz.func12, Tryz.ntmps12
  go_wp2
  go_loopw [1, 5] (fun q i wr => ∃ j : Nat, j ≤ n ∧ i = .int .i64 j ∧ q = .int .i64 (k + j : Nat) ∧ Below w.heap.size w wr) (fun _ i _ => n - (intOf i).toNat)
  case atStart => exact ⟨0, Nat.zero_le _, rfl, rfl, Below.refl _ _⟩
  case round =>
    obtain ⟨j, hj, rfl, rfl, hbel⟩ := hrel
    by_cases hlt : j < n
    · obtain ⟨b, off, rfl, hb, k1⟩ := (h.below RE.stays hbel).atStr (k := j) (by omega)
      simp only [marksStr, mkStr, List.getElem_map, List.getElem_range] at k1
      clear hlen
      have hj0 : (0 : Int) ≤ (j : Int) := by omega
      have hjn : (j : Int) < (n : Int) := by omega
      obtain ⟨S, hS⟩ : ∃ S, S = markStr (k + j) := ⟨_, rfl⟩
      rw [← hS] at k1
      have HS := Lib.hid hS; clear hS
      have Bw : Below wr.heap.size wr wr.drew := (Below.refl _ _).drew
      have hz : wr.heap.size ≤ wr.drew.heap.size := by simp
      go_wp2_with fail
      refine wp_region_held_drew (S := (fun w' => w'.cell? ⟨b, off + j, none⟩ = some (.string S))) (by kernel_rfl) ?_ (fun hHeld => ?_)
      · (try dsimp only); (try go_keep)
      refine tk 0 oMarkStr0 rfl (by kernel_rfl) (v := ?_) (fun _ _ _ h => h) (Or.inl ⟨by rfl, ?_⟩) (by assumption) ?_
      rotate_left 1
      · (intro wS hSw; (try dsimp only at hSw); dsimp only [oMarkStr0]; go_simp; (all_goals with_reducible rfl))
      simp only [oMarkStr0, putL, List.set]
      refine tk 1 oMarkStr1 rfl (by kernel_rfl) (v := ?_) (fun _ _ _ h => h) (Or.inl ⟨by rfl, ?_⟩) (by assumption) ?_
      rotate_left 1
      · (intro wS hSw; (try dsimp only at hSw); dsimp only [oMarkStr1]; go_simp; (all_goals with_reducible rfl))
      simp only [oMarkStr1, putL, List.set]
      refine tk 2 oMarkStr2 rfl (by kernel_rfl) (v := ?_) (fun _ _ _ h => h) (Or.inl ⟨by rfl, ?_⟩) (by assumption) ?_
      rotate_left 1
      · (intro wS hSw; (try dsimp only at hSw); dsimp only [oMarkStr2]; go_simp; (all_goals with_reducible rfl))
      simp only [oMarkStr2, putL, List.set]
      refine tk 3 oMarkStr3 rfl (by kernel_rfl) (v := ?_) (fun _ _ _ h => h) (Or.inl ⟨by rfl, ?_⟩) (by assumption) ?_
      rotate_left 1
      · (intro wS hSw; (try dsimp only at hSw); dsimp only [oMarkStr3]; go_simp; (all_goals with_reducible rfl))
      simp only [oMarkStr3, putL, List.set]
      refine tk 4 oMarkStr4 rfl (by kernel_rfl) (v := ?_) (fun _ _ _ h => h) (Or.inl ⟨by rfl, ?_⟩) (by assumption) ?_
      rotate_left 1
      · (intro wS hSw; (try dsimp only at hSw); dsimp only [oMarkStr4]; go_simp; (all_goals with_reducible rfl))
      simp only [oMarkStr4, putL, List.set]
      refine wpAnyH_ready (rs := [5]) (by kernel_rfl) (by simp) ?_
      refine AllReadyH.cons (o := oMarkStr5) rfl (fun K hK => ?_) AllReadyH.nil
      dsimp only [oMarkStr5]
      go_simp
      (go_at_call 23; go_must (refine (markText_any (k + j) _ (by omega) (by omega)).mono ?_; rintro e wX ⟨rfl, hbX⟩; rw [← HS.out]; obtain ⟨hcX, hfX, hzX⟩ := bkn hbX wr.heap.size hz; have hz := hzX; have Bw := Bw.tr hbX); (try go_wp2_with fail))
      refine hK.out _ _ ?_ (fun hHeld => ?_)
      · (try dsimp only); (try go_keep)
      clear hK K
      (try simp only [Act.put, List.setIfInBounds_toArray, List.set_cons_zero, List.set_cons_succ])
      refine tk 6 oMarkStr6 rfl (by kernel_rfl) (v := ?_) (fun _ _ _ h => h) (Or.inl ⟨by rfl, ?_⟩) (by assumption) ?_
      rotate_left 1
      · (intro wS hSw; (try dsimp only at hSw); dsimp only [oMarkStr6]; go_simp; (all_goals with_reducible rfl))
      simp only [oMarkStr6, putL, List.set]
      refine wpAnyH_done (by kernel_rfl) ?_ _
      go_wp2
      go_roundw
      case rel => exact ⟨j + 1, by omega, by go_num, by go_num, hbel.tr Bw⟩
      case measure => simp [intOf]; omega
    · go_wp2
      go_ret
      obtain rfl : j = n := by omega
      exact ⟨rfl, hbel⟩
end Go.Proofs.YtklgbjgjojelbaaGreatDoor
