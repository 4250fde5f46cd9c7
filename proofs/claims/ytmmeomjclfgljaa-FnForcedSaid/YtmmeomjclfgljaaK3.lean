/- WithCell of the program. No conditions but sizes. WithCell of the reference: the plain law that its rows are those of the set, and the walks. No conditions but sizes. WithCell of the reference: the walk. No conditions but sizes. WithCell of the reference where the region and the cell are valid: the walk. The laws' copying, comparing, marking and holding of regions, and WithCell of both sides as one function. No conditions but sizes. The reference's drawing of numbers from bytes: l01New, l01Byte, l01Below. Conditions: the bytes read as a list; numbers are ints. The boxes that the reference draws: valid ones, one to four kinds. Conditions: the bytes read as a list. Rectangle of the program and of the reference, CellAt of the reference: the walks. Conditions: valid sizes. The regions that the reference draws: valid ones, of one to five rows. Conditions: the bytes read as a list. The cells of a set and of a region; HasCell, SameCells of the program: the walks. No conditions but sizes.. Conditions, where there are any, stand in the statements. -/
import Derived.Test.YtmmeomjclfgljaaK2
import Derived.Test.YtmmeomjclfgljaaK1
import Derived.IntWalk
import Derived.Laws.BitsLemmas
import Derived.Deep.RegionHeld3
namespace Go.Proofs.Ytmmeomjclfgljaa
open Go.ChangeShapes Go.WideShapes Go.ChangeAt Go.RowKit
set_option linter.unusedVariables false

/-- The call returned a region of its own and a bool, and wrote nothing that was there. -/
def RetRegB (l : List Int) (b : Bool) (w : World) (e : Ending) (w' : World) : Prop := ∃ A c, e = .returned (.tuple #[.agg #[.slice A l.length c], .bool b]) ∧ OwnL 3 1 eInt w.heap.size w' (.slice A l.length c) l ∧ Below w.heap.size w w'
def withSet (s i : Nat) (on : Bool) : Nat := if on then sWith (sWithout s i) i else sWithout s i
def withCell (rows : List Int) (c : Cl) (on : Bool) : List Int × Bool := if regionOk rows && cellOk c then (rowsOf (withSet (setOf rows) (cellIx c).toNat on) 8, true) else (rows, false)

theorem Blk.bl {w w' : World} {g : Nat} {t : TypeId} {cs : Array Value} (h : Blk w g t cs) (hb : Below w.heap.size w w') : Blk w' g t cs := h.below hb h.lt
theorem Blk.set1 {w : World} {g : Nat} {t : TypeId} {v : Value} (h : Blk w g t #[v]) (u : Value) : Blk (w.setCell ⟨g, 0, none⟩ u) g t #[u] := h.set_ 0 u
theorem Blk.new2 (w : World) (t : TypeId) (cs : Array Value) (g : Nat) (hg : g = w.heap.size) : Blk (w.alloc (.cells cs t)) g t cs := by subst hg; exact Blk.new_ w t cs

theorem regionOf8 (s : Nat) (w : World) (hs : s < U64) : Calls Try.prog 76 #[.int .u64 s, .int .i64 8] w (RetReg (rowsOf s 8) w) := regionOf_any s 8 w hs (by decide)
end Go.Proofs.Ytmmeomjclfgljaa
namespace Go.Proofs.Ytmmeomjclfgljaa
open Go.ChangeShapes Go.WideShapes Go.ChangeAt Go.RowKit
set_option linter.unusedVariables false

/-- The row that the reference makes of a row. -/
def specRow (r x : Nat) (on : Bool) : Nat := if on then r ||| 2 ^ x else (r ||| 2 ^ x) - 2 ^ x
theorem specRow_bits : ∀ r < 256, ∀ x < 8, ∀ j < 8, (specRow r x true).testBit j = (r.testBit j || decide (x = j)) ∧ (specRow r x false).testBit j = (r.testBit j && !decide (x = j)) := by
  decide +kernel
theorem specRow_lt : ∀ r < 256, ∀ x < 8, specRow r x true < 256 ∧ specRow r x false < 256 := by
  decide +kernel
def pad8 (rows : List Int) : List Int := rows ++ List.replicate (8 - rows.length) 0
theorem pad8_len {rows : List Int} (h : rows.length ≤ 8) : (pad8 rows).length = 8 := by simp [pad8]; omega
theorem pad8_getD (rows : List Int) (i : Nat) : (pad8 rows).getD i 0 = rows.getD i 0 := by
  unfold pad8
  rw [List.getD_eq_getElem?_getD, List.getD_eq_getElem?_getD]
  by_cases h : i < rows.length
  · rw [List.getElem?_append_left h]
  · rw [List.getElem?_append_right (by omega), List.getElem?_eq_none (l := rows) (by omega), List.getElem?_replicate]
    split <;> rfl
theorem getD_in {rows : List Int} (h : RowsOk rows) (i : Nat) : 0 ≤ rows.getD i 0 ∧ rows.getD i 0 ≤ 255 := by
  rw [List.getD_eq_getElem?_getD]
  by_cases hi : i < rows.length
  · rw [List.getElem?_eq_getElem hi, Option.getD_some]; exact h.2 _ (List.getElem_mem hi)
  · rw [List.getElem?_eq_none (by omega)]; decide
theorem withSet_bit {s i : Nat} (hs : s < U64) (hi : i < 64) (on : Bool) (j : Nat) : (withSet s i on).testBit j = if on then (s.testBit j || decide (i = j)) else (s.testBit j && !decide (i = j)) := by
  unfold withSet
  cases on
  · simp only [Bool.false_eq_true, if_false]; exact testBit_sWithout hs hi j
  · simp only [if_true]; rw [testBit_sWith, testBit_sWithout hs hi]
    cases s.testBit j <;> cases hd : decide (i = j) <;> rfl
/-- The reference's rows are the rows of the set. -/
theorem withRows {rows : List Int} (h : RowsOk rows) {x y : Nat} (hx : x < 8) (hy : y < 8) (on : Bool) :
    (pad8 rows).set y (specRow (rows.getD y 0).toNat x on : Nat) = rowsOf (withSet (setOf rows) (8 * y + x) on) 8 := by
  have hi : 8 * y + x < 64 := by omega
  refine List.ext_getElem? fun k => ?_
  by_cases hk : k < 8
  · have hr := getD_in h k
    have hrow : (rowsOf (withSet (setOf rows) (8 * y + x) on) 8)[k]? = some ((((withSet (setOf rows) (8 * y + x) on) >>> (8 * k)) % 256 : Nat) : Int) := by
      have := rowsOf_at (withSet (setOf rows) (8 * y + x) on) 8 k hk
      rw [List.getD_eq_getElem?_getD, List.getElem?_eq_getElem (by rw [rowsOf_len]; exact hk), Option.getD_some] at this
      rw [List.getElem?_eq_getElem (by rw [rowsOf_len]; exact hk), this]
    rw [hrow]
    have hval : ∀ v : Nat, v < 256 → (∀ j, j < 8 → v.testBit j = (withSet (setOf rows) (8 * y + x) on).testBit (8 * k + j)) → some (v : Int) = some ((((withSet (setOf rows) (8 * y + x) on) >>> (8 * k)) % 256 : Nat) : Int) := by
      intro v hv hb
      have : v = ((withSet (setOf rows) (8 * y + x) on) >>> (8 * k)) % 256 := row_ext hv (Nat.mod_lt _ (by decide)) fun j hj => by rw [row_bit _ _ _ hj]; exact hb j hj
      rw [← this]
    have hset : ∀ j, j < 8 → (setOf rows).testBit (8 * k + j) = (rows.getD k 0).toNat.testBit j := by
      intro j hj
      rw [setOf_bit h, show (8 * k + j) / 8 = k by omega, show (8 * k + j) % 8 = j by omega]
    by_cases e : y = k
    · subst e
      rw [List.getElem?_set_self (by rw [pad8_len h.1]; exact hk)]
      have hr2 : (rows.getD y 0).toNat < 256 := by omega
      have hl := specRow_lt _ hr2 x hx
      have hl' : specRow (rows.getD y 0).toNat x on < 256 := by
        cases on
        · exact hl.2
        · exact hl.1
      refine hval _ hl' fun j hj => ?_
      rw [withSet_bit (setOf_lt h) hi, hset j hj]
      have hb := specRow_bits _ hr2 x hx j hj
      have hd : decide (8 * y + x = 8 * y + j) = decide (x = j) := by rw [decide_eq_decide]; omega
      rw [hd]
      cases on
      · simp only [Bool.false_eq_true, if_false]; exact hb.2
      · simp only [if_true]; exact hb.1
    · rw [List.getElem?_set_ne e]
      have hp := pad8_getD rows k
      rw [List.getD_eq_getElem?_getD, List.getElem?_eq_getElem (by rw [pad8_len h.1]; exact hk), Option.getD_some] at hp
      rw [List.getElem?_eq_getElem (by rw [pad8_len h.1]; exact hk), hp]
      have hnn : rows.getD k 0 = (((rows.getD k 0).toNat : Nat) : Int) := by omega
      rw [hnn]
      refine hval _ (by omega) fun j hj => ?_
      rw [withSet_bit (setOf_lt h) hi, hset j hj]
      have hd : decide (8 * y + x = 8 * k + j) = false := by rw [decide_eq_false_iff_not]; omega
      rw [hd]; cases on <;> simp
  · rw [List.getElem?_eq_none (by rw [List.length_set, pad8_len h.1]; omega), List.getElem?_eq_none (by rw [rowsOf_len]; omega)]

theorem ofInt_i64 (a : Nat) (ha : a < 18446744073709551616) : (BitVec.ofInt 64 (a : Int)).toNat = a := by
  rw [BitVec.ofInt_natCast, BitVec.toNat_ofNat]; exact Nat.mod_eq_of_lt (by omega)
theorem i64_or_nat (a b : Nat) (ha : a < 4294967296) (hb : b < 4294967296) : bits .or .i64 (a : Int) (b : Int) = ((a ||| b : Nat) : Int) := by
  have hx : a ||| b < 2 ^ 32 := Nat.or_lt_two_pow (by omega) (by omega)
  show IntKind.i64.wrap ((BitVec.ofInt 64 (a : Int) ||| BitVec.ofInt 64 (b : Int)).toNat : Int) = _
  rw [BitVec.toNat_or, ofInt_i64 a (by omega), ofInt_i64 b (by omega), IntKind.wrap_i64]
  omega
theorem i64_and_nat (a b : Nat) (ha : a < 4294967296) (hb : b < 4294967296) : bits .and .i64 (a : Int) (b : Int) = ((a &&& b : Nat) : Int) := by
  have hx : a &&& b < 2 ^ 32 := Nat.and_lt_two_pow _ (by omega)
  show IntKind.i64.wrap ((BitVec.ofInt 64 (a : Int) &&& BitVec.ofInt 64 (b : Int)).toNat : Int) = _
  rw [BitVec.toNat_and, ofInt_i64 a (by omega), ofInt_i64 b (by omega), IntKind.wrap_i64]
  omega

theorem regionOkS_any (v : Value) (rows : List Int) (w : World) (h : Rd 1 RInt w v rows) : Calls Try.prog 80 #[.agg #[v]] w (Ret (.bool (regionOk rows)) w) := by
  obtain ⟨A, c, rfl, hc, hm⟩ := h.form
  have h' := h.below RE.stays ((Below.refl _ _).al (.cells #[.slice A rows.length c] 26))
  have e0 : regionOk rows = (allIn 0 255 rows && decide ((rows.length : Int) ≤ 8)) := by
    unfold regionOk; rw [Bool.and_comm]; congr 1; rw [decide_eq_decide]; omega
  rw [e0]
  go_enter Try.func80, Try.ntmps80
  go_wp2
  go_loop [3] (fun i => ∃ k : Nat, k ≤ rows.length ∧ i = .int .i64 k ∧ Hid (allIn 0 255 (rows.drop k) = allIn 0 255 rows)) (fun i => rows.length - (intOf i).toNat)
  case atStart => exact ⟨0, Nat.zero_le _, rfl, Lib.hid rfl⟩
  case round =>
    obtain ⟨k, hk, rfl, Hg⟩ := hrel
    by_cases hlt : k < rows.length
    · obtain ⟨b, off, rfl, hb, h1⟩ := h'.atInt hlt
      go_wp2_with (go_at_call 49; (with_reducible refine (in_any _ _ _ _).mono ?_); rintro e w' ⟨rfl, rfl⟩)
      all_goals first
        | (go_round
           case rel => exact ⟨k + 1, by omega, by go_num, allIn_go Hg hlt (by rename_i hx; simpa using hx)⟩
           case measure => simp [intOf]; omega)
        | (go_ret
           exact ⟨retB (by rw [allIn_no Hg hlt (by rename_i hx; simpa using hx)]; rfl), (Below.refl _ _).al _⟩)
    · go_wp2
      go_ret
      exact ⟨retB (by rw [allIn_end Hg (by omega), Bool.true_and]), (Below.refl _ _).al _⟩

theorem copyS_any (v : Value) (l : List Int) (w : World) (h : Rd 1 RInt w v l) (hl : Small l.length) : Calls Try.prog 126 #[.agg #[v]] w (RetReg l w) := by
  obtain ⟨A, c, rfl, hc, hm⟩ := h.form
  have hA := (((Below.refl w.heap.size w).al (.cells #[.slice A l.length c] 26)).al (.cells #[.slice none 0 0] 26)).al (.cells #[] 3)
  have h' := h.below RE.stays hA
  have hs8 : (0 + l.length) * 8 ≤ 140737488355328 := by unfold Small at hl; omega
  have hsm : 0 + l.length ≤ maxLen := by have := hl.max; omega
  have hB : w.heap.size + 1 + 1 ≤ (((w.alloc (.cells #[.slice A l.length c] 26)).alloc (.cells #[.slice none 0 0] 26)).alloc (.cells #[] 3)).heap.size := by simp
  have hE : OwnL 3 1 eInt (w.heap.size + 1 + 1) (((w.alloc (.cells #[.slice A l.length c] 26)).alloc (.cells #[.slice none 0 0] 26)).alloc (.cells #[] 3)) (.slice (some ⟨w.heap.size + 1 + 1, 0, none⟩) 0 0) ([] : List Int) := by
    have := own_empty (E := 3) (size := 1) (enc := eInt) ((w.alloc (.cells #[.slice A l.length c] 26)).alloc (.cells #[.slice none 0 0] 26))
    simpa using this
  have hx := (Blk.new2 (w.alloc (.cells #[.slice A l.length c] 26)) 26 #[.slice none 0 0] (w.heap.size + 1) (by simp)).alloc (.cells #[] 3)
  have H8 := Lib.hid hs8; have HM := Lib.hid hsm; have HB := Lib.hid hB; clear hs8 hsm hB
  go_enter Try.func126, Try.ntmps126
  go_wp2_with (at_builtin; go_must (refine wpList_appAll (enc := eInt) rowInt lenInt oneInt HB.out hE h' H8.out HM.out rfl _ _ rfl rfl rfl ?_); intro v1 w1 own1 hb1 hv1; obtain ⟨A1, c1, rfl⟩ := hv1; simp only [List.nil_append, List.length_nil, Nat.zero_add] at own1; have hx1 := hx.below hb1 (Nat.lt_succ_self _); have q1 := hx1.c1; have q2 := hx1.frozen 0; have q3 := hx1.lt)
  have q5 := (hx1.set1 (.slice A1 l.length c1)).c1
  refine bodyPost_ret (v := .agg #[.slice A1 l.length c1]) (by simp [results, Try.results126, go_sem, q5]) rfl ⟨A1, c1, rfl, (own1.low (Nat.lt_succ_self _) _).mono (by omega), ?_⟩
  exact (hA.trans (hb1.mono (by omega))).st _ _ (Nat.le_succ _)
end Go.Proofs.Ytmmeomjclfgljaa
namespace Go.Proofs.Ytmmeomjclfgljaa
open Go.ChangeShapes Go.WideShapes Go.ChangeAt Go.RowKit
set_option linter.unusedVariables false

set_option maxRecDepth 100000 in
theorem withCellS_no (v : Value) (rows : List Int) (x y : Int) (on : Bool) (w : World) (h : Rd 1 RInt w v rows) (hl : Small rows.length) (hno : (regionOk rows && cellOk (x, y)) = false) :
    Calls Try.prog 90 #[.agg #[v], .agg #[.int .i64 x, .int .i64 y], .bool on] w (RetRegB rows false w) := by
  obtain ⟨A, c, rfl, hc, hm⟩ := h.form
  have hA := (((Below.refl w.heap.size w).al (.cells #[.slice A rows.length c] 26)).al (.cells #[.int .i64 x, .int .i64 y] 63)).al (.cells #[.slice none 0 0] 26)
  have h' := h.below RE.stays hA
  have hx := Blk.new2 ((w.alloc (.cells #[.slice A rows.length c] 26)).alloc (.cells #[.int .i64 x, .int .i64 y] 63)) 26 #[.slice none 0 0] (w.heap.size + 1 + 1) (by simp)
  rcases hr : regionOk rows with _ | _
  · go_enter Try.func90, Try.ntmps90
    go_wp2_with fail
    refine (copyS_any _ rows _ h' hl).mono ?_
    rintro e w1 ⟨A1, c1, rfl, own1, hb1⟩
    obtain ⟨hc1, hf1, hz1⟩ := bk hb1
    (try simp at hz1)
    have hy1_0 : w.heap.size < w1.heap.size := by omega
    have hy1_1 : w.heap.size + 1 < w1.heap.size := by omega
    have hy1_2 : w.heap.size + 1 + 1 < w1.heap.size := by omega
    have hx1 := (hx.bl hb1).alloc (.cells #[.slice A1 rows.length c1] 26)
    have ho1 := Blk.new_ w1 26 #[.slice A1 rows.length c1]
    go_wp2_with fail
    refine (regionOkS_any _ rows _ ((h'.below RE.stays hb1).below RE.stays ((Below.refl _ _).al _))).mono ?_
    rintro e w2 ⟨rfl, hb2⟩
    obtain ⟨hc2, hf2, hz2⟩ := bk hb2
    (try simp at hz2)
    have hy2_0 : w.heap.size < w2.heap.size := by omega
    have hy2_1 : w.heap.size + 1 < w2.heap.size := by omega
    have hy2_2 : w.heap.size + 1 + 1 < w2.heap.size := by omega
    have hy2_3 : w1.heap.size < w2.heap.size := by omega
    rw [hr]
    have q1 := (ho1.bl hb2).c1
    have q5 := ((hx1.bl hb2).set1 (.slice A1 rows.length c1)).c1
    have B2 := ((hA.tr hb1).al (.cells #[.slice A1 rows.length c1] 26)).tr hb2
    have own2 := (own1.alloc (.cells #[.slice A1 rows.length c1] 26)).below hb2
    go_wp2
    refine bodyPost_ret (v := .tuple #[.agg #[.slice A1 rows.length c1], .bool false]) (by simp [results, Try.results90, go_sem, q5]) rfl ⟨A1, c1, rfl, (own2.low (by simp) _).mono (by simp; omega), B2.st _ _ (by simp; omega)⟩
  · rw [hr, Bool.true_and] at hno
    go_enter Try.func90, Try.ntmps90
    go_wp2_with fail
    refine (copyS_any _ rows _ h' hl).mono ?_
    rintro e w1 ⟨A1, c1, rfl, own1, hb1⟩
    obtain ⟨hc1, hf1, hz1⟩ := bk hb1
    (try simp at hz1)
    have hy1_0 : w.heap.size < w1.heap.size := by omega
    have hy1_1 : w.heap.size + 1 < w1.heap.size := by omega
    have hy1_2 : w.heap.size + 1 + 1 < w1.heap.size := by omega
    have hx1 := (hx.bl hb1).alloc (.cells #[.slice A1 rows.length c1] 26)
    have ho1 := Blk.new_ w1 26 #[.slice A1 rows.length c1]
    go_wp2_with fail
    refine (regionOkS_any _ rows _ ((h'.below RE.stays hb1).below RE.stays ((Below.refl _ _).al _))).mono ?_
    rintro e w2 ⟨rfl, hb2⟩
    obtain ⟨hc2, hf2, hz2⟩ := bk hb2
    (try simp at hz2)
    have hy2_0 : w.heap.size < w2.heap.size := by omega
    have hy2_1 : w.heap.size + 1 < w2.heap.size := by omega
    have hy2_2 : w.heap.size + 1 + 1 < w2.heap.size := by omega
    have hy2_3 : w1.heap.size < w2.heap.size := by omega
    rw [hr]
    go_wp2_with fail
    refine (cellOkS_cl x y _).mono ?_
    rintro e w3 ⟨rfl, hb3⟩
    obtain ⟨hc3, hf3, hz3⟩ := bk hb3
    (try simp at hz3)
    have hy3_0 : w.heap.size < w3.heap.size := by omega
    have hy3_1 : w.heap.size + 1 < w3.heap.size := by omega
    have hy3_2 : w.heap.size + 1 + 1 < w3.heap.size := by omega
    have hy3_3 : w1.heap.size < w3.heap.size := by omega
    rw [hno]
    have q1 := ((ho1.bl hb2).bl hb3).c1
    have q5 := (((hx1.bl hb2).bl hb3).set1 (.slice A1 rows.length c1)).c1
    have B2 := (((hA.tr hb1).al (.cells #[.slice A1 rows.length c1] 26)).tr hb2).tr hb3
    have own2 := ((own1.alloc (.cells #[.slice A1 rows.length c1] 26)).below hb2).below hb3
    go_wp2
    refine bodyPost_ret (v := .tuple #[.agg #[.slice A1 rows.length c1], .bool false]) (by simp [results, Try.results90, go_sem, q5]) rfl ⟨A1, c1, rfl, (own2.low (by simp) _).mono (by simp; omega), B2.st _ _ (by simp; omega)⟩
end Go.Proofs.Ytmmeomjclfgljaa
namespace Go.Proofs.Ytmmeomjclfgljaa
open Go.ChangeShapes Go.WideShapes Go.ChangeAt Go.RowKit
set_option linter.unusedVariables false

/-- The length of the slice in a box. -/
def cellLen (w : World) (b : Nat) : Nat := match w.cell? ⟨b, 0, none⟩ with | some (.slice _ n _) => n | _ => 0
theorem Blk.len_ {w : World} {g : Nat} {t : TypeId} {A : Option Addr} {n c : Nat} (h : Blk w g t #[.slice A n c]) : cellLen w g = n := by unfold cellLen; rw [h.c1]

set_option maxHeartbeats 1000000 in
set_option maxRecDepth 100000 in
theorem withCellS_yes (v : Value) (rows : List Int) (x y : Nat) (on : Bool) (w : World) (h : Rd 1 RInt w v rows) (hl : Small rows.length) (hr : regionOk rows = true) (hx8 : x < 8) (hy8 : y < 8) :
    Calls Try.prog 90 #[.agg #[v], .agg #[.int .i64 x, .int .i64 y], .bool on] w (RetRegB ((pad8 rows).set y (specRow (rows.getD y 0).toNat x on : Nat)) true w) := by
  obtain ⟨A, c, rfl, hc, hm⟩ := h.form
  have hA := (((Below.refl w.heap.size w).al (.cells #[.slice A rows.length c] 26)).al (.cells #[.int .i64 x, .int .i64 y] 63)).al (.cells #[.slice none 0 0] 26)
  have h' := h.below RE.stays hA
  have hx := Blk.new2 ((w.alloc (.cells #[.slice A rows.length c] 26)).alloc (.cells #[.int .i64 x, .int .i64 y] 63)) 26 #[.slice none 0 0] (w.heap.size + 1 + 1) (by simp)
  have hcb := (Blk.new2 (w.alloc (.cells #[.slice A rows.length c] 26)) 63 #[.int .i64 x, .int .i64 y] (w.heap.size + 1) (by simp)).alloc (.cells #[.slice none 0 0] 26)
  have hcell : cellOk ((x : Int), (y : Int)) = true := cellOk_iff.2 ⟨⟨by omega, by omega⟩, by omega, by omega⟩
  have Hrows := Lib.hid (regionOk_iff.1 hr)
  have h8 := Hrows.out.1
  go_enter Try.func90, Try.ntmps90
  go_wp2_with fail
  refine (copyS_any _ rows _ h' hl).mono ?_
  rintro e w1 ⟨A1, c1, rfl, own1, hb1⟩
  obtain ⟨hc1, hf1, hz1⟩ := bk hb1
  (try simp at hz1)
  have hy1_0 : w.heap.size < w1.heap.size := by omega
  have hy1_1 : w.heap.size + 1 < w1.heap.size := by omega
  have hy1_2 : w.heap.size + 1 + 1 < w1.heap.size := by omega
  have hx1 := (hx.bl hb1).alloc (.cells #[.slice A1 rows.length c1] 26)
  have hcb1 := (hcb.bl hb1).alloc (.cells #[.slice A1 rows.length c1] 26)
  have ho1 := Blk.new_ w1 26 #[.slice A1 rows.length c1]
  go_wp2_with fail
  refine (regionOkS_any _ rows _ ((h'.below RE.stays hb1).below RE.stays ((Below.refl _ _).al _))).mono ?_
  rintro e w2 ⟨rfl, hb2⟩
  obtain ⟨hc2, hf2, hz2⟩ := bk hb2
  (try simp at hz2)
  have hy2_0 : w.heap.size < w2.heap.size := by omega
  have hy2_1 : w.heap.size + 1 < w2.heap.size := by omega
  have hy2_2 : w.heap.size + 1 + 1 < w2.heap.size := by omega
  have hy2_3 : w1.heap.size < w2.heap.size := by omega
  rw [hr]
  go_wp2_with fail
  refine (cellOkS_cl x y _).mono ?_
  rintro e w3 ⟨rfl, hb3⟩
  obtain ⟨hc3, hf3, hz3⟩ := bk hb3
  (try simp at hz3)
  have hy3_0 : w.heap.size < w3.heap.size := by omega
  have hy3_1 : w.heap.size + 1 < w3.heap.size := by omega
  have hy3_2 : w.heap.size + 1 + 1 < w3.heap.size := by omega
  have hy3_3 : w1.heap.size < w3.heap.size := by omega
  rw [hcell]
  have hx3 := (hx1.bl hb2).bl hb3
  have hcb3 := (hcb1.bl hb2).bl hb3
  have ho3 := (ho1.bl hb2).bl hb3
  have B3 := (((hA.tr hb1).al (.cells #[.slice A1 rows.length c1] 26)).tr hb2).tr hb3
  have own3 := (((own1.alloc (.cells #[.slice A1 rows.length c1] 26)).below hb2).below hb3).mono (B' := w.heap.size + 3) (by simp)
  obtain ⟨bo, hbo⟩ : ∃ bo, bo = w1.heap.size := ⟨_, rfl⟩
  rw [← hbo] at ho3 hy2_3 hy3_3
  have hbo2 : w.heap.size + 3 ≤ bo := by omega
  have q1 := ho3.c1
  rw [← hbo]
  clear hc1 hf1 hz1 hc2 hf2 hz2 hc3 hf3 hz3 hx hcb hx1 hcb1 ho1 hb1 hb2 hb3 own1 hA hbo hy1_0 hy1_1 hy1_2 hy2_0 hy2_1 hy2_2 hy2_3 hy3_0 hy3_1 hy3_2
  go_wp2
  go_loopw [20] (fun _ wr => ∃ (j : Nat) (A' : Option Addr) (c' : Nat), rows.length + j ≤ 8 ∧ Blk wr bo 26 #[.slice A' (rows.length + j) c'] ∧ OwnL 3 1 eInt (w.heap.size + 3) wr (.slice A' (rows.length + j) c') (rows ++ List.replicate j 0) ∧ Blk wr (w.heap.size + 1 + 1) 26 #[.slice none 0 0] ∧ Blk wr (w.heap.size + 1) 63 #[.int .i64 x, .int .i64 y] ∧ Below w.heap.size w wr) (fun _ wr => 8 - cellLen wr bo)
  case atStart => exact ⟨0, A1, c1, by omega, ho3, by simpa using own3, hx3, hcb3, B3⟩
  case round =>
    obtain ⟨j, A', c', hj, hbx, hown, hbr, hbc, hbel⟩ := hrel
    clear ho3 own3 hx3 hcb3 B3 q1
    have q1 := hbx.c1
    have q2 := hbx.frozen 0
    have hz := hbx.lt
    by_cases hlt : rows.length + j < 8
    · have hltI : ((rows.length : Int) + j) < 8 := by omega
      have hlen : (rows ++ List.replicate j (0 : Int)).length = rows.length + j := by simp
      have HB : Hid (w.heap.size + 3 ≤ wr.heap.size) := Lib.hid (by omega)
      have H8 : Hid (((rows ++ List.replicate j (0 : Int)).length + 1) * 8 ≤ 140737488355328) := Lib.hid (by rw [hlen]; omega)
      have HM : Hid ((rows ++ List.replicate j (0 : Int)).length + 1 ≤ maxLen) := Lib.hid (by rw [hlen]; unfold maxLen; omega)
      have Hlen := Lib.hid hlen; clear hlen
      go_wp2_with (at_builtin; go_must (refine wpList_appB (enc := eInt) rowInt lenInt oneInt (B := w.heap.size + 3) wr HB.out hown 0 rfl H8.out HM.out rfl _ _ rfl rfl rfl ?_); intro v1 w1 own1 hg1 hv1; rw [Hlen.out] at hv1; obtain ⟨A1, c1, rfl⟩ := hv1; have hbx1 := hbx.grown hg1 (fun e => (hown.apart hbx (by decide)) e.symm); have q3 := hbx1.c1; have q4 := hbx1.frozen 0)
      have hbx2 := hbx1.set1 (.slice A1 (rows.length + j + 1) c1)
      have hbr2 := (hbr.grown hg1 (fun e => (hown.apart hbr (by decide)) e.symm)).far (p := ⟨bo, 0, none⟩) (by simp; omega) (.slice A1 (rows.length + j + 1) c1)
      have hbc2 := (hbc.grown hg1 (fun e => (hown.apart hbc (by decide)) e.symm)).far (p := ⟨bo, 0, none⟩) (by simp; omega) (.slice A1 (rows.length + j + 1) c1)
      have own2 := own1.far (a := ⟨bo, 0, none⟩) (own1.apart hbx1 (by decide)) (.slice A1 (rows.length + j + 1) c1)
      rw [List.append_assoc, show List.replicate j (0 : Int) ++ [0] = List.replicate (j + 1) 0 by rw [List.replicate_succ']] at own2
      have B2 := (Below.app hbel hown (by omega) hg1).st ⟨bo, 0, none⟩ (.slice A1 (rows.length + j + 1) c1) (by simp; omega)
      have e1 := hbx.len_
      have e2 := hbx2.len_
      go_roundw
      case rel => exact ⟨j + 1, A1, c1, by omega, hbx2, own2, hbr2, hbc2, B2⟩
      case measure => rw [e1, e2]; omega
    · obtain rfl : j = 8 - rows.length := by omega
      have hl8 : rows.length + (8 - rows.length) = 8 := by omega
      rw [hl8] at hown hbx q1
      change OwnL _ _ _ _ _ _ (pad8 rows) at hown
      have hpl : (pad8 rows).length = 8 := pad8_len h8
      obtain ⟨r, hre⟩ : ∃ r : Nat, r = (rows.getD y 0).toNat := ⟨_, rfl⟩
      have hgr := getD_in Hrows.out y
      have hr256 : r < 256 := by omega
      have hpy : (pad8 rows)[y]'(by omega) = (r : Int) := by
        have := pad8_getD rows y
        rw [List.getD_eq_getElem?_getD, List.getElem?_eq_getElem (by omega), Option.getD_some] at this
        rw [this]; omega
      obtain ⟨g, rfl, hBg, hgl⟩ := hown.split (k := y) (by omega)
      have s1 := hown.slot lenInt Nat.one_pos (k := y) (by omega) 0 (.int .i64 r) (by rw [hpy]; rfl)
      have s2 := hown.free y
      rw [Nat.mul_one, Nat.add_zero] at s1
      have z0 := hbc.cell 0
      have z1 := hbc.cell 1
      have hgo : g ≠ bo := fun e => (hown.apart hbx (by decide)) (by rw [e]; rfl)
      have c1 := hbr.c1
      have c2 := hbr.frozen 0
      have hzr := hbr.lt
      have hyI : (y : Int) < 8 := by omega
      rw [← hre]
      have hx2 : (2 : Int) ^ x = ((2 ^ x : Nat) : Int) := by simp
      have hp2 : 2 ^ x < 256 := Nat.lt_of_lt_of_le (Nat.pow_lt_pow_right (by decide) hx8) (by decide)
      have e1 : bits .or .i64 (r : Int) (IntKind.i64.wrap (2 ^ x)) = ((r ||| 2 ^ x : Nat) : Int) := by
        rw [hx2]; generalize 2 ^ x = q at hp2 ⊢
        rw [IntWalk.i64_in _ (by omega)]; exact i64_or_nat r q (by omega) (by omega)
      have hle : 2 ^ x ≤ r ||| 2 ^ x := Nat.right_le_or
      have hor : r ||| 2 ^ x < 256 := (specRow_lt r hr256 x hx8).1
      have e2 : IntKind.i64.wrap (((r ||| 2 ^ x : Nat) : Int) - IntKind.i64.wrap (2 ^ x)) = (((r ||| 2 ^ x) - 2 ^ x : Nat) : Int) := by
        rw [hx2]; generalize r ||| 2 ^ x = m at hle hor ⊢; generalize 2 ^ x = q at hp2 hle ⊢
        rw [IntWalk.i64_in (q : Int) (by omega), IntWalk.i64_in _ (by omega)]; omega
      have E2 := Lib.hid e2; clear e2
      have Hre := Lib.hid hre; have Hpl := Lib.hid hpl; clear hre hpy hpl hx2 hl8 hgr
      simp only [List.getElem?_toArray, List.getElem?_cons_zero, List.getElem?_cons_succ] at z0 z1
      have hyg : y < (pad8 rows).length := by rw [Hpl.out]; exact hy8
      have hbx4 := hbx.far (p := ⟨g, y, none⟩) (fun e => hgo e.symm) (.int .i64 ((r ||| 2 ^ x : Nat) : Int))
      have hbr4 := hbr.far (p := ⟨g, y, none⟩) (by simp; omega) (.int .i64 ((r ||| 2 ^ x : Nat) : Int))
      have hbc4 := hbc.far (p := ⟨g, y, none⟩) (by simp; omega) (.int .i64 ((r ||| 2 ^ x : Nat) : Int))
      have own4 := hown.store1 lenInt (y := ((r ||| 2 ^ x : Nat) : Int)) hyg rfl
      have B4 := hbel.st ⟨g, y, none⟩ (.int .i64 ((r ||| 2 ^ x : Nat) : Int)) (by simp; omega)
      have HT : Hid (specRow (rows.getD y 0).toNat x true = r ||| 2 ^ x) := Lib.hid (by rw [← Hre.out]; rfl)
      have HF : Hid (specRow (rows.getD y 0).toNat x false = (r ||| 2 ^ x) - 2 ^ x) := Lib.hid (by rw [← Hre.out]; rfl)
      cases on
      · go_wp2_with fail
        go_still_tail 15, (by kernel_rfl)
        change wpList _ _ _ _ _ wr.drew
        clear e1
        go_wp2_with fail
        obtain ⟨W4, hW4⟩ : ∃ W4 : World, W4 = (wr.setCell ⟨g, y, none⟩ (.int .i64 ((r ||| 2 ^ x : Nat) : Int))).drew := ⟨_, rfl⟩
        rw [← hW4]
        have hbx5 : Blk W4 bo 26 #[.slice (some ⟨g, 0, none⟩) 8 c'] := by rw [hW4]; exact hbx4
        have hbr5 : Blk W4 (w.heap.size + 1 + 1) 26 #[.slice none 0 0] := by rw [hW4]; exact hbr4
        have hbc5 : Blk W4 (w.heap.size + 1) 63 #[.int .i64 x, .int .i64 y] := by rw [hW4]; exact hbc4
        have own5 : OwnL 3 1 eInt (w.heap.size + 3) W4 (.slice (some ⟨g, 0, none⟩) 8 c') ((pad8 rows).set y ((r ||| 2 ^ x : Nat) : Int)) := by
          rw [hW4]; exact own4.drewN 1
        have B5 : Below w.heap.size w W4 := by rw [hW4]; exact B4.drew
        clear hbx hbr hbc hown hbel hbx4 hbr4 hbc4 own4 B4 s1 s2 q1 q2 hz z0 z1 c1 c2 hzr hW4
        have q1 := hbx5.c1
        have q2 := hbx5.frozen 0
        have hz := hbx5.lt
        have c1 := hbr5.c1
        have c2 := hbr5.frozen 0
        have hzr := hbr5.lt
        have z0 := hbc5.cell 0
        have z1 := hbc5.cell 1
        simp only [List.getElem?_toArray, List.getElem?_cons_zero, List.getElem?_cons_succ] at z0 z1
        have hyg2 : y < ((pad8 rows).set y ((r ||| 2 ^ x : Nat) : Int)).length := by rw [List.length_set]; exact hyg
        have s1 := own5.slot lenInt Nat.one_pos (k := y) hyg2 0 (.int .i64 ((r ||| 2 ^ x : Nat) : Int)) (by rw [List.getElem_set_self]; rfl)
        have s2 := own5.free y
        rw [Nat.mul_one, Nat.add_zero] at s1
        have own6 := own5.store1 lenInt (y := (((r ||| 2 ^ x) - 2 ^ x : Nat) : Int)) hyg2 rfl
        rw [List.set_set] at own6
        have hbr6 := hbr5.far (p := ⟨g, y, none⟩) (by simp; omega) (.int .i64 (((r ||| 2 ^ x) - 2 ^ x : Nat) : Int))
        have hbx6 := hbx5.far (p := ⟨g, y, none⟩) (fun e => hgo e.symm) (.int .i64 (((r ||| 2 ^ x) - 2 ^ x : Nat) : Int))
        have B6 := B5.st ⟨g, y, none⟩ (.int .i64 (((r ||| 2 ^ x) - 2 ^ x : Nat) : Int)) (by simp; omega)
        have q5 := (hbr6.set1 (.slice (some ⟨g, 0, none⟩) 8 c')).c1
        have q6 := hbx6.c1
        have e2 := E2.out
        have hps : ((pad8 rows).set y (specRow (rows.getD y 0).toNat x false : Nat)).length = 8 := by rw [List.length_set]; exact Hpl.out
        have Hps := Lib.hid hps; clear hps hyg2
        go_still_tail 15, (by kernel_rfl)
        change wpList _ _ _ _ _ W4.drew
        go_wp2
        refine bodyPost_ret (v := .tuple #[.agg #[.slice (some ⟨g, 0, none⟩) 8 c'], .bool true]) (by simp [results, Try.results90, go_sem, q5]) rfl ⟨some ⟨g, 0, none⟩, c', by rw [Hps.out], ?_, (B6.drew.st ⟨w.heap.size + 1 + 1, 0, none⟩ _ (by simp; omega))⟩
        rw [Hps.out, HF.out]
        exact ((own6.low (p := ⟨w.heap.size + 1 + 1, 0, none⟩) (by simp) _).mono (by omega)).drewN 1
      · have q5 := (hbr4.set1 (.slice (some ⟨g, 0, none⟩) 8 c')).c1
        have q6 := hbx4.c1
        have hps : ((pad8 rows).set y (specRow (rows.getD y 0).toNat x true : Nat)).length = 8 := by rw [List.length_set]; exact Hpl.out
        have Hps := Lib.hid hps; clear hps
        go_wp2_with fail
        go_still_tail 15, (by kernel_rfl)
        change wpList _ _ _ _ _ wr.drew
        go_wp2
        refine bodyPost_ret (v := .tuple #[.agg #[.slice (some ⟨g, 0, none⟩) 8 c'], .bool true]) (by simp [results, Try.results90, go_sem, q5]) rfl ⟨some ⟨g, 0, none⟩, c', by rw [Hps.out], ?_, (B4.drew.st ⟨w.heap.size + 1 + 1, 0, none⟩ _ (by simp; omega))⟩
        rw [Hps.out, HT.out]
        exact ((own4.low (p := ⟨w.heap.size + 1 + 1, 0, none⟩) (by simp) _).mono (by omega)).drewN 1
end Go.Proofs.Ytmmeomjclfgljaa
namespace Go.Proofs.Ytmmeomjclfgljaa
open Go.ChangeShapes Go.WideShapes Go.ChangeAt Go.RowKit
set_option linter.unusedVariables false

theorem withCellS_any (v : Value) (rows : List Int) (x y : Int) (on : Bool) (w : World) (h : Rd 1 RInt w v rows) (hl : Small rows.length) :
    Calls Try.prog 90 #[.agg #[v], .agg #[.int .i64 x, .int .i64 y], .bool on] w (RetRegB (withCell rows (x, y) on).1 (withCell rows (x, y) on).2 w) := by
  by_cases hb : (regionOk rows && cellOk (x, y)) = true
  · have hb' := hb
    rw [Bool.and_eq_true] at hb'
    have hc := cellOk_iff.1 hb'.2
    simp only at hc
    obtain ⟨a, rfl⟩ := Int.eq_ofNat_of_zero_le hc.1.1
    obtain ⟨b, rfl⟩ := Int.eq_ofNat_of_zero_le hc.2.1
    have ha : a < 8 := by omega
    have hbb : b < 8 := by omega
    have e := withCellS_yes v rows a b on w h hl hb'.1 ha hbb
    rw [withRows (regionOk_iff.1 hb'.1) ha hbb on] at e
    have hi : (cellIx ((a : Int), (b : Int))).toNat = 8 * b + a := by rw [(cellIx_in hb'.2).1]; simp only; omega
    have hw : withCell rows ((a : Int), (b : Int)) on = (rowsOf (withSet (setOf rows) (8 * b + a) on) 8, true) := by unfold withCell; rw [if_pos hb, hi]
    rw [hw]; exact e
  · have hw : withCell rows (x, y) on = (rows, false) := by unfold withCell; rw [if_neg hb]
    rw [hw]; exact withCellS_no v rows x y on w h hl (by simpa using hb)
theorem withCell_len {rows : List Int} (h : rows.length ≤ 1048576) (c : Cl) (on : Bool) : (withCell rows c on).1.length ≤ 1048576 := by
  unfold withCell; split
  · show (rowsOf _ 8).length ≤ _; rw [rowsOf_len]; decide
  · exact h

theorem toRegion_any (v : Value) (l : List Int) (w : World) (h : Rd 1 RInt w v l) (hl : Small l.length) : Calls Try.prog 10 #[.agg #[v]] w (RetReg l w) := by
  obtain ⟨A, c, rfl, hc, hm⟩ := h.form
  have hA := (((Below.refl w.heap.size w).al (.cells #[.slice A l.length c] 24)).al (.cells #[.slice none 0 0] 26)).al (.cells #[.slice none 0 0] 26)
  have h' := h.below RE.stays hA
  have hx := Blk.new2 (((w.alloc (.cells #[.slice A l.length c] 24)).alloc (.cells #[.slice none 0 0] 26))) 26 #[.slice none 0 0] (w.heap.size + 1 + 1) (by simp)
  have hr := (Blk.new2 (w.alloc (.cells #[.slice A l.length c] 24)) 26 #[.slice none 0 0] (w.heap.size + 1) (by simp)).alloc (.cells #[.slice none 0 0] 26)
  go_enter Try.func10, Try.ntmps10
  go_wp2_with fail
  refine (toInts_any _ l _ h' hl).mono ?_
  rintro e w1 ⟨A1, c1, rfl, own1, hb1⟩
  obtain ⟨hc1, hf1, hz1⟩ := bk hb1
  (try simp at hz1)
  have hy1_0 : w.heap.size < w1.heap.size := by omega
  have hy1_1 : w.heap.size + 1 < w1.heap.size := by omega
  have hy1_2 : w.heap.size + 1 + 1 < w1.heap.size := by omega
  have hx1 := (hx.bl hb1).set1 (.slice A1 l.length c1)
  have hr1 := ((hr.bl hb1).far (p := ⟨w.heap.size + 1 + 1, 0, none⟩) (by simp) (.slice A1 l.length c1)).set1 (.slice A1 l.length c1)
  have q5 := hx1.c1
  have q6 := hr1.c1
  have q7 := ((hr.bl hb1).far (p := ⟨w.heap.size + 1 + 1, 0, none⟩) (by simp) (.slice A1 l.length c1)).frozen 0
  go_wp2
  refine bodyPost_ret (v := .agg #[.slice A1 l.length c1]) (by simp [results, Try.results10, go_sem, q6]) rfl ⟨A1, c1, rfl, (((own1.low (by simp) _).low (by simp) _).mono hA.size), ?_⟩
  exact ((hA.tr hb1).st _ _ (by simp; omega)).st _ _ (by simp)

theorem szRegion_any (v : Value) (l : List Int) (left : Int) (w : World) (h : Rd 1 RInt w v l) (h0 : 0 ≤ left) (h1 : left ≤ 1048576) : Calls Try.prog 8 #[.agg #[v], .int .i64 left] w (Ret (.int .i64 (szOf left l.length)) w) := by
  obtain ⟨A, c, rfl, hc, hm⟩ := h.form
  have h' := h.below RE.stays ((Below.refl _ _).al (.cells #[.slice A l.length c] 24))
  by_cases hn : (l.length : Int) ≤ left
  · have hn2 : ¬ (left - (l.length : Int) < 0) := by omega
    rw [szOf_ok hn]
    have Hs := Lib.hid (szOf_ok hn)
    go_enter Try.func8, Try.ntmps8
    go_wp2_with fail
    refine (szInts_any _ l _ _ h' h0 h1).mono ?_
    rintro e w1 ⟨rfl, rfl⟩
    rw [Hs.out]
    go_wp2
    go_ret
    exact ⟨rfl, (Below.refl _ _).al _⟩
  · rw [szOf_no hn]
    have Hs := Lib.hid (szOf_no hn)
    go_enter Try.func8, Try.ntmps8
    go_wp2_with fail
    refine (szInts_any _ l _ _ h' h0 h1).mono ?_
    rintro e w1 ⟨rfl, rfl⟩
    rw [Hs.out]
    go_wp2
    go_ret
    exact ⟨rfl, (Below.refl _ _).al _⟩

theorem eqRegion_any (u v : Value) (l m : List Int) (w : World) (h : Rd 1 RInt w u l) (h' : Rd 1 RInt w v m) : Calls Try.prog 13 #[.agg #[u], .agg #[v]] w (Ret (.bool (l == m)) w) := by
  obtain ⟨A, c, rfl, hc, hm⟩ := h.form
  obtain ⟨A', c', rfl, hc', hm'⟩ := h'.form
  have hA := ((Below.refl w.heap.size w).al (.cells #[.slice A l.length c] 26)).al (.cells #[.slice A' m.length c'] 26)
  have g := h.below RE.stays hA
  have g' := h'.below RE.stays hA
  obtain ⟨r, hr⟩ : ∃ r, r = (l == m) := ⟨_, rfl⟩
  rw [← hr]
  have Hr := Lib.hid hr; clear hr
  go_enter Try.func13, Try.ntmps13
  go_wp2_with fail
  refine (eqInts_any _ _ l m _ g g').mono ?_
  rintro e w1 ⟨rfl, hb1⟩
  obtain ⟨hc1, hf1, hz1⟩ := bk hb1
  (try simp at hz1)
  have hy1_0 : w.heap.size < w1.heap.size := by omega
  have hy1_1 : w.heap.size + 1 < w1.heap.size := by omega
  rw [← Hr.out]
  cases r
  · go_wp2
    go_ret
    exact ⟨rfl, hA.tr hb1⟩
  · go_wp2
    go_ret
    exact ⟨rfl, hA.tr hb1⟩

theorem markRegion_any (v : Value) (l : List Int) (k : Int) (B : Nat) (w : World) (h : OwnL 3 1 eInt B w v l) (h0 : 0 ≤ k) (h1 : k ≤ 67108864) (hl : l.length ≤ 1048576) :
    Calls Try.prog 14 #[.agg #[v], .int .i64 k] w (Marked (.int .i64 (k + l.length)) v (fun w' => OwnL 3 1 eInt B w' v (marksInt k l.length)) w) := by
  obtain ⟨A, c, rfl, hc, hm⟩ := h.form
  have h' := h.alloc (.cells #[.slice A l.length c] 26)
  go_enter Try.func14, Try.ntmps14
  go_wp2_with fail
  refine (markInts_any _ l k B _ h' h0 h1 hl).mono ?_
  rintro e w1 ⟨rfl, own1, hg1⟩
  go_wp2
  go_ret
  exact ⟨rfl, own1, ⟨hg1.os, hg1.tape, hg1.output, Nat.le_trans (by simp) hg1.size, fun j hj hne => (hg1.block j (by simp; omega) hne).trans (Below.heap_alloc w _ j hj)⟩⟩

theorem heldRegion_any (v : Value) (k : Int) (n : Nat) (w : World) (h : Rd 1 RInt w v (marksInt k n)) (h0 : 0 ≤ k) (h1 : k ≤ 67108864) (hl : n ≤ 1048576) :
    Calls Try.prog 110 #[.agg #[v], .int .i64 k] w (Ret (.int .i64 (k + n)) w) := by
  obtain ⟨A, c, rfl, hc, hm⟩ := h.form
  have h' := h.below RE.stays ((Below.refl _ _).al (.cells #[.slice A (marksInt k n).length c] 26))
  have hn2 : ¬ (k + (n : Int) < 0) := by omega
  go_enter Try.func110, Try.ntmps110
  go_wp2_with fail
  refine (heldInts_any _ k n _ h' h0 h1 hl).mono ?_
  rintro e w1 ⟨rfl, rfl⟩
  go_wp2
  go_ret
  exact ⟨rfl, (Below.refl _ _).al _⟩
end Go.Proofs.Ytmmeomjclfgljaa
namespace Go.Proofs.Ytmmeomjclfgljaa
open Go.ChangeShapes Go.WideShapes Go.ChangeAt Go.RowKit
set_option linter.unusedVariables false

theorem i64_and255 (n : Int) : bits .and .i64 n 255 = n % 256 := by
  have h127 : (BitVec.ofInt 64 255).toNat = 2 ^ 8 - 1 := by decide
  have key : (BitVec.ofInt 64 n &&& BitVec.ofInt 64 255).toNat = (n % ((2 ^ 64 : Nat) : Int)).toNat % 2 ^ 8 := by
    rw [BitVec.toNat_and, BitVec.toNat_ofInt, h127, Nat.and_two_pow_sub_one_eq_mod]
  show IntKind.i64.wrap ((BitVec.ofInt 64 n &&& BitVec.ofInt 64 255).toNat : Nat) = n % 256
  rw [key, IntKind.wrap_i64]
  omega
theorem i64_and30 (n : Int) : bits .and .i64 n 1073741823 = n % 1073741824 := by
  have h127 : (BitVec.ofInt 64 1073741823).toNat = 2 ^ 30 - 1 := by decide
  have key : (BitVec.ofInt 64 n &&& BitVec.ofInt 64 1073741823).toNat = (n % ((2 ^ 64 : Nat) : Int)).toNat % 2 ^ 30 := by
    rw [BitVec.toNat_and, BitVec.toNat_ofInt, h127, Nat.and_two_pow_sub_one_eq_mod]
  show IntKind.i64.wrap ((BitVec.ofInt 64 n &&& BitVec.ofInt 64 1073741823).toNat : Nat) = n % 1073741824
  rw [key, IntKind.wrap_i64]
  omega

theorem Blk.st {w : World} {g : Nat} {t : TypeId} {cs : Array Value} (h : Blk w g t cs) (i : Nat) (u : Value) (ds : Array Value) (e : cs.setIfInBounds i u = ds) : Blk (w.setCell ⟨g, i, none⟩ u) g t ds := e ▸ h.set_ i u
theorem own_nil (w : World) {E : TypeId} {α : Type} {size : Nat} {enc : α → List Value} {B : Nat} : OwnL E size enc B w (.slice none 0 0) ([] : List α) := ⟨by simp, .inl ⟨rfl, rfl⟩⟩
theorem own_mt (w : World) {E : TypeId} {α : Type} {size : Nat} {enc : α → List Value} (g : Nat) (hg : g = w.heap.size) (B : Nat) (hB : B ≤ w.heap.size) : OwnL E size enc B (w.alloc (.cells #[] E)) (.slice (some ⟨g, 0, none⟩) 0 0) ([] : List α) := by
  subst hg
  have := World.ownsRow_lit (e := E) (size := size) w #[] 0 (Nat.le_refl _) (by simp [maxLen]) (by simp)
  exact OwnL.mono (B' := B) this hB
/-- A cursor in block g over the bytes v. -/
def Cur (w : World) (g : Nat) (v : Value) (n : Nat) : Prop := ∃ (i : Nat) (h : Int), i ≤ n ∧ Blk w g 132 #[v, .int .i64 i, .int .i64 h]
/-- What a draw leaves: a number of which P holds, and a cursor that has gone on. -/
def Drawn (W : World) (g : Nat) (v : Value) (n : Nat) (P : Int → Prop) (w : World) (e : Ending) (w' : World) : Prop := ∃ x, e = .returned (.int .i64 x) ∧ P x ∧ Cur w' g v n ∧ Below W.heap.size W w' ∧ w.grownBy w' (some g)
def NewCur (v : Value) (n : Nat) (w : World) (e : Ending) (w' : World) : Prop := ∃ g, e = .returned (.pointer (some ⟨g, 0, none⟩)) ∧ w.heap.size ≤ g ∧ Cur w' g v n ∧ Below w.heap.size w w'
def InByte (x : Int) : Prop := 0 ≤ x ∧ x ≤ 255
def InBelow (n x : Int) : Prop := (n ≤ 0 ∧ x = 0) ∨ (0 ≤ x ∧ x < n)
def IsByte (x : Int) : Prop := 0 ≤ x ∧ x ≤ 255

set_option maxRecDepth 100000 in
theorem new_any (v : Value) (l : List Int) (w : World) (h : Rd 1 RByte w v l) (ok : AllOk (fun x => 0 ≤ x ∧ x ≤ 255) l) (hl : l.length ≤ 1048576) :
    Calls Try.prog 67 #[v] w (NewCur v l.length w) := by
  obtain ⟨A, c, rfl, hc, hm⟩ := h.form
  have Hok := Lib.hid ok; clear ok
  go_enter Try.func67, Try.ntmps67
  go_wp2
  go_loop [3, 4] (fun q i => ∃ (k : Nat) (x : Int), k ≤ l.length ∧ i = .int .i64 k ∧ q = .int .i64 x ∧ 0 ≤ x ∧ x ≤ 1073741823) (fun _ i => l.length - (intOf i).toNat)
  case atStart => exact ⟨0, _, Nat.zero_le _, rfl, rfl, by omega, by omega⟩
  case round =>
    obtain ⟨k, x, hk, rfl, rfl, hx1, hx2⟩ := hrel
    by_cases hlt : k < l.length
    · by_cases h4 : k < 4000
      · have h4I : (k : Int) < 4000 := by omega
        obtain ⟨b, off, rfl, hb, h1⟩ := h.atByte hlt
        have hbyte := Hok.out l[k] (List.getElem_mem hlt)
        have hy1 := hbyte.1
        have hy2 := hbyte.2
        clear hbyte
        obtain ⟨y, hy⟩ : ∃ y, y = l[k] := ⟨_, rfl⟩
        rw [← hy] at h1 hy1 hy2
        have Hy := Lib.hid hy; clear hy
        have e1 := i64_and30 (x * 131 + y + 7)
        go_wp2
        go_round
        case rel => exact ⟨k + 1, (x * 131 + y + 7) % 1073741824, by omega, by go_num, rfl, by omega, by omega⟩
        case measure => simp [intOf]; omega
      · have h4I : ¬ (k : Int) < 4000 := by omega
        go_wp2
        go_ret
        exact ⟨w.heap.size, rfl, Nat.le_refl _, ⟨0, x, Nat.zero_le _, Blk.new_ _ _ _⟩, (Below.refl _ _).al _⟩
    · go_wp2
      go_ret
      exact ⟨w.heap.size, rfl, Nat.le_refl _, ⟨0, x, Nat.zero_le _, Blk.new_ _ _ _⟩, (Below.refl _ _).al _⟩

theorem gr_drewN {w w' : World} {r : Option Nat} (h : w.grownBy w' r) (n : Nat) : w.grownBy (w'.drewN n) r :=
  ⟨h.os, h.tape, h.output, h.size, h.block⟩
set_option maxRecDepth 100000 in
theorem byte_any (W : World) (g : Nat) (v : Value) (l : List Int) (w : World) (h : Rd 1 RByte W v l) (Hok : Hid (AllOk (fun x => 0 ≤ x ∧ x ≤ 255) l)) (hg : W.heap.size ≤ g) (hbel : Below W.heap.size W w) (hcur : Cur w g v l.length) :
    Calls Try.prog 140 #[.pointer (some ⟨g, 0, none⟩)] w (Drawn W g v l.length IsByte w) := by
  obtain ⟨A, c, rfl, hc, hm⟩ := h.form
  obtain ⟨i, hh, hi, hblk⟩ := hcur
  have q0 := hblk.cell 0
  have q1 := hblk.cell 1
  have q2 := hblk.cell 2
  have qf := hblk.frozen
  simp only [List.getElem?_toArray, List.getElem?_cons_zero, List.getElem?_cons_succ] at q0 q1 q2
  go_enter Try.func140, Try.ntmps140
  go_wp2_with fail
  obtain ⟨H, hH⟩ : ∃ H, H = wrap64 (wrap64 (hh * 6364136223846793005) + 1442695040888963407) := ⟨_, rfl⟩
  rw [← hH]
  obtain ⟨W1, hW1⟩ : ∃ W1, W1 = w.setCell ⟨g, 2, none⟩ (.int .i64 H) := ⟨_, rfl⟩
  rw [← hW1]
  have blk1 : Blk W1 g 132 #[.slice A l.length c, .int .i64 i, .int .i64 H] := by rw [hW1]; exact hblk.set_ 2 _
  have gr1 : w.grownBy W1 (some g) := by rw [hW1]; exact gr_set (World.grownBy.refl _ _) _ _
  have B1 : Below W.heap.size W W1 := by rw [hW1]; exact hbel.st _ _ hg
  clear hH hW1 q0 q1 q2 qf hblk
  have q0 := blk1.cell 0
  have q1 := blk1.cell 1
  have q2 := blk1.cell 2
  have qf := blk1.frozen
  simp only [List.getElem?_toArray, List.getElem?_cons_zero, List.getElem?_cons_succ] at q0 q1 q2
  go_quiet (fail)
  go_wp2_with fail
  rw [i64_and255]
  obtain ⟨x, hx⟩ : ∃ x, x = bits .xor .i64 (H / 8589934592) (H / 35184372088832) % 256 := ⟨_, rfl⟩
  have hx0 : 0 ≤ x := by omega
  have hx1 : x ≤ 255 := by omega
  rw [← hx]
  clear hx
  by_cases hlt : i < l.length
  · have hltI : (i : Int) < l.length := by omega
    obtain ⟨b, off, rfl, hb, h1⟩ := (h.below RE.stays B1).atByte hlt
    have hbyte := Hok.out l[i] (List.getElem_mem hlt)
    have hy1 := hbyte.1
    have hy2 := hbyte.2
    clear hbyte
    obtain ⟨y, hy⟩ : ∃ y, y = l[i] := ⟨_, rfl⟩
    rw [← hy] at h1 hy1 hy2
    have Hy := Lib.hid hy; clear hy
    have e1 : IntKind.i64.wrap (x + y) = x + y := IntWalk.i64_in _ (by omega)
    have e2 := i64_and255 (x + y)
    go_quiet (fail)
    go_wp2_with fail
    go_quiet (fail)
    clear e1 e2
    go_wp2
    go_ret
    exact ⟨(x + y) % 256, rfl, ⟨by omega, by omega⟩, ⟨i + 1, H, hlt, (blk1.drewN _).st 1 _ _ (by simp)⟩, ((below_drewN B1 _).st _ _ hg), gr_set (gr_drewN gr1 _) _ _⟩
  · have hltI : ¬ (i : Int) < l.length := by omega
    go_quiet (fail)
    go_wp2
    go_ret
    exact ⟨x, rfl, ⟨hx0, hx1⟩, ⟨i, H, hi, blk1.drewN _⟩, below_drewN B1 _, gr_drewN gr1 _⟩

theorem Drawn.split {W : World} {g : Nat} {v : Value} {n : Nat} {P : Int → Prop} {w : World} {e : Ending} {w' : World} (h : Drawn W g v n P w e w') : ∃ x, e = .returned (.int .i64 x) ∧ P x ∧ Cur w' g v n ∧ Below W.heap.size W w' ∧ w.grownBy w' (some g) := h
theorem gr_trans {w w1 w2 : World} {r : Option Nat} (h : w.grownBy w1 r) (k : w1.grownBy w2 r) : w.grownBy w2 r :=
  ⟨k.os.trans h.os, k.tape.trans h.tape, k.output.trans h.output, Nat.le_trans h.size k.size, fun b hb hne => (k.block b (Nat.lt_of_lt_of_le hb h.size) hne).trans (h.block b hb hne)⟩
set_option maxRecDepth 100000 in
theorem below_any (n : Int) (W : World) (g : Nat) (v : Value) (l : List Int) (w : World) (h : Rd 1 RByte W v l) (Hok : Hid (AllOk (fun x => 0 ≤ x ∧ x ≤ 255) l)) (hg : W.heap.size ≤ g) (hbel : Below W.heap.size W w) (hcur : Cur w g v l.length) (hn : n ≤ 9223372036854775807) :
    Calls Try.prog 116 #[.pointer (some ⟨g, 0, none⟩), .int .i64 n] w (Drawn W g v l.length (InBelow n) w) := by
  have hcw := hcur
  obtain ⟨i, hh, hi, hblk⟩ := hcur
  by_cases h0 : n ≤ 0
  · go_enter Try.func116, Try.ntmps116
    go_wp2
    go_ret
    exact ⟨0, rfl, .inl ⟨h0, rfl⟩, hcw, hbel, World.grownBy.refl _ _⟩
  · by_cases h2 : n ≤ 256
    · go_enter Try.func116, Try.ntmps116
      go_wp2_with fail
      refine (byte_any W g v l _ h Hok hg hbel hcw).mono ?_
      rintro e w1 ⟨x, rfl, ⟨hx0, hx1⟩, hcur1, hb1, hg1⟩
      go_wp2
      go_ret
      exact ⟨x % n, rfl, .inr ⟨Int.emod_nonneg _ (by omega), Int.emod_lt_of_pos _ (by omega)⟩, hcur1, hb1, hg1⟩
    · go_enter Try.func116, Try.ntmps116
      go_wp2_with fail
      refine (byte_any W g v l _ h Hok hg hbel hcw).mono ?_
      rintro e w1 ⟨x, rfl, ⟨hx0, hx1⟩, hcur1, hb1, hg1⟩
      go_wp2_with fail
      refine (byte_any W g v l _ h Hok hg hb1 hcur1).mono ?_
      rintro e w2 ⟨y, rfl, ⟨hy0, hy1⟩, hcur2, hb2, hg2⟩
      go_wp2_with fail
      refine (byte_any W g v l _ h Hok hg hb2 hcur2).mono ?_
      rintro e w3 ⟨z, rfl, ⟨hz0, hz1⟩, hcur3, hb3, hg3⟩
      go_wp2_with fail
      refine (byte_any W g v l _ h Hok hg hb3 hcur3).mono ?_
      rintro e w4 ⟨t, rfl, ⟨ht0, ht1⟩, hcur4, hb4, hg4⟩
      go_wp2
      go_ret
      exact ⟨(x * 16777216 + y * 65536 + z * 256 + t) % n, rfl, .inr ⟨Int.emod_nonneg _ (by omega), Int.emod_lt_of_pos _ (by omega)⟩, hcur4, hb4, gr_trans (gr_trans (gr_trans hg1 hg2) hg3) hg4⟩
end Go.Proofs.Ytmmeomjclfgljaa
namespace Go.Proofs.Ytmmeomjclfgljaa
open Go.ChangeShapes Go.WideShapes Go.ChangeAt Go.RowKit
set_option linter.unusedVariables false

section
variable {α : Type} {E : TypeId} {size : Nat} {enc : α → List Value} {B : Nat} {w w' : World} {v : Value} {l : List α} {g : Nat} {u : Value} {n : Nat}
theorem OwnL.cur (h : OwnL E size enc B w v l) (hc : Cur w g u n) (hne : E ≠ 132) (hg : w.grownBy w' (some g)) : OwnL E size enc B w' v l := by
  obtain ⟨i, x, _, hb⟩ := hc
  exact World.ownsRow.kept h hg (.inr (h.apart hb hne))
theorem Cur.app {row : Option Nat} (hc : Cur w g u n) (o : Obj) (hg : (w.alloc o).grownBy w' row) (hne : row ≠ some g) : Cur w' g u n := by
  obtain ⟨i, x, hi, hb⟩ := hc
  exact ⟨i, x, hi, (hb.alloc o).grown hg (fun e => hne e.symm)⟩
theorem Cur.apart (h : OwnL E size enc B w v l) (hc : Cur w g u n) (hne : E ≠ 132) : v.ownBlock ≠ some g := by
  obtain ⟨i, x, _, hb⟩ := hc
  exact h.apart hb hne
theorem Cur.bl (hc : Cur w g u n) (hb : Below w.heap.size w w') : Cur w' g u n := by
  obtain ⟨i, x, hi, hk⟩ := hc
  exact ⟨i, x, hi, hk.below hb hk.lt⟩
theorem Cur.alloc (hc : Cur w g u n) (o : Obj) : Cur (w.alloc o) g u n := by
  obtain ⟨i, x, hi, hk⟩ := hc
  exact ⟨i, x, hi, hk.alloc o⟩
theorem Cur.drewN (hc : Cur w g u n) (k : Nat) : Cur (w.drewN k) g u n := by
  obtain ⟨i, x, hi, hk⟩ := hc
  exact ⟨i, x, hi, hk.drewN k⟩
end
/-- Boxes as the reference draws them. -/
def SmallBox (x : Int × Int) : Prop := 1 ≤ x.1 ∧ x.1 ≤ 12 ∧ x.1 + 1 ≤ x.2 ∧ x.2 ≤ x.1 + 9
theorem SmallBox.fine {x : Int × Int} (h : SmallBox x) : BoxFine x := by unfold SmallBox at h; unfold BoxFine; omega
end Go.Proofs.Ytmmeomjclfgljaa
namespace Go.Proofs.Ytmmeomjclfgljaa
open Go.ChangeShapes Go.WideShapes Go.ChangeAt Go.RowKit
set_option linter.unusedVariables false

def rectRows (w h : Nat) : List Int := List.replicate h ((2 : Int) ^ w - 1)
theorem rectRows_succ (w k : Nat) : rectRows w (k + 1) = rectRows w k ++ [(2 : Int) ^ w - 1] := by unfold rectRows; rw [List.replicate_succ']
theorem pow_in {w : Nat} (hw : w ≤ 8) : 1 ≤ (2 : Int) ^ w ∧ (2 : Int) ^ w ≤ 256 := by
  have h1 : 2 ^ w ≤ 2 ^ 8 := Nat.pow_le_pow_right (by decide) hw
  have h2 := Nat.pow_pos (n := w) (show 0 < 2 by decide)
  have e : (2 : Int) ^ w = ((2 ^ w : Nat) : Int) := by simp
  rw [e]; omega

set_option maxRecDepth 100000 in
theorem rectI_yes (a b : Nat) (w : World) (ha : 1 ≤ a ∧ a ≤ 8) (hb : 1 ≤ b ∧ b ≤ 8) : Calls Try.prog 61 #[.int .i64 a, .int .i64 b] w (RetReg (rectRows a b) w) := by
  have h1 : inB (a : Int) 1 8 = true := by simp [inB]; omega
  have h2 : inB (b : Int) 1 8 = true := by simp [inB]; omega
  have hp := pow_in ha.2
  obtain ⟨P, hP⟩ : ∃ P, P = (2 : Int) ^ a := ⟨_, rfl⟩
  rw [← hP] at hp
  have e1 : IntKind.i64.wrap ((2 : Int) ^ a) = P := by rw [← hP]; exact IntWalk.i64_in _ (by omega)
  have e2 : IntKind.i64.wrap (P - 1) = P - 1 := IntWalk.i64_in _ (by omega)
  have H1 := Lib.hid h1; have H2 := Lib.hid h2; have HP := Lib.hid hP; have E1 := Lib.hid e1; have E2 := Lib.hid e2; clear h1 h2 hP e1 e2
  go_enter Try.func61, Try.ntmps61
  go_wp2_with fail
  refine (within_any _ _ _ _).mono ?_
  rintro e w1 ⟨rfl, rfl⟩
  rw [H1.out]
  go_wp2_with fail
  refine (within_any _ _ _ _).mono ?_
  rintro e w1 ⟨rfl, rfl⟩
  rw [H2.out]
  go_wp2
  go_loopw [17] (fun i wr => ∃ (k : Nat) (A : Option Addr) (c : Nat), k ≤ b ∧ i = .int .i64 k ∧ Blk wr (w.heap.size + 1) 26 #[.slice A k c] ∧ Blk wr w.heap.size 26 #[.slice none 0 0] ∧ OwnL 3 1 eInt (w.heap.size + 1 + 1) wr (.slice A k c) (rectRows a k) ∧ Below w.heap.size w wr) (fun i _ => b - (intOf i).toNat)
  case atStart =>
    refine ⟨0, none, 0, Nat.zero_le _, rfl, ?_, ?_, ?_, ((Below.refl _ _).al _).al _⟩
    · have := Blk.new_ (w.alloc (.cells #[.slice none 0 0] 26)) 26 #[.slice none 0 0]
      simpa using this
    · exact (Blk.new_ w 26 #[.slice none 0 0]).alloc _
    · exact own_nil _
  case round =>
    obtain ⟨k, A, c, hk, rfl, hbx, hbr, hown, hbel⟩ := hrel
    have q1 := hbx.c1
    have q2 := hbx.frozen 0
    have hz := hbx.lt
    by_cases hlt : k < b
    · have hne := hown.apart hbx (by decide)
      have hlen : (rectRows a k).length = k := by simp [rectRows]
      have HB : Hid (w.heap.size + 1 + 1 ≤ wr.drew.heap.size) := Lib.hid (show w.heap.size + 1 + 1 ≤ wr.heap.size by omega)
      have H8 : Hid (((rectRows a k).length + 1) * 8 ≤ 140737488355328) := Lib.hid (by rw [hlen]; omega)
      have HM : Hid ((rectRows a k).length + 1 ≤ maxLen) := Lib.hid (by rw [hlen]; unfold maxLen; omega)
      have Hlen := Lib.hid hlen; clear hlen
      have e1 := E1.out
      have e2 := E2.out
      go_wp2_with fail
      go_region_law (go_must (refine step_appB (enc := eInt) rowInt lenInt oneInt (B := w.heap.size + 1 + 1) wr.drew HB.out hown (P - 1) rfl H8.out HM.out rfl _ _ rfl rfl rfl ?_); intro v1 w1 own1 hg1 hv1; rw [Hlen.out] at hv1; obtain ⟨A1, c1, rfl⟩ := hv1; have hbx1 := Blk.grown (w := wr.drew) hbx hg1 (fun e => hne e.symm); have q3 := hbx1.c1; have q4 := hbx1.frozen 0; have hz1 := hbx1.lt)
      all_goals
        have hbr1 := Blk.grown (w := wr.drew) hbr hg1 (fun e => (hown.apart hbr (by decide)) e.symm)
        have B1 := Below.app hbel.drew (w := wr.drew) hown (by omega) hg1
        have own2 : OwnL 3 1 eInt (w.heap.size + 1 + 1) w1 (.slice A1 (k + 1) c1) (rectRows a (k + 1)) := by rw [rectRows_succ, ← HP.out]; exact own1
        have own3 := own2.far (a := ⟨w.heap.size + 1, 0, none⟩) (own2.apart hbx1 (by decide)) (.slice A1 (k + 1) c1)
        have hbx2 := hbx1.set_ 0 (.slice A1 (k + 1) c1)
        have hbr2 := hbr1.far (p := ⟨w.heap.size + 1, 0, none⟩) (by simp) (.slice A1 (k + 1) c1)
        have B2 := B1.st ⟨w.heap.size + 1, 0, none⟩ (.slice A1 (k + 1) c1) (by simp)
        clear own1 own2 hbx hbx1 hbr hbr1 q1 q2 q3 q4 B1 hg1 hown e1 e2
        go_wp2
        go_roundw
        case rel => exact ⟨k + 1, A1, c1, by omega, by go_num, hbx2, hbr2, own3, B2⟩
        case measure => simp [intOf]; omega
    · have q3 := hbr.c1
      have q4 := hbr.frozen 0
      have hz2 := hbr.lt
      obtain rfl : k = b := by omega
      have hbr5 : Blk (wr.setCell ⟨w.heap.size, 0, none⟩ (.slice A k c)) w.heap.size 26 #[.slice A k c] := hbr.set_ 0 _
      have q5 := hbr5.c1
      have hlen : (rectRows a k).length = k := by simp [rectRows]
      go_wp2
      refine bodyPost_ret (v := .agg #[.slice A k c]) (by simp [results, Try.results61, go_sem, q5]) rfl ⟨A, c, by rw [hlen], ?_, ?_⟩
      · rw [hlen]
        exact (hown.low (p := ⟨w.heap.size, 0, none⟩) (by simp; omega) _).mono (by omega)
      · exact hbel.st _ _ (Nat.le_refl _)
set_option maxRecDepth 100000 in
theorem rectS_yes (a b : Nat) (w : World) (ha : 1 ≤ a ∧ a ≤ 8) (hb : 1 ≤ b ∧ b ≤ 8) : Calls Try.prog 60 #[.int .i64 a, .int .i64 b] w (RetReg (rectRows a b) w) := by
  have h1 : inB (a : Int) 1 8 = true := by simp [inB]; omega
  have h2 : inB (b : Int) 1 8 = true := by simp [inB]; omega
  have hp := pow_in ha.2
  obtain ⟨P, hP⟩ : ∃ P, P = (2 : Int) ^ a := ⟨_, rfl⟩
  rw [← hP] at hp
  have e1 : IntKind.i64.wrap ((2 : Int) ^ a) = P := by rw [← hP]; exact IntWalk.i64_in _ (by omega)
  have e2 : IntKind.i64.wrap (P - 1) = P - 1 := IntWalk.i64_in _ (by omega)
  have H1 := Lib.hid h1; have H2 := Lib.hid h2; have HP := Lib.hid hP; have E1 := Lib.hid e1; have E2 := Lib.hid e2; clear h1 h2 hP e1 e2
  go_enter Try.func60, Try.ntmps60
  go_wp2
  go_loopw [6] (fun i wr => ∃ (k : Nat) (A : Option Addr) (c : Nat), k ≤ b ∧ i = .int .i64 k ∧ Blk wr (w.heap.size + 1) 26 #[.slice A k c] ∧ Blk wr w.heap.size 26 #[.slice none 0 0] ∧ OwnL 3 1 eInt (w.heap.size + 1 + 1) wr (.slice A k c) (rectRows a k) ∧ Below w.heap.size w wr) (fun i _ => b - (intOf i).toNat)
  case atStart =>
    refine ⟨0, none, 0, Nat.zero_le _, rfl, ?_, ?_, ?_, ?_⟩
    · have := Blk.new_ (w.alloc (.cells #[.slice none 0 0] 26)) 26 #[.slice none 0 0]
      simpa using this
    · exact (Blk.new_ w 26 #[.slice none 0 0]).alloc _
    · exact own_nil _
    · exact ((Below.refl _ _).al _).al _
  case round =>
    obtain ⟨k, A, c, hk, rfl, hbx, hbr, hown, hbel⟩ := hrel
    have q1 := hbx.c1
    have q2 := hbx.frozen 0
    have hz := hbx.lt
    by_cases hlt : k < b
    · have hne := hown.apart hbx (by decide)
      have hlen : (rectRows a k).length = k := by simp [rectRows]
      have HB : Hid (w.heap.size + 1 + 1 ≤ wr.drew.heap.size) := Lib.hid (show w.heap.size + 1 + 1 ≤ wr.heap.size by omega)
      have H8 : Hid (((rectRows a k).length + 1) * 8 ≤ 140737488355328) := Lib.hid (by rw [hlen]; omega)
      have HM : Hid ((rectRows a k).length + 1 ≤ maxLen) := Lib.hid (by rw [hlen]; unfold maxLen; omega)
      have Hlen := Lib.hid hlen; clear hlen
      go_wp2_with fail
      refine (in_any _ _ _ _).mono ?_
      rintro e w5 ⟨rfl, rfl⟩
      rw [H1.out]
      go_wp2_with fail
      refine (in_any _ _ _ _).mono ?_
      rintro e w5 ⟨rfl, rfl⟩
      rw [H2.out]
      have e1 := E1.out
      have e2 := E2.out
      go_wp2_with fail
      go_region_law (go_must (refine step_appB (enc := eInt) rowInt lenInt oneInt (B := w.heap.size + 1 + 1) wr.drew HB.out hown (P - 1) rfl H8.out HM.out rfl _ _ rfl rfl rfl ?_); intro v1 w1 own1 hg1 hv1; rw [Hlen.out] at hv1; obtain ⟨A1, c1, rfl⟩ := hv1; have hbx1 := Blk.grown (w := wr.drew) hbx hg1 (fun e => hne e.symm); have q3 := hbx1.c1; have q4 := hbx1.frozen 0; have hz1 := hbx1.lt)
      all_goals
        have hbr1 := Blk.grown (w := wr.drew) hbr hg1 (fun e => (hown.apart hbr (by decide)) e.symm)
        have B1 := Below.app hbel.drew (w := wr.drew) hown (by omega) hg1
        have own2 : OwnL 3 1 eInt (w.heap.size + 1 + 1) w1 (.slice A1 (k + 1) c1) (rectRows a (k + 1)) := by rw [rectRows_succ, ← HP.out]; exact own1
        have own3 := own2.far (a := ⟨w.heap.size + 1, 0, none⟩) (own2.apart hbx1 (by decide)) (.slice A1 (k + 1) c1)
        have hbx2 := hbx1.set_ 0 (.slice A1 (k + 1) c1)
        have hbr2 := hbr1.far (p := ⟨w.heap.size + 1, 0, none⟩) (by simp) (.slice A1 (k + 1) c1)
        have B2 := B1.st ⟨w.heap.size + 1, 0, none⟩ (.slice A1 (k + 1) c1) (by simp)
        clear own1 own2 hbx hbx1 hbr hbr1 q1 q2 q3 q4 B1 hg1 hown e1 e2
        go_wp2
        go_roundw
        case rel => exact ⟨k + 1, A1, c1, by omega, by go_num, hbx2, hbr2, own3, B2⟩
        case measure => simp [intOf]; omega
    · have q3 := hbr.c1
      have q4 := hbr.frozen 0
      have hz2 := hbr.lt
      obtain rfl : k = b := by omega
      have hbr5 : Blk (wr.setCell ⟨w.heap.size, 0, none⟩ (.slice A k c)) w.heap.size 26 #[.slice A k c] := hbr.set_ 0 _
      have q5 := hbr5.c1
      have hlen : (rectRows a k).length = k := by simp [rectRows]
      go_wp2
      refine bodyPost_ret (v := .agg #[.slice A k c]) (by simp [results, Try.results60, go_sem, q5]) rfl ⟨A, c, by rw [hlen], ?_, ?_⟩
      · rw [hlen]
        exact (hown.low (p := ⟨w.heap.size, 0, none⟩) (by simp; omega) _).mono (by omega)
      · exact hbel.st _ _ (Nat.le_refl _)
theorem cellAtS_yes (i : Nat) (w : World) (hi : i < 64) : Calls Try.prog 81 #[.int .i64 i] w (Ret (.tuple #[.agg #[.int .i64 ((i : Int) % 8), .int .i64 ((i : Int) / 8)], .bool true]) w) := by
  have h1 : inB (i : Int) 0 63 = true := by simp [inB]; omega
  go_enter Try.func81, Try.ntmps81
  go_wp2_with fail
  refine (in_any _ _ _ _).mono ?_
  rintro e w5 ⟨rfl, rfl⟩
  rw [h1]
  go_wp2
  refine bodyPost_ret (v := .tuple #[.agg #[.int .i64 ((i : Int) % 8), .int .i64 ((i : Int) / 8)], .bool true]) (by simp [results, Try.results81, go_sem]) rfl ⟨rfl, ?_⟩
  exact ((Below.refl _ _).al _)
end Go.Proofs.Ytmmeomjclfgljaa
namespace Go.Proofs.Ytmmeomjclfgljaa
open Go.ChangeShapes Go.WideShapes Go.ChangeAt Go.RowKit
set_option linter.unusedVariables false

theorem i64_and1 (n : Int) : bits .and .i64 n 1 = n % 2 := by
  have h127 : (BitVec.ofInt 64 1).toNat = 2 ^ 1 - 1 := by decide
  have key : (BitVec.ofInt 64 n &&& BitVec.ofInt 64 1).toNat = (n % ((2 ^ 64 : Nat) : Int)).toNat % 2 ^ 1 := by
    rw [BitVec.toNat_and, BitVec.toNat_ofInt, h127, Nat.and_two_pow_sub_one_eq_mod]
  show IntKind.i64.wrap ((BitVec.ofInt 64 n &&& BitVec.ofInt 64 1).toNat : Nat) = n % 2
  rw [key, IntKind.wrap_i64]
  omega
section
variable {w w' : World} {g : Nat} {u : Value} {n : Nat} {br : Nat} {t : TypeId} {cs : Array Value}
theorem Cur.ne (hc : Cur w g u n) (hb : Blk w br t cs) (ht : t ≠ 132) : br ≠ g := by
  rintro rfl
  obtain ⟨i, x, _, hk⟩ := hc
  unfold Blk at hb hk
  rw [hb] at hk
  injection hk with hk
  injection hk with _ hk
  exact ht hk
theorem Blk.cur (hb : Blk w br t cs) (hc : Cur w g u n) (ht : t ≠ 132) (hg : w.grownBy w' (some g)) : Blk w' br t cs :=
  hb.grown hg fun e => hc.ne hb ht (by injection e)
theorem Cur.far (hc : Cur w g u n) {p : Addr} (hp : g ≠ p.block) (x : Value) : Cur (w.setCell p x) g u n := by
  obtain ⟨i, y, hi, hk⟩ := hc
  exact ⟨i, y, hi, hk.far hp x⟩
end
def SomeRegion (W : World) (g : Nat) (u : Value) (n : Nat) (e : Ending) (w' : World) : Prop := ∃ (rows : List Int) (A : Option Addr) (c : Nat), e = .returned (.agg #[.slice A rows.length c]) ∧ OwnL 3 1 eInt W.heap.size w' (.slice A rows.length c) rows ∧ 1 ≤ rows.length ∧ rows.length ≤ 5 ∧ (∀ r ∈ rows, 0 ≤ r ∧ r ≤ 255) ∧ Cur w' g u n ∧ Below W.heap.size W w'

theorem bit_ge {r P : Int} (h : (r / P) % 2 = 1) (h0 : 0 ≤ r) (hP : 1 ≤ P) : P ≤ r := by
  rcases Int.lt_or_le r P with hlt | hge
  · rw [Int.ediv_eq_zero_of_lt h0 hlt] at h; omega
  · exact hge
theorem or_three {r : Int} {a : Nat} (h0 : 0 ≤ r) (h1 : r ≤ 255) (ha : a < 6) : ∃ V : Int, bits .or .i64 r (IntKind.i64.wrap (3 * (2 : Int) ^ a)) = V ∧ 0 ≤ V ∧ V ≤ 255 := by
  obtain ⟨n, rfl⟩ := Int.eq_ofNat_of_zero_le h0
  have h2 : 2 ^ a ≤ 2 ^ 5 := Nat.pow_le_pow_right (by decide) (by omega)
  obtain ⟨m, hm⟩ : ∃ m : Nat, m = 3 * 2 ^ a := ⟨_, rfl⟩
  have e : (3 : Int) * 2 ^ a = (m : Int) := by rw [hm]; simp
  have hm2 : m ≤ 96 := by omega
  clear hm
  rw [e, IntWalk.i64_in _ (by omega), i64_or_nat n m (by omega) (by omega)]
  have := Nat.or_lt_two_pow (n := 8) (show n < 2 ^ 8 by omega) (show m < 2 ^ 8 by omega)
  exact ⟨_, rfl, by omega, by omega⟩
/-- What a draw of a yes or no leaves. -/
def DrawnB (W : World) (g : Nat) (v : Value) (n : Nat) (w : World) (e : Ending) (w' : World) : Prop := ∃ b, e = .returned (.bool b) ∧ Cur w' g v n ∧ Below W.heap.size W w' ∧ w.grownBy w' (some g)
theorem once_any (n : Int) (W : World) (g : Nat) (v : Value) (l : List Int) (w : World) (h : Rd 1 RByte W v l) (Hok : Hid (AllOk (fun x => 0 ≤ x ∧ x ≤ 255) l)) (hg : W.heap.size ≤ g) (hbel : Below W.heap.size W w) (hcur : Cur w g v l.length) (hn : n ≤ 9223372036854775807) :
    Calls Try.prog 139 #[.pointer (some ⟨g, 0, none⟩), .int .i64 n] w (DrawnB W g v l.length w) := by
  go_enter Try.func139, Try.ntmps139
  go_wp2_with fail
  refine (below_any n W g v l _ h Hok hg hbel hcur hn).mono ?_
  rintro e w1 ⟨x, rfl, hx, hcur1, hb1, hg1⟩
  go_wp2
  go_ret
  exact ⟨x == 0, rfl, hcur1, hb1, hg1⟩

set_option maxHeartbeats 4000000 in
set_option maxRecDepth 100000 in
theorem regionDraw_any (W : World) (g : Nat) (v : Value) (l : List Int) (w : World) (h : Rd 1 RByte W v l) (Hok : Hid (AllOk (fun x => 0 ≤ x ∧ x ≤ 255) l)) (hg : W.heap.size ≤ g) (hbel : Below W.heap.size W w) (hcur : Cur w g v l.length) :
    Calls Try.prog 115 #[.pointer (some ⟨g, 0, none⟩)] w (SomeRegion W g v l.length) := by
  have hx0 := Blk.new_ w 26 #[.slice none 0 0]
  have hW := hbel.size
  go_enter Try.func115, Try.ntmps115
  go_wp2_with fail
  refine (below_any 6 W g v l _ h Hok hg (hbel.al _) (hcur.alloc _) (by decide)).mono ?_
  rintro e w1 ⟨a, rfl, ha, hcur1, hb1, hg1⟩
  have hx1 := hx0.cur (hcur.alloc _) (by decide) hg1
  have haa : 0 ≤ a ∧ a ≤ 5 := by unfold InBelow at ha; omega
  obtain ⟨a, rfl⟩ := Int.eq_ofNat_of_zero_le haa.1
  have ha5 : a ≤ 5 := by omega
  clear haa ha hx0
  go_wp2_with fail
  refine (below_any 5 W g v l _ h Hok hg hb1 hcur1 (by decide)).mono ?_
  rintro e w2 ⟨b, rfl, hb, hcur2, hb2, hg2⟩
  have hx2 := hx1.cur hcur1 (by decide) hg2
  have hbb : 0 ≤ b ∧ b ≤ 4 := by unfold InBelow at hb; omega
  obtain ⟨b, rfl⟩ := Int.eq_ofNat_of_zero_le hbb.1
  have hb5 : b ≤ 4 := by omega
  clear hbb hb hx1
  go_wp2_with fail
  rw [show (1 : Int) + a = ((1 + a : Nat) : Int) by simp, show (1 : Int) + b = ((1 + b : Nat) : Int) by simp]
  obtain ⟨a', ha'⟩ : ∃ a', a' = 1 + a := ⟨_, rfl⟩
  obtain ⟨b', hb'⟩ : ∃ b', b' = 1 + b := ⟨_, rfl⟩
  rw [← ha', ← hb']
  have ha1 : 1 ≤ a' := by omega
  have ha6 : a' ≤ 6 := by omega
  have hb1' : 1 ≤ b' := by omega
  have hb6 : b' ≤ 5 := by omega
  clear ha' hb' ha5 hb5
  refine (rectS_yes a' b' _ ⟨ha1, by omega⟩ ⟨hb1', by omega⟩).mono ?_
  rintro e w3 ⟨A3, c3, rfl, own3, hb3⟩
  have hrl : (rectRows a' b').length = b' := by simp [rectRows]
  rw [hrl] at own3 ⊢
  have hx3 := (hx2.below hb3 hx2.lt).alloc (.cells #[.slice A3 b' c3] 26)
  have hy3 := Blk.new_ w3 26 #[.slice A3 b' c3]
  have cur3 := (hcur2.bl hb3).alloc (.cells #[.slice A3 b' c3] 26)
  have B3 := (hb2.tr hb3).al (.cells #[.slice A3 b' c3] 26)
  have own4 := (own3.mono hb2.size).alloc (.cells #[.slice A3 b' c3] 26)
  have hrows : ∀ r ∈ rectRows a' b', 0 ≤ r ∧ r ≤ 255 := fun r hr => by
    have := pow_in (w := a') (by omega)
    unfold rectRows at hr
    rw [(List.mem_replicate.1 hr).2]; omega
  have hlt0 : w.heap.size < w3.heap.size := by have := hx2.lt; have := hb3.size; omega
  clear own3 hcur1 hcur2 hx2 hb1 hb2 hg1 hg2 hb3
  go_wp2_with fail
  refine (below_any 5 W g v l _ h Hok hg B3 cur3 (by decide)).mono ?_
  rintro e w4 ⟨k0, rfl, hk0, hcur4, hb4, hg4⟩
  have hx4 := hx3.cur cur3 (by decide) hg4
  have hy4 := hy3.cur cur3 (by decide) hg4
  have own5 := own4.cur cur3 (by decide) hg4
  have hk00 : 0 ≤ k0 ∧ k0 ≤ 4 := by unfold InBelow at hk0; omega
  obtain ⟨k0, rfl⟩ := Int.eq_ofNat_of_zero_le hk00.1
  have hk04 : k0 ≤ 4 := by omega
  obtain ⟨br, hbr⟩ : ∃ br, br = w3.heap.size := ⟨_, rfl⟩
  rw [← hbr] at hy4 hlt0
  clear hk00 hk0 hx3 hy3 cur3 own4 B3
  go_wp2
  rw [← hbr]
  have Hbr := Lib.hid hbr; have Hrl := Lib.hid hrl; have Hrows := Lib.hid hrows; clear hbr hrl hrows hg4
  go_loopw [6] (fun s6 wr => ∃ (k : Nat) (rows : List Int), k ≤ 4 ∧ s6 = .int .i64 k ∧ Hid (rows.length = b') ∧ Hid (∀ r ∈ rows, 0 ≤ r ∧ r ≤ 255) ∧ OwnL 3 1 eInt W.heap.size wr (.slice A3 b' c3) rows ∧ Blk wr br 26 #[.slice A3 b' c3] ∧ Blk wr w.heap.size 26 #[.slice none 0 0] ∧ Cur wr g v l.length ∧ Below W.heap.size W wr) (fun i _ => (intOf i).toNat)
  case atStart => exact ⟨k0, _, hk04, rfl, Hrl, Hrows, own5, hy4, hx4, hcur4, hb4⟩
  case round =>
    obtain ⟨k, rows, hk, rfl, Hl, Hr, hown, hy, hx, hc, hbe⟩ := hrel
    clear own5 hy4 hx4 hcur4 hb4
    by_cases hk1 : 0 < k
    · go_wp2_with fail
      refine (below_any b' W g v l _ h Hok hg hbe hc (by omega)).mono ?_
      rintro e w5 ⟨y, rfl, hyy, hcur5, hb5, hg5⟩
      have hyyy : 0 ≤ y ∧ y < b' := by unfold InBelow at hyy; omega
      obtain ⟨y, rfl⟩ := Int.eq_ofNat_of_zero_le hyyy.1
      have hyb : y < b' := by omega
      clear hyyy hyy
      have own1 := hown.cur hc (by decide) hg5
      have hy1 := hy.cur hc (by decide) hg5
      have hx1 := hx.cur hc (by decide) hg5
      go_wp2_with fail
      refine (below_any a' W g v l _ h Hok hg hb5 hcur5 (by omega)).mono ?_
      rintro e w6 ⟨x, rfl, hxx, hcur6, hb6', hg6⟩
      have hxxx : 0 ≤ x ∧ x < a' := by unfold InBelow at hxx; omega
      obtain ⟨x, rfl⟩ := Int.eq_ofNat_of_zero_le hxxx.1
      have hxa : x < a' := by omega
      clear hxxx hxx
      have own2 := own1.cur hcur5 (by decide) hg6
      have hy2 := hy1.cur hcur5 (by decide) hg6
      have hx2 := hx1.cur hcur5 (by decide) hg6
      have hyl : y < rows.length := by rw [Hl.out]; exact hyb
      obtain ⟨r, hr⟩ : ∃ r, r = rows[y] := ⟨_, rfl⟩
      have hrb := Hr.out rows[y] (List.getElem_mem hyl)
      rw [← hr] at hrb
      obtain ⟨hr0, hr1⟩ := hrb
      obtain ⟨g5, rfl, hBg, hgl⟩ := own2.split hyl
      have s1 := own2.slot lenInt Nat.one_pos hyl 0 (.int .i64 r) (by rw [hr]; rfl)
      have s2 := own2.free y
      rw [Nat.mul_one, Nat.add_zero] at s1
      have q1 := hy2.c1
      have q2 := hy2.lt
      have hyI : (y : Int) < b' := by omega
      have hp := pow_in (w := x) (by omega)
      have hge := bit_ge (r := r) (P := 2 ^ x) (h0 := hr0) (hP := hp.1)
      have e0 := i64_and1 (r / 2 ^ x)
      have Hrr := Lib.hid hr; clear hr hown hy hx hc hg5 hg6 own1 hy1 hx1 hcur5 hb5 hbe
      by_cases ht : (r / 2 ^ x) % 2 = 1
      · have hge2 := hge ht
        have t1 : ((r / 2 ^ x) % 2 == 1) = true := by simpa using ht
        obtain ⟨P, hP⟩ : ∃ P, P = (2 : Int) ^ x := ⟨_, rfl⟩
        rw [← hP] at hp hge2
        have e1 : IntKind.i64.wrap ((2 : Int) ^ x) = P := by rw [← hP]; exact IntWalk.i64_in _ (by omega)
        have e2 : IntKind.i64.wrap (r - P) = r - P := IntWalk.i64_in _ (by omega)
        have HP := Lib.hid hP; clear ht hge hP
        have hgo : g5 ≠ br := fun e => (own2.apart hy2 (by decide)) (by rw [e]; rfl)
        have hgx : g5 ≠ w.heap.size := fun e => (own2.apart hx2 (by decide)) (by rw [e]; rfl)
        have hgc : g5 ≠ g := fun e => (hcur6.apart own2 (by decide)) (by rw [e]; rfl)
        have own3 := (own2.store1 lenInt (y := r - P) hyl rfl).drewN 1
        have hy3 := (hy2.far (p := ⟨g5, y, none⟩) (fun e => hgo e.symm) (.int .i64 (r - P))).drewN 1
        have hx3 := (hx2.far (p := ⟨g5, y, none⟩) (fun e => hgx e.symm) (.int .i64 (r - P))).drewN 1
        have cur7 := (hcur6.far (p := ⟨g5, y, none⟩) (fun e => hgc e.symm) (.int .i64 (r - P))).drewN 1
        have B7 := below_drewN (hb6'.st ⟨g5, y, none⟩ (.int .i64 (r - P)) hBg) 1
        have HL : Hid ((rows.set y (r - P)).length = b') := Lib.hid (by rw [List.length_set]; exact Hl.out)
        have HR : Hid (∀ z ∈ rows.set y (r - P), 0 ≤ z ∧ z ≤ 255) := Lib.hid fun z hz => by
          rcases List.mem_or_eq_of_mem_set hz with hz | rfl
          · exact Hr.out z hz
          · omega
        go_wp2_with fail
        go_still_tail 12, (by kernel_rfl)
        change wpList _ _ _ _ _ (World.drew _)
        clear e0 e1 e2
        go_wp2
        go_roundw
        case rel => exact ⟨k - 1, _, by omega, by go_num, HL, HR, own3, hy3, hx3, cur7, B7⟩
        case measure => simp [intOf]; omega
      · have t1 : ((r / 2 ^ x) % 2 == 1) = false := by simpa using ht
        clear hge ht
        go_wp2
        go_roundw
        case rel => exact ⟨k - 1, rows, by omega, by go_num, Hl, Hr, own2, hy2, hx2, hcur6, hb6'⟩
        case measure => simp [intOf]; omega
    · obtain rfl : k = 0 := by omega
      by_cases ha : a' < 6
      · have haI : (a' : Int) < 6 := by omega
        go_wp2_with fail
        refine (once_any 3 W g v l _ h Hok hg hbe hc (by decide)).mono ?_
        rintro e w5 ⟨yes, rfl, hcur5, hb5, hg5⟩
        have own1 := hown.cur hc (by decide) hg5
        have hy1 := hy.cur hc (by decide) hg5
        have hx1 := hx.cur hc (by decide) hg5
        rcases yes with _ | _
        · skip
          have z1 := hy1.c1
          have z2 := hy1.lt
          have z3 := hx1.frozen 0
          have z4 := hx1.lt
          have z6 := hx1.c1
          have z5 := (hx1.set_ 0 (.slice A3 b' c3)).cell 0
          simp at z5
          go_wp2
          refine bodyPost_ret (v := .agg #[.slice A3 b' c3]) (by simp [results, Try.results115, go_sem, z5]) rfl ⟨rows, A3, c3, by rw [Hl.out], ?_, by rw [Hl.out]; exact hb1', by rw [Hl.out]; exact hb6, Hr.out, hcur5.far (fun e => hcur5.ne hx1 (by decide) e.symm) _, hb5.st _ _ hW⟩
          rw [Hl.out]
          exact own1.far (fun e => own1.apart hx1 (by decide) e) _
        · go_wp2_with fail
          refine (below_any b' W g v l _ h Hok hg hb5 hcur5 (by omega)).mono ?_
          rintro e w6 ⟨y, rfl, hyy, hcur6, hb6', hg6⟩
          have hyyy : 0 ≤ y ∧ y < b' := by unfold InBelow at hyy; omega
          obtain ⟨y, rfl⟩ := Int.eq_ofNat_of_zero_le hyyy.1
          have hyb : y < b' := by omega
          clear hyyy hyy
          have own2 := own1.cur hcur5 (by decide) hg6
          have hy2 := hy1.cur hcur5 (by decide) hg6
          have hx2 := hx1.cur hcur5 (by decide) hg6
          have hyl : y < rows.length := by rw [Hl.out]; exact hyb
          obtain ⟨r, hr⟩ : ∃ r, r = rows[y] := ⟨_, rfl⟩
          have hrb := Hr.out rows[y] (List.getElem_mem hyl)
          rw [← hr] at hrb
          obtain ⟨hr0, hr1⟩ := hrb
          obtain ⟨V, e1, hV0, hV1⟩ := or_three hr0 hr1 ha
          obtain ⟨g5, rfl, hBg, hgl⟩ := own2.split hyl
          have s1 := own2.slot lenInt Nat.one_pos hyl 0 (.int .i64 r) (by rw [hr]; rfl)
          have s2 := own2.free y
          rw [Nat.mul_one, Nat.add_zero] at s1
          have q1 := hy2.c1
          have q2 := hy2.lt
          have hyI : (y : Int) < b' := by omega
          have Hrr := Lib.hid hr; clear hr hown hy hx hc hg5 hg6 own1 hy1 hx1 hcur5 hb5 hbe
          have hgo : g5 ≠ br := fun e => (own2.apart hy2 (by decide)) (by rw [e]; rfl)
          have hgx : g5 ≠ w.heap.size := fun e => (own2.apart hx2 (by decide)) (by rw [e]; rfl)
          have hgc : g5 ≠ g := fun e => (hcur6.apart own2 (by decide)) (by rw [e]; rfl)
          have own3 := own2.store1 lenInt (y := V) hyl rfl
          have hx3 := hx2.far (p := ⟨g5, y, none⟩) (fun e => hgx e.symm) (.int .i64 V)
          have cur7 := hcur6.far (p := ⟨g5, y, none⟩) (fun e => hgc e.symm) (.int .i64 V)
          have B7 := hb6'.st ⟨g5, y, none⟩ (.int .i64 V) hBg
          have HL : Hid ((rows.set y V).length = b') := Lib.hid (by rw [List.length_set]; exact Hl.out)
          have HR : Hid (∀ z ∈ rows.set y V, 0 ≤ z ∧ z ≤ 255) := Lib.hid fun z hz => by
            rcases List.mem_or_eq_of_mem_set hz with hz | rfl
            · exact Hr.out z hz
            · exact ⟨hV0, hV1⟩
          have hgo' := hgo.symm
          have hgx' := hgx.symm
          have z3 := hx2.frozen 0
          have z4 := hx2.lt
          have z6 := hx2.c1
          have z5 := (hx3.set_ 0 (.slice (some ⟨g5, 0, none⟩) b' c3)).cell 0
          simp at z5
          go_wp2_with fail
          go_still_tail 12, (by kernel_rfl)
          change wpList _ _ _ _ _ (World.drew _)
          clear e1
          go_wp2
          refine bodyPost_ret (v := .agg #[.slice (some ⟨g5, 0, none⟩) b' c3]) (by simp [results, Try.results115, go_sem, z5]) rfl ⟨rows.set y V, some ⟨g5, 0, none⟩, c3, by rw [HL.out], ?_, by rw [HL.out]; exact hb1', by rw [HL.out]; exact hb6, HR.out, (cur7.far (fun e => cur7.ne hx3 (by decide) e.symm) _).drewN 1, below_drewN (B7.st _ _ hW) 1⟩
          rw [HL.out]
          exact (own3.far (fun e => own3.apart hx3 (by decide) e) _).drewN 1
      · have haI : ¬ (a' : Int) < 6 := by omega
        have z1 := hy.c1
        have z2 := hy.lt
        have z3 := hx.frozen 0
        have z4 := hx.lt
        have z6 := hx.c1
        have z5 := (hx.set_ 0 (.slice A3 b' c3)).cell 0
        simp at z5
        go_wp2
        refine bodyPost_ret (v := .agg #[.slice A3 b' c3]) (by simp [results, Try.results115, go_sem, z5]) rfl ⟨rows, A3, c3, by rw [Hl.out], ?_, by rw [Hl.out]; exact hb1', by rw [Hl.out]; exact hb6, Hr.out, hc.far (fun e => hc.ne hx (by decide) e.symm) _, hbe.st _ _ hW⟩
        rw [Hl.out]
        exact hown.far (fun e => hown.apart hx (by decide) e) _

/-- A valid region of the call's own. -/
def DrawnRegion (w : World) (e : Ending) (w' : World) : Prop := ∃ rows : List Int, 1 ≤ rows.length ∧ rows.length ≤ 5 ∧ (∀ r ∈ rows, 0 ≤ r ∧ r ≤ 255) ∧ RetReg rows w e w'
end Go.Proofs.Ytmmeomjclfgljaa
namespace Go.Proofs.Ytmmeomjclfgljaa
open Go.ChangeShapes Go.WideShapes Go.ChangeAt Go.RowKit
set_option linter.unusedVariables false

def ixCell (i : Nat) : Cl := ((i : Int) % 8, (i : Int) / 8)
def cellsTo (s k : Nat) : List Cl := ((List.range k).filter fun i => s.testBit i).map ixCell
theorem cellsTo_succ (s k : Nat) : cellsTo s (k + 1) = cellsTo s k ++ if s.testBit k then [ixCell k] else [] := by
  unfold cellsTo
  rw [List.range_succ, List.filter_append, List.map_append]
  by_cases h : s.testBit k = true
  · rw [if_pos h]; simp [h]
  · rw [if_neg h]; simp [h]
theorem cellsTo_le (s k : Nat) : (cellsTo s k).length ≤ k := by
  unfold cellsTo; rw [List.length_map]; exact Nat.le_trans (List.length_filter_le _ _) (by simp)

theorem cellAtI_any (i : Nat) (w : World) (hi : i ≤ 64) : Calls Try.prog 118 #[.int .i64 i] w (Ret (aCell (ixCell i)) w) := by
  go_enter Try.func118, Try.ntmps118
  go_wp2
  refine bodyPost_ret (v := aCell (ixCell i)) (by simp [results, Try.results118, go_sem, ixCell]) rfl ⟨rfl, ?_⟩
  exact ((Below.refl _ _).al _)

/-- The cells of a region. -/
def regCells (rows : List Int) : List Cl := if regionOk rows then cellsTo (setOf rows) 64 else []
theorem regCells_le (rows : List Int) : (regCells rows).length ≤ 64 := by
  unfold regCells; split
  · exact cellsTo_le _ _
  · simp
def hasCell (rows : List Int) (c : Cl) : Bool := regionOk rows && (cellOk c && (setOf rows).testBit (cellIx c).toNat)
def sameCells (a b : List Int) : Bool := regionOk a && regionOk b && decide (setOf a = setOf b)
end Go.Proofs.Ytmmeomjclfgljaa
