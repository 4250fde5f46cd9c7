/- WithCell of the program. No conditions but sizes. WithCell of the reference: the plain law that its rows are those of the set, and the walks. No conditions but sizes. WithCell of the reference: the walk. No conditions but sizes. WithCell of the reference where the region and the cell are valid: the walk. The laws' copying, comparing, marking and holding of regions, and WithCell of both sides as one function. No conditions but sizes. The reference's drawing of numbers from bytes: l01New, l01Byte, l01Below. Conditions: the bytes read as a list; numbers are ints. The boxes that the reference draws: valid ones, one to four kinds. Conditions: the bytes read as a list. Rectangle of the program and of the reference, CellAt of the reference: the walks. Conditions: valid sizes. The regions that the reference draws: valid ones, of one to five rows. Conditions: the bytes read as a list. The cells of a set and of a region; HasCell, SameCells of the program: the walks. No conditions but sizes.. Conditions, where there are any, stand in the statements. -/
import Derived.Test.YtklgbjgjojelbaaGreatDoorK2
import Derived.Test.YtklgbjgjojelbaaGreatDoorK1
import Derived.IntWalk
import Derived.Laws.BitsLemmas
import Derived.Deep.RegionHeld3
namespace Go.Proofs.YtklgbjgjojelbaaGreatDoor
open Go.ChangeShapes Go.WideShapes Go.ChangeAt Go.RowKit
set_option linter.unusedVariables false

/-- The call returned a region of its own and a bool, and wrote nothing that was there. -/
def RetRegB (l : List Int) (b : Bool) (w : World) (e : Ending) (w' : World) : Prop := ∃ A c, e = .returned (.tuple #[.agg #[.slice A l.length c], .bool b]) ∧ OwnL 3 1 eInt w.heap.size w' (.slice A l.length c) l ∧ Below w.heap.size w w'
def withSet (s i : Nat) (on : Bool) : Nat := if on then sWith (sWithout s i) i else sWithout s i
def withCell (rows : List Int) (c : Cl) (on : Bool) : List Int × Bool := if regionOk rows && cellOk c then (rowsOf (withSet (setOf rows) (cellIx c).toNat on) 8, true) else (rows, false)

theorem Blk.bl {w w' : World} {g : Nat} {t : TypeId} {cs : Array Value} (h : Blk w g t cs) (hb : Below w.heap.size w w') : Blk w' g t cs := h.below hb h.lt
theorem Blk.set1 {w : World} {g : Nat} {t : TypeId} {v : Value} (h : Blk w g t #[v]) (u : Value) : Blk (w.setCell ⟨g, 0, none⟩ u) g t #[u] := h.set_ 0 u
theorem Blk.new2 (w : World) (t : TypeId) (cs : Array Value) (g : Nat) (hg : g = w.heap.size) : Blk (w.alloc (.cells cs t)) g t cs := by subst hg; exact Blk.new_ w t cs

end Go.Proofs.YtklgbjgjojelbaaGreatDoor
namespace Go.Proofs.YtklgbjgjojelbaaGreatDoor
open Go.ChangeShapes Go.WideShapes Go.ChangeAt Go.RowKit
set_option linter.unusedVariables false

/-- The row that the reference makes of a row. -/
def specRow (r x : Nat) (on : Bool) : Nat := if on then r ||| 2 ^ x else (r ||| 2 ^ x) - 2 ^ x
theorem specRow_bits : ∀ r < 256, ∀ x < 8, ∀ j < 8, (specRow r x true).testBit j = (r.testBit j || decide (x = j)) ∧ (specRow r x false).testBit j = (r.testBit j && !decide (x = j)) := by
  decide +kernel
theorem specRow_lt : ∀ r < 256, ∀ x < 8, specRow r x true < 256 ∧ specRow r x false < 256 := by
  decide +kernel
def pad8 (rows : List Int) : List Int := rows ++ List.replicate (8 - rows.length) 0
theorem pad8_len {rows : List Int} (h : rows.length ≤ 8) : (pad8 rows).length = 8 := by simp [pad8]; omega
theorem pad8_getD (rows : List Int) (i : Nat) : (pad8 rows).getD i 0 = rows.getD i 0 := by
  unfold pad8
  rw [List.getD_eq_getElem?_getD, List.getD_eq_getElem?_getD]
  by_cases h : i < rows.length
  · rw [List.getElem?_append_left h]
  · rw [List.getElem?_append_right (by omega), List.getElem?_eq_none (l := rows) (by omega), List.getElem?_replicate]
    split <;> rfl
theorem getD_in {rows : List Int} (h : RowsOk rows) (i : Nat) : 0 ≤ rows.getD i 0 ∧ rows.getD i 0 ≤ 255 := by
  rw [List.getD_eq_getElem?_getD]
  by_cases hi : i < rows.length
  · rw [List.getElem?_eq_getElem hi, Option.getD_some]; exact h.2 _ (List.getElem_mem hi)
  · rw [List.getElem?_eq_none (by omega)]; decide
theorem withSet_bit {s i : Nat} (hs : s < U64) (hi : i < 64) (on : Bool) (j : Nat) : (withSet s i on).testBit j = if on then (s.testBit j || decide (i = j)) else (s.testBit j && !decide (i = j)) := by
  unfold withSet
  cases on
  · simp only [Bool.false_eq_true, if_false]; exact testBit_sWithout hs hi j
  · simp only [if_true]; rw [testBit_sWith, testBit_sWithout hs hi]
    cases s.testBit j <;> cases hd : decide (i = j) <;> rfl
/-- The reference's rows are the rows of the set. -/
theorem withRows {rows : List Int} (h : RowsOk rows) {x y : Nat} (hx : x < 8) (hy : y < 8) (on : Bool) :
    (pad8 rows).set y (specRow (rows.getD y 0).toNat x on : Nat) = rowsOf (withSet (setOf rows) (8 * y + x) on) 8 := by
  have hi : 8 * y + x < 64 := by omega
  refine List.ext_getElem? fun k => ?_
  by_cases hk : k < 8
  · have hr := getD_in h k
    have hrow : (rowsOf (withSet (setOf rows) (8 * y + x) on) 8)[k]? = some ((((withSet (setOf rows) (8 * y + x) on) >>> (8 * k)) % 256 : Nat) : Int) := by
      have := rowsOf_at (withSet (setOf rows) (8 * y + x) on) 8 k hk
      rw [List.getD_eq_getElem?_getD, List.getElem?_eq_getElem (by rw [rowsOf_len]; exact hk), Option.getD_some] at this
      rw [List.getElem?_eq_getElem (by rw [rowsOf_len]; exact hk), this]
    rw [hrow]
    have hval : ∀ v : Nat, v < 256 → (∀ j, j < 8 → v.testBit j = (withSet (setOf rows) (8 * y + x) on).testBit (8 * k + j)) → some (v : Int) = some ((((withSet (setOf rows) (8 * y + x) on) >>> (8 * k)) % 256 : Nat) : Int) := by
      intro v hv hb
      have : v = ((withSet (setOf rows) (8 * y + x) on) >>> (8 * k)) % 256 := row_ext hv (Nat.mod_lt _ (by decide)) fun j hj => by rw [row_bit _ _ _ hj]; exact hb j hj
      rw [← this]
    have hset : ∀ j, j < 8 → (setOf rows).testBit (8 * k + j) = (rows.getD k 0).toNat.testBit j := by
      intro j hj
      rw [setOf_bit h, show (8 * k + j) / 8 = k by omega, show (8 * k + j) % 8 = j by omega]
    by_cases e : y = k
    · subst e
      rw [List.getElem?_set_self (by rw [pad8_len h.1]; exact hk)]
      have hr2 : (rows.getD y 0).toNat < 256 := by omega
      have hl := specRow_lt _ hr2 x hx
      have hl' : specRow (rows.getD y 0).toNat x on < 256 := by
        cases on
        · exact hl.2
        · exact hl.1
      refine hval _ hl' fun j hj => ?_
      rw [withSet_bit (setOf_lt h) hi, hset j hj]
      have hb := specRow_bits _ hr2 x hx j hj
      have hd : decide (8 * y + x = 8 * y + j) = decide (x = j) := by rw [decide_eq_decide]; omega
      rw [hd]
      cases on
      · simp only [Bool.false_eq_true, if_false]; exact hb.2
      · simp only [if_true]; exact hb.1
    · rw [List.getElem?_set_ne e]
      have hp := pad8_getD rows k
      rw [List.getD_eq_getElem?_getD, List.getElem?_eq_getElem (by rw [pad8_len h.1]; exact hk), Option.getD_some] at hp
      rw [List.getElem?_eq_getElem (by rw [pad8_len h.1]; exact hk), hp]
      have hnn : rows.getD k 0 = (((rows.getD k 0).toNat : Nat) : Int) := by omega
      rw [hnn]
      refine hval _ (by omega) fun j hj => ?_
      rw [withSet_bit (setOf_lt h) hi, hset j hj]
      have hd : decide (8 * y + x = 8 * k + j) = false := by rw [decide_eq_false_iff_not]; omega
      rw [hd]; cases on <;> simp
  · rw [List.getElem?_eq_none (by rw [List.length_set, pad8_len h.1]; omega), List.getElem?_eq_none (by rw [rowsOf_len]; omega)]

theorem ofInt_i64 (a : Nat) (ha : a < 18446744073709551616) : (BitVec.ofInt 64 (a : Int)).toNat = a := by
  rw [BitVec.ofInt_natCast, BitVec.toNat_ofNat]; exact Nat.mod_eq_of_lt (by omega)
theorem i64_or_nat (a b : Nat) (ha : a < 4294967296) (hb : b < 4294967296) : bits .or .i64 (a : Int) (b : Int) = ((a ||| b : Nat) : Int) := by
  have hx : a ||| b < 2 ^ 32 := Nat.or_lt_two_pow (by omega) (by omega)
  show IntKind.i64.wrap ((BitVec.ofInt 64 (a : Int) ||| BitVec.ofInt 64 (b : Int)).toNat : Int) = _
  rw [BitVec.toNat_or, ofInt_i64 a (by omega), ofInt_i64 b (by omega), IntKind.wrap_i64]
  omega
theorem i64_and_nat (a b : Nat) (ha : a < 4294967296) (hb : b < 4294967296) : bits .and .i64 (a : Int) (b : Int) = ((a &&& b : Nat) : Int) := by
  have hx : a &&& b < 2 ^ 32 := Nat.and_lt_two_pow _ (by omega)
  show IntKind.i64.wrap ((BitVec.ofInt 64 (a : Int) &&& BitVec.ofInt 64 (b : Int)).toNat : Int) = _
  rw [BitVec.toNat_and, ofInt_i64 a (by omega), ofInt_i64 b (by omega), IntKind.wrap_i64]
  omega

theorem regionOkS_any (v : Value) (rows : List Int) (w : World) (h : Rd 1 RInt w v rows) : Calls Tryz.prog 60 #[.agg #[v]] w (Ret (.bool (regionOk rows)) w) := by
  obtain ⟨A, c, rfl, hc, hm⟩ := h.form
  have h' := h.below RE.stays ((Below.refl _ _).al (.cells #[.slice A rows.length c] 34))
  have e0 : regionOk rows = (allIn 0 255 rows && decide ((rows.length : Int) ≤ 8)) := by
    unfold regionOk; rw [Bool.and_comm]; congr 1; rw [decide_eq_decide]; omega
  rw [e0]
  go_enter Tryz.func60, Tryz.ntmps60
  go_wp2
  go_loop [3] (fun i => ∃ k : Nat, k ≤ rows.length ∧ i = .int .i64 k ∧ Hid (allIn 0 255 (rows.drop k) = allIn 0 255 rows)) (fun i => rows.length - (intOf i).toNat)
  case atStart => exact ⟨0, Nat.zero_le _, rfl, Lib.hid rfl⟩
  case round =>
    obtain ⟨k, hk, rfl, Hg⟩ := hrel
    by_cases hlt : k < rows.length
    · obtain ⟨b, off, rfl, hb, h1⟩ := h'.atInt hlt
      go_wp2_with (go_at_call 28; (with_reducible refine (in_any _ _ _ _).mono ?_); rintro e w' ⟨rfl, rfl⟩)
      all_goals first
        | (go_round
           case rel => exact ⟨k + 1, by omega, by go_num, allIn_go Hg hlt (by rename_i hx; simpa using hx)⟩
           case measure => simp [intOf]; omega)
        | (go_ret
           exact ⟨retB (by rw [allIn_no Hg hlt (by rename_i hx; simpa using hx)]; rfl), (Below.refl _ _).al _⟩)
    · go_wp2
      go_ret
      exact ⟨retB (by rw [allIn_end Hg (by omega), Bool.true_and]), (Below.refl _ _).al _⟩

end Go.Proofs.YtklgbjgjojelbaaGreatDoor
namespace Go.Proofs.YtklgbjgjojelbaaGreatDoor
open Go.ChangeShapes Go.WideShapes Go.ChangeAt Go.RowKit
set_option linter.unusedVariables false

end Go.Proofs.YtklgbjgjojelbaaGreatDoor
namespace Go.Proofs.YtklgbjgjojelbaaGreatDoor
open Go.ChangeShapes Go.WideShapes Go.ChangeAt Go.RowKit
set_option linter.unusedVariables false

/-- The length of the slice in a box. -/
def cellLen (w : World) (b : Nat) : Nat := match w.cell? ⟨b, 0, none⟩ with | some (.slice _ n _) => n | _ => 0
theorem Blk.len_ {w : World} {g : Nat} {t : TypeId} {A : Option Addr} {n c : Nat} (h : Blk w g t #[.slice A n c]) : cellLen w g = n := by unfold cellLen; rw [h.c1]

end Go.Proofs.YtklgbjgjojelbaaGreatDoor
namespace Go.Proofs.YtklgbjgjojelbaaGreatDoor
open Go.ChangeShapes Go.WideShapes Go.ChangeAt Go.RowKit
set_option linter.unusedVariables false

theorem withCell_len {rows : List Int} (h : rows.length ≤ 1048576) (c : Cl) (on : Bool) : (withCell rows c on).1.length ≤ 1048576 := by
  unfold withCell; split
  · show (rowsOf _ 8).length ≤ _; rw [rowsOf_len]; decide
  · exact h

theorem toRegion_any (v : Value) (l : List Int) (w : World) (h : Rd 1 RInt w v l) (hl : Small l.length) : Calls Tryz.prog 33 #[.agg #[v]] w (RetReg l w) := by
  obtain ⟨A, c, rfl, hc, hm⟩ := h.form
  have hA := (((Below.refl w.heap.size w).al (.cells #[.slice A l.length c] 24)).al (.cells #[.slice none 0 0] 34)).al (.cells #[.slice none 0 0] 34)
  have h' := h.below RE.stays hA
  have hx := Blk.new2 (((w.alloc (.cells #[.slice A l.length c] 24)).alloc (.cells #[.slice none 0 0] 34))) 34 #[.slice none 0 0] (w.heap.size + 1 + 1) (by simp)
  have hr := (Blk.new2 (w.alloc (.cells #[.slice A l.length c] 24)) 34 #[.slice none 0 0] (w.heap.size + 1) (by simp)).alloc (.cells #[.slice none 0 0] 34)
  go_enter Tryz.func33, Tryz.ntmps33
  go_wp2_with fail
  refine (toInts_any _ l _ h' hl).mono ?_
  rintro e w1 ⟨A1, c1, rfl, own1, hb1⟩
  obtain ⟨hc1, hf1, hz1⟩ := bk hb1
  (try simp at hz1)
  have hy1_0 : w.heap.size < w1.heap.size := by omega
  have hy1_1 : w.heap.size + 1 < w1.heap.size := by omega
  have hy1_2 : w.heap.size + 1 + 1 < w1.heap.size := by omega
  have hx1 := (hx.bl hb1).set1 (.slice A1 l.length c1)
  have hr1 := ((hr.bl hb1).far (p := ⟨w.heap.size + 1 + 1, 0, none⟩) (by simp) (.slice A1 l.length c1)).set1 (.slice A1 l.length c1)
  have q5 := hx1.c1
  have q6 := hr1.c1
  have q7 := ((hr.bl hb1).far (p := ⟨w.heap.size + 1 + 1, 0, none⟩) (by simp) (.slice A1 l.length c1)).frozen 0
  go_wp2
  refine bodyPost_ret (v := .agg #[.slice A1 l.length c1]) (by simp [results, Tryz.results33, go_sem, q6]) rfl ⟨A1, c1, rfl, (((own1.low (by simp) _).low (by simp) _).mono hA.size), ?_⟩
  exact ((hA.tr hb1).st _ _ (by simp; omega)).st _ _ (by simp)

theorem szRegion_any (v : Value) (l : List Int) (left : Int) (w : World) (h : Rd 1 RInt w v l) (h0 : 0 ≤ left) (h1 : left ≤ 1048576) : Calls Tryz.prog 24 #[.agg #[v], .int .i64 left] w (Ret (.int .i64 (szOf left l.length)) w) := by
  obtain ⟨A, c, rfl, hc, hm⟩ := h.form
  have h' := h.below RE.stays ((Below.refl _ _).al (.cells #[.slice A l.length c] 24))
  by_cases hn : (l.length : Int) ≤ left
  · have hn2 : ¬ (left - (l.length : Int) < 0) := by omega
    rw [szOf_ok hn]
    have Hs := Lib.hid (szOf_ok hn)
    go_enter Tryz.func24, Tryz.ntmps24
    go_wp2_with fail
    refine (szInts_any _ l _ _ h' h0 h1).mono ?_
    rintro e w1 ⟨rfl, rfl⟩
    rw [Hs.out]
    go_wp2
    go_ret
    exact ⟨rfl, (Below.refl _ _).al _⟩
  · rw [szOf_no hn]
    have Hs := Lib.hid (szOf_no hn)
    go_enter Tryz.func24, Tryz.ntmps24
    go_wp2_with fail
    refine (szInts_any _ l _ _ h' h0 h1).mono ?_
    rintro e w1 ⟨rfl, rfl⟩
    rw [Hs.out]
    go_wp2
    go_ret
    exact ⟨rfl, (Below.refl _ _).al _⟩

theorem eqRegion_any (u v : Value) (l m : List Int) (w : World) (h : Rd 1 RInt w u l) (h' : Rd 1 RInt w v m) : Calls Tryz.prog 45 #[.agg #[u], .agg #[v]] w (Ret (.bool (l == m)) w) := by
  obtain ⟨A, c, rfl, hc, hm⟩ := h.form
  obtain ⟨A', c', rfl, hc', hm'⟩ := h'.form
  have hA := ((Below.refl w.heap.size w).al (.cells #[.slice A l.length c] 34)).al (.cells #[.slice A' m.length c'] 34)
  have g := h.below RE.stays hA
  have g' := h'.below RE.stays hA
  obtain ⟨r, hr⟩ : ∃ r, r = (l == m) := ⟨_, rfl⟩
  rw [← hr]
  have Hr := Lib.hid hr; clear hr
  go_enter Tryz.func45, Tryz.ntmps45
  go_wp2_with fail
  refine (eqInts_any _ _ l m _ g g').mono ?_
  rintro e w1 ⟨rfl, hb1⟩
  obtain ⟨hc1, hf1, hz1⟩ := bk hb1
  (try simp at hz1)
  have hy1_0 : w.heap.size < w1.heap.size := by omega
  have hy1_1 : w.heap.size + 1 < w1.heap.size := by omega
  rw [← Hr.out]
  cases r
  · go_wp2
    go_ret
    exact ⟨rfl, hA.tr hb1⟩
  · go_wp2
    go_ret
    exact ⟨rfl, hA.tr hb1⟩

theorem markRegion_any (v : Value) (l : List Int) (k : Int) (B : Nat) (w : World) (h : OwnL 3 1 eInt B w v l) (h0 : 0 ≤ k) (h1 : k ≤ 67108864) (hl : l.length ≤ 1048576) :
    Calls Tryz.prog 48 #[.agg #[v], .int .i64 k] w (Marked (.int .i64 (k + l.length)) v (fun w' => OwnL 3 1 eInt B w' v (marksInt k l.length)) w) := by
  obtain ⟨A, c, rfl, hc, hm⟩ := h.form
  have h' := h.alloc (.cells #[.slice A l.length c] 34)
  go_enter Tryz.func48, Tryz.ntmps48
  go_wp2_with fail
  refine (markInts_any _ l k B _ h' h0 h1 hl).mono ?_
  rintro e w1 ⟨rfl, own1, hg1⟩
  go_wp2
  go_ret
  exact ⟨rfl, own1, ⟨hg1.os, hg1.tape, hg1.output, Nat.le_trans (by simp) hg1.size, fun j hj hne => (hg1.block j (by simp; omega) hne).trans (Below.heap_alloc w _ j hj)⟩⟩

end Go.Proofs.YtklgbjgjojelbaaGreatDoor
namespace Go.Proofs.YtklgbjgjojelbaaGreatDoor
open Go.ChangeShapes Go.WideShapes Go.ChangeAt Go.RowKit
set_option linter.unusedVariables false

theorem i64_and255 (n : Int) : bits .and .i64 n 255 = n % 256 := by
  have h127 : (BitVec.ofInt 64 255).toNat = 2 ^ 8 - 1 := by decide
  have key : (BitVec.ofInt 64 n &&& BitVec.ofInt 64 255).toNat = (n % ((2 ^ 64 : Nat) : Int)).toNat % 2 ^ 8 := by
    rw [BitVec.toNat_and, BitVec.toNat_ofInt, h127, Nat.and_two_pow_sub_one_eq_mod]
  show IntKind.i64.wrap ((BitVec.ofInt 64 n &&& BitVec.ofInt 64 255).toNat : Nat) = n % 256
  rw [key, IntKind.wrap_i64]
  omega
theorem i64_and30 (n : Int) : bits .and .i64 n 1073741823 = n % 1073741824 := by
  have h127 : (BitVec.ofInt 64 1073741823).toNat = 2 ^ 30 - 1 := by decide
  have key : (BitVec.ofInt 64 n &&& BitVec.ofInt 64 1073741823).toNat = (n % ((2 ^ 64 : Nat) : Int)).toNat % 2 ^ 30 := by
    rw [BitVec.toNat_and, BitVec.toNat_ofInt, h127, Nat.and_two_pow_sub_one_eq_mod]
  show IntKind.i64.wrap ((BitVec.ofInt 64 n &&& BitVec.ofInt 64 1073741823).toNat : Nat) = n % 1073741824
  rw [key, IntKind.wrap_i64]
  omega

theorem Blk.st {w : World} {g : Nat} {t : TypeId} {cs : Array Value} (h : Blk w g t cs) (i : Nat) (u : Value) (ds : Array Value) (e : cs.setIfInBounds i u = ds) : Blk (w.setCell ⟨g, i, none⟩ u) g t ds := e ▸ h.set_ i u
theorem own_nil (w : World) {E : TypeId} {α : Type} {size : Nat} {enc : α → List Value} {B : Nat} : OwnL E size enc B w (.slice none 0 0) ([] : List α) := ⟨by simp, .inl ⟨rfl, rfl⟩⟩
theorem own_mt (w : World) {E : TypeId} {α : Type} {size : Nat} {enc : α → List Value} (g : Nat) (hg : g = w.heap.size) (B : Nat) (hB : B ≤ w.heap.size) : OwnL E size enc B (w.alloc (.cells #[] E)) (.slice (some ⟨g, 0, none⟩) 0 0) ([] : List α) := by
  subst hg
  have := World.ownsRow_lit (e := E) (size := size) w #[] 0 (Nat.le_refl _) (by simp [maxLen]) (by simp)
  exact OwnL.mono (B' := B) this hB
def InByte (x : Int) : Prop := 0 ≤ x ∧ x ≤ 255
def InBelow (n x : Int) : Prop := (n ≤ 0 ∧ x = 0) ∨ (0 ≤ x ∧ x < n)
def IsByte (x : Int) : Prop := 0 ≤ x ∧ x ≤ 255

theorem gr_drewN {w w' : World} {r : Option Nat} (h : w.grownBy w' r) (n : Nat) : w.grownBy (w'.drewN n) r :=
  ⟨h.os, h.tape, h.output, h.size, h.block⟩
theorem gr_trans {w w1 w2 : World} {r : Option Nat} (h : w.grownBy w1 r) (k : w1.grownBy w2 r) : w.grownBy w2 r :=
  ⟨k.os.trans h.os, k.tape.trans h.tape, k.output.trans h.output, Nat.le_trans h.size k.size, fun b hb hne => (k.block b (Nat.lt_of_lt_of_le hb h.size) hne).trans (h.block b hb hne)⟩
end Go.Proofs.YtklgbjgjojelbaaGreatDoor
namespace Go.Proofs.YtklgbjgjojelbaaGreatDoor
open Go.ChangeShapes Go.WideShapes Go.ChangeAt Go.RowKit
set_option linter.unusedVariables false

/-- Boxes as the reference draws them. -/
def SmallBox (x : Int × Int) : Prop := 1 ≤ x.1 ∧ x.1 ≤ 12 ∧ x.1 + 1 ≤ x.2 ∧ x.2 ≤ x.1 + 9
theorem SmallBox.fine {x : Int × Int} (h : SmallBox x) : BoxFine x := by unfold SmallBox at h; unfold BoxFine; omega

end Go.Proofs.YtklgbjgjojelbaaGreatDoor
namespace Go.Proofs.YtklgbjgjojelbaaGreatDoor
open Go.ChangeShapes Go.WideShapes Go.ChangeAt Go.RowKit
set_option linter.unusedVariables false

def rectRows (w h : Nat) : List Int := List.replicate h ((2 : Int) ^ w - 1)
theorem rectRows_succ (w k : Nat) : rectRows w (k + 1) = rectRows w k ++ [(2 : Int) ^ w - 1] := by unfold rectRows; rw [List.replicate_succ']
theorem pow_in {w : Nat} (hw : w ≤ 8) : 1 ≤ (2 : Int) ^ w ∧ (2 : Int) ^ w ≤ 256 := by
  have h1 : 2 ^ w ≤ 2 ^ 8 := Nat.pow_le_pow_right (by decide) hw
  have h2 := Nat.pow_pos (n := w) (show 0 < 2 by decide)
  have e : (2 : Int) ^ w = ((2 ^ w : Nat) : Int) := by simp
  rw [e]; omega

theorem cellAtS_yes (i : Nat) (w : World) (hi : i < 64) : Calls Tryz.prog 105 #[.int .i64 i] w (Ret (.tuple #[.agg #[.int .i64 ((i : Int) % 8), .int .i64 ((i : Int) / 8)], .bool true]) w) := by
  have h1 : inB (i : Int) 0 63 = true := by simp [inB]; omega
  go_enter Tryz.func105, Tryz.ntmps105
  go_wp2_with fail
  refine (in_any _ _ _ _).mono ?_
  rintro e w5 ⟨rfl, rfl⟩
  rw [h1]
  go_wp2
  refine bodyPost_ret (v := .tuple #[.agg #[.int .i64 ((i : Int) % 8), .int .i64 ((i : Int) / 8)], .bool true]) (by simp [results, Tryz.results105, go_sem]) rfl ⟨rfl, ?_⟩
  exact ((Below.refl _ _).al _)
end Go.Proofs.YtklgbjgjojelbaaGreatDoor
namespace Go.Proofs.YtklgbjgjojelbaaGreatDoor
open Go.ChangeShapes Go.WideShapes Go.ChangeAt Go.RowKit
set_option linter.unusedVariables false

theorem i64_and1 (n : Int) : bits .and .i64 n 1 = n % 2 := by
  have h127 : (BitVec.ofInt 64 1).toNat = 2 ^ 1 - 1 := by decide
  have key : (BitVec.ofInt 64 n &&& BitVec.ofInt 64 1).toNat = (n % ((2 ^ 64 : Nat) : Int)).toNat % 2 ^ 1 := by
    rw [BitVec.toNat_and, BitVec.toNat_ofInt, h127, Nat.and_two_pow_sub_one_eq_mod]
  show IntKind.i64.wrap ((BitVec.ofInt 64 n &&& BitVec.ofInt 64 1).toNat : Nat) = n % 2
  rw [key, IntKind.wrap_i64]
  omega
theorem bit_ge {r P : Int} (h : (r / P) % 2 = 1) (h0 : 0 ≤ r) (hP : 1 ≤ P) : P ≤ r := by
  rcases Int.lt_or_le r P with hlt | hge
  · rw [Int.ediv_eq_zero_of_lt h0 hlt] at h; omega
  · exact hge
theorem or_three {r : Int} {a : Nat} (h0 : 0 ≤ r) (h1 : r ≤ 255) (ha : a < 6) : ∃ V : Int, bits .or .i64 r (IntKind.i64.wrap (3 * (2 : Int) ^ a)) = V ∧ 0 ≤ V ∧ V ≤ 255 := by
  obtain ⟨n, rfl⟩ := Int.eq_ofNat_of_zero_le h0
  have h2 : 2 ^ a ≤ 2 ^ 5 := Nat.pow_le_pow_right (by decide) (by omega)
  obtain ⟨m, hm⟩ : ∃ m : Nat, m = 3 * 2 ^ a := ⟨_, rfl⟩
  have e : (3 : Int) * 2 ^ a = (m : Int) := by rw [hm]; simp
  have hm2 : m ≤ 96 := by omega
  clear hm
  rw [e, IntWalk.i64_in _ (by omega), i64_or_nat n m (by omega) (by omega)]
  have := Nat.or_lt_two_pow (n := 8) (show n < 2 ^ 8 by omega) (show m < 2 ^ 8 by omega)
  exact ⟨_, rfl, by omega, by omega⟩
/-- A valid region of the call's own. -/
def DrawnRegion (w : World) (e : Ending) (w' : World) : Prop := ∃ rows : List Int, 1 ≤ rows.length ∧ rows.length ≤ 5 ∧ (∀ r ∈ rows, 0 ≤ r ∧ r ≤ 255) ∧ RetReg rows w e w'
end Go.Proofs.YtklgbjgjojelbaaGreatDoor
namespace Go.Proofs.YtklgbjgjojelbaaGreatDoor
open Go.ChangeShapes Go.WideShapes Go.ChangeAt Go.RowKit
set_option linter.unusedVariables false

def ixCell (i : Nat) : Cl := ((i : Int) % 8, (i : Int) / 8)
def cellsTo (s k : Nat) : List Cl := ((List.range k).filter fun i => s.testBit i).map ixCell
theorem cellsTo_succ (s k : Nat) : cellsTo s (k + 1) = cellsTo s k ++ if s.testBit k then [ixCell k] else [] := by
  unfold cellsTo
  rw [List.range_succ, List.filter_append, List.map_append]
  by_cases h : s.testBit k = true
  · rw [if_pos h]; simp [h]
  · rw [if_neg h]; simp [h]
theorem cellsTo_le (s k : Nat) : (cellsTo s k).length ≤ k := by
  unfold cellsTo; rw [List.length_map]; exact Nat.le_trans (List.length_filter_le _ _) (by simp)

/-- The cells of a region. -/
def regCells (rows : List Int) : List Cl := if regionOk rows then cellsTo (setOf rows) 64 else []
theorem regCells_le (rows : List Int) : (regCells rows).length ≤ 64 := by
  unfold regCells; split
  · exact cellsTo_le _ _
  · simp
def hasCell (rows : List Int) (c : Cl) : Bool := regionOk rows && (cellOk c && (setOf rows).testBit (cellIx c).toNat)
def sameCells (a b : List Int) : Bool := regionOk a && regionOk b && decide (setOf a = setOf b)
end Go.Proofs.YtklgbjgjojelbaaGreatDoor
