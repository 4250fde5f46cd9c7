/- WithCell of the reference: the plain law that its rows are those of the set, and the walks. No conditions but sizes. -/
import Derived.Test.YtkbndchgmokabaaWithI
namespace Go.Proofs.Ytkbndchgmokabaa
open Go.ChangeShapes Go.WideShapes Go.ChangeAt Go.RowKit
set_option linter.unusedVariables false

/-- The row that the reference makes of a row. -/
def specRow (r x : Nat) (on : Bool) : Nat := if on then r ||| 2 ^ x else (r ||| 2 ^ x) - 2 ^ x
theorem specRow_bits : ∀ r < 256, ∀ x < 8, ∀ j < 8, (specRow r x true).testBit j = (r.testBit j || decide (x = j)) ∧ (specRow r x false).testBit j = (r.testBit j && !decide (x = j)) := by
  decide +kernel
theorem specRow_lt : ∀ r < 256, ∀ x < 8, specRow r x true < 256 ∧ specRow r x false < 256 := by
  decide +kernel
def pad8 (rows : List Int) : List Int := rows ++ List.replicate (8 - rows.length) 0
theorem pad8_len {rows : List Int} (h : rows.length ≤ 8) : (pad8 rows).length = 8 := by simp [pad8]; omega
theorem pad8_getD (rows : List Int) (i : Nat) : (pad8 rows).getD i 0 = rows.getD i 0 := by
  unfold pad8
  rw [List.getD_eq_getElem?_getD, List.getD_eq_getElem?_getD]
  by_cases h : i < rows.length
  · rw [List.getElem?_append_left h]
  · rw [List.getElem?_append_right (by omega), List.getElem?_eq_none (l := rows) (by omega), List.getElem?_replicate]
    split <;> rfl
theorem getD_in {rows : List Int} (h : RowsOk rows) (i : Nat) : 0 ≤ rows.getD i 0 ∧ rows.getD i 0 ≤ 255 := by
  rw [List.getD_eq_getElem?_getD]
  by_cases hi : i < rows.length
  · rw [List.getElem?_eq_getElem hi, Option.getD_some]; exact h.2 _ (List.getElem_mem hi)
  · rw [List.getElem?_eq_none (by omega)]; decide
theorem withSet_bit {s i : Nat} (hs : s < U64) (hi : i < 64) (on : Bool) (j : Nat) : (withSet s i on).testBit j = if on then (s.testBit j || decide (i = j)) else (s.testBit j && !decide (i = j)) := by
  unfold withSet
  cases on
  · simp only [Bool.false_eq_true, if_false]; exact testBit_sWithout hs hi j
  · simp only [if_true]; rw [testBit_sWith, testBit_sWithout hs hi]
    cases s.testBit j <;> cases hd : decide (i = j) <;> rfl
/-- The reference's rows are the rows of the set. -/
theorem withRows {rows : List Int} (h : RowsOk rows) {x y : Nat} (hx : x < 8) (hy : y < 8) (on : Bool) :
    (pad8 rows).set y (specRow (rows.getD y 0).toNat x on : Nat) = rowsOf (withSet (setOf rows) (8 * y + x) on) 8 := by
  have hi : 8 * y + x < 64 := by omega
  refine List.ext_getElem? fun k => ?_
  by_cases hk : k < 8
  · have hr := getD_in h k
    have hrow : (rowsOf (withSet (setOf rows) (8 * y + x) on) 8)[k]? = some ((((withSet (setOf rows) (8 * y + x) on) >>> (8 * k)) % 256 : Nat) : Int) := by
      have := rowsOf_at (withSet (setOf rows) (8 * y + x) on) 8 k hk
      rw [List.getD_eq_getElem?_getD, List.getElem?_eq_getElem (by rw [rowsOf_len]; exact hk), Option.getD_some] at this
      rw [List.getElem?_eq_getElem (by rw [rowsOf_len]; exact hk), this]
    rw [hrow]
    have hval : ∀ v : Nat, v < 256 → (∀ j, j < 8 → v.testBit j = (withSet (setOf rows) (8 * y + x) on).testBit (8 * k + j)) → some (v : Int) = some ((((withSet (setOf rows) (8 * y + x) on) >>> (8 * k)) % 256 : Nat) : Int) := by
      intro v hv hb
      have : v = ((withSet (setOf rows) (8 * y + x) on) >>> (8 * k)) % 256 := row_ext hv (Nat.mod_lt _ (by decide)) fun j hj => by rw [row_bit _ _ _ hj]; exact hb j hj
      rw [← this]
    have hset : ∀ j, j < 8 → (setOf rows).testBit (8 * k + j) = (rows.getD k 0).toNat.testBit j := by
      intro j hj
      rw [setOf_bit h, show (8 * k + j) / 8 = k by omega, show (8 * k + j) % 8 = j by omega]
    by_cases e : y = k
    · subst e
      rw [List.getElem?_set_self (by rw [pad8_len h.1]; exact hk)]
      have hr2 : (rows.getD y 0).toNat < 256 := by omega
      have hl := specRow_lt _ hr2 x hx
      have hl' : specRow (rows.getD y 0).toNat x on < 256 := by
        cases on
        · exact hl.2
        · exact hl.1
      refine hval _ hl' fun j hj => ?_
      rw [withSet_bit (setOf_lt h) hi, hset j hj]
      have hb := specRow_bits _ hr2 x hx j hj
      have hd : decide (8 * y + x = 8 * y + j) = decide (x = j) := by rw [decide_eq_decide]; omega
      rw [hd]
      cases on
      · simp only [Bool.false_eq_true, if_false]; exact hb.2
      · simp only [if_true]; exact hb.1
    · rw [List.getElem?_set_ne e]
      have hp := pad8_getD rows k
      rw [List.getD_eq_getElem?_getD, List.getElem?_eq_getElem (by rw [pad8_len h.1]; exact hk), Option.getD_some] at hp
      rw [List.getElem?_eq_getElem (by rw [pad8_len h.1]; exact hk), hp]
      have hnn : rows.getD k 0 = (((rows.getD k 0).toNat : Nat) : Int) := by omega
      rw [hnn]
      refine hval _ (by omega) fun j hj => ?_
      rw [withSet_bit (setOf_lt h) hi, hset j hj]
      have hd : decide (8 * y + x = 8 * k + j) = false := by rw [decide_eq_false_iff_not]; omega
      rw [hd]; cases on <;> simp
  · rw [List.getElem?_eq_none (by rw [List.length_set, pad8_len h.1]; omega), List.getElem?_eq_none (by rw [rowsOf_len]; omega)]

theorem ofInt_i64 (a : Nat) (ha : a < 18446744073709551616) : (BitVec.ofInt 64 (a : Int)).toNat = a := by
  rw [BitVec.ofInt_natCast, BitVec.toNat_ofNat]; exact Nat.mod_eq_of_lt (by omega)
theorem i64_or_nat (a b : Nat) (ha : a < 4294967296) (hb : b < 4294967296) : bits .or .i64 (a : Int) (b : Int) = ((a ||| b : Nat) : Int) := by
  have hx : a ||| b < 2 ^ 32 := Nat.or_lt_two_pow (by omega) (by omega)
  show IntKind.i64.wrap ((BitVec.ofInt 64 (a : Int) ||| BitVec.ofInt 64 (b : Int)).toNat : Int) = _
  rw [BitVec.toNat_or, ofInt_i64 a (by omega), ofInt_i64 b (by omega), IntKind.wrap_i64]
  omega
theorem i64_and_nat (a b : Nat) (ha : a < 4294967296) (hb : b < 4294967296) : bits .and .i64 (a : Int) (b : Int) = ((a &&& b : Nat) : Int) := by
  have hx : a &&& b < 2 ^ 32 := Nat.and_lt_two_pow _ (by omega)
  show IntKind.i64.wrap ((BitVec.ofInt 64 (a : Int) &&& BitVec.ofInt 64 (b : Int)).toNat : Int) = _
  rw [BitVec.toNat_and, ofInt_i64 a (by omega), ofInt_i64 b (by omega), IntKind.wrap_i64]
  omega

theorem regionOkS_any (v : Value) (rows : List Int) (w : World) (h : Rd 1 RInt w v rows) : Calls Try.prog 84 #[.agg #[v]] w (Ret (.bool (regionOk rows)) w) := by
  obtain ⟨A, c, rfl, hc, hm⟩ := h.form
  have h' := h.below RE.stays ((Below.refl _ _).al (.cells #[.slice A rows.length c] 31))
  have e0 : regionOk rows = (allIn 0 255 rows && decide ((rows.length : Int) ≤ 8)) := by
    unfold regionOk; rw [Bool.and_comm]; congr 1; rw [decide_eq_decide]; omega
  rw [e0]
  go_enter Try.func84, Try.ntmps84
  go_wp2
  go_loop [3] (fun i => ∃ k : Nat, k ≤ rows.length ∧ i = .int .i64 k ∧ Hid (allIn 0 255 (rows.drop k) = allIn 0 255 rows)) (fun i => rows.length - (intOf i).toNat)
  case atStart => exact ⟨0, Nat.zero_le _, rfl, Lib.hid rfl⟩
  case round =>
    obtain ⟨k, hk, rfl, Hg⟩ := hrel
    by_cases hlt : k < rows.length
    · obtain ⟨b, off, rfl, hb, h1⟩ := h'.atInt hlt
      go_wp2_with (go_at_call 128; (with_reducible refine (in_any _ _ _ _).mono ?_); rintro e w' ⟨rfl, rfl⟩)
      all_goals first
        | (go_round
           case rel => exact ⟨k + 1, by omega, by go_num, allIn_go Hg hlt (by rename_i hx; simpa using hx)⟩
           case measure => simp [intOf]; omega)
        | (go_ret
           exact ⟨retB (by rw [allIn_no Hg hlt (by rename_i hx; simpa using hx)]; rfl), (Below.refl _ _).al _⟩)
    · go_wp2
      go_ret
      exact ⟨retB (by rw [allIn_end Hg (by omega), Bool.true_and]), (Below.refl _ _).al _⟩

theorem copyS_any (v : Value) (l : List Int) (w : World) (h : Rd 1 RInt w v l) (hl : Small l.length) : Calls Try.prog 112 #[.agg #[v]] w (RetReg l w) := by
  obtain ⟨A, c, rfl, hc, hm⟩ := h.form
  have hA := (((Below.refl w.heap.size w).al (.cells #[.slice A l.length c] 31)).al (.cells #[.slice none 0 0] 31)).al (.cells #[] 3)
  have h' := h.below RE.stays hA
  have hs8 : (0 + l.length) * 8 ≤ 140737488355328 := by unfold Small at hl; omega
  have hsm : 0 + l.length ≤ maxLen := by have := hl.max; omega
  have hB : w.heap.size + 1 + 1 ≤ (((w.alloc (.cells #[.slice A l.length c] 31)).alloc (.cells #[.slice none 0 0] 31)).alloc (.cells #[] 3)).heap.size := by simp
  have hE : OwnL 3 1 eInt (w.heap.size + 1 + 1) (((w.alloc (.cells #[.slice A l.length c] 31)).alloc (.cells #[.slice none 0 0] 31)).alloc (.cells #[] 3)) (.slice (some ⟨w.heap.size + 1 + 1, 0, none⟩) 0 0) ([] : List Int) := by
    have := own_empty (E := 3) (size := 1) (enc := eInt) ((w.alloc (.cells #[.slice A l.length c] 31)).alloc (.cells #[.slice none 0 0] 31))
    simpa using this
  have hx := (Blk.new2 (w.alloc (.cells #[.slice A l.length c] 31)) 31 #[.slice none 0 0] (w.heap.size + 1) (by simp)).alloc (.cells #[] 3)
  have H8 := Lib.hid hs8; have HM := Lib.hid hsm; have HB := Lib.hid hB; clear hs8 hsm hB
  go_enter Try.func112, Try.ntmps112
  go_wp2_with (at_builtin; go_must (refine wpList_appAll (enc := eInt) rowInt lenInt oneInt HB.out hE h' H8.out HM.out rfl _ _ rfl rfl rfl ?_); intro v1 w1 own1 hb1 hv1; obtain ⟨A1, c1, rfl⟩ := hv1; simp only [List.nil_append, List.length_nil, Nat.zero_add] at own1; have hx1 := hx.below hb1 (Nat.lt_succ_self _); have q1 := hx1.c1; have q2 := hx1.frozen 0; have q3 := hx1.lt)
  have q5 := (hx1.set1 (.slice A1 l.length c1)).c1
  refine bodyPost_ret (v := .agg #[.slice A1 l.length c1]) (by simp [results, Try.results112, go_sem, q5]) rfl ⟨A1, c1, rfl, (own1.low (Nat.lt_succ_self _) _).mono (by omega), ?_⟩
  exact (hA.trans (hb1.mono (by omega))).st _ _ (Nat.le_succ _)
end Go.Proofs.Ytkbndchgmokabaa
