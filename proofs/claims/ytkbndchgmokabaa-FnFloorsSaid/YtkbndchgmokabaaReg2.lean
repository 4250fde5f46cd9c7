/- Copies, rows of a set, WithCell of the program. No conditions but sizes. -/
import Derived.Test.YtkbndchgmokabaaReg
import Derived.Test.YtkbndchgmokabaaApp
import Derived.Deep.RegionLaw
namespace Go.Proofs.Ytkbndchgmokabaa
open Go.ChangeShapes Go.WideShapes Go.ChangeAt Go.RowKit
set_option linter.unusedVariables false

theorem own_empty (w : World) {E : TypeId} {α : Type} {size : Nat} {enc : α → List Value} : OwnL E size enc w.heap.size (w.alloc (.cells #[] E)) (.slice (some ⟨w.heap.size, 0, none⟩) 0 0) ([] : List α) := by
  have := World.ownsRow_lit (e := E) (size := size) w #[] 0 (Nat.le_refl _) (by simp [maxLen]) (by simp)
  exact this
set_option maxRecDepth 100000 in
theorem copyOf_any (v : Value) (l : List Int) (w : World) (h : Rd 1 RInt w v l) (hl : Small l.length) : Calls Try.prog 166 #[v] w (RetOwn 3 1 eInt l w) := by
  obtain ⟨A, c, rfl, hc, hm⟩ := h.form
  have h' := h.below RE.stays ((Below.refl _ _).al (.cells #[] 3))
  have hs8 : (0 + l.length) * 8 ≤ 140737488355328 := by unfold Small at hl; omega
  have hsm : 0 + l.length ≤ maxLen := by have := hl.max; omega
  have H8 := Lib.hid hs8; have HM := Lib.hid hsm; clear hs8 hsm
  go_enter Try.func166, Try.ntmps166
  go_wp2_with (at_builtin; go_must (refine wpList_appAll (enc := eInt) rowInt lenInt oneInt (B := w.heap.size) (by simp) (own_empty w) h' H8.out HM.out rfl _ _ rfl rfl rfl ?_); intro v1 w1 own1 hb1 hv1; obtain ⟨A1, c1, rfl⟩ := hv1; simp only [List.nil_append, List.length_nil, Nat.zero_add] at own1)
  go_wp2
  go_ret
  exact ⟨A1, c1, rfl, own1, ((Below.refl _ _).al _).trans hb1⟩
/-- The call returned a region of its own with these rows, and wrote nothing that was there. -/
def RetReg (l : List Int) (w : World) (e : Ending) (w' : World) : Prop := ∃ A c, e = .returned (.agg #[.slice A l.length c]) ∧ OwnL 3 1 eInt w.heap.size w' (.slice A l.length c) l ∧ Below w.heap.size w w'
theorem OwnL.low {α : Type} {E : TypeId} {size : Nat} {enc : α → List Value} {B : Nat} {w : World} {v : Value} {l : List α} (h : OwnL E size enc B w v l) {p : Addr} (hp : p.block < B) (u : Value) : OwnL E size enc B (w.setCell p u) v l := ownsRow_setCell_below h hp u
theorem copied_any (v : Value) (l : List Int) (w : World) (h : Rd 1 RInt w v l) (hl : Small l.length) : Calls Try.prog 117 #[.agg #[v]] w (RetReg l w) := by
  obtain ⟨A, c, rfl, hc, hm⟩ := h.form
  have h' := h.below RE.stays (((Below.refl _ _).al (.cells #[.slice A l.length c] 31)).al (.cells #[.slice none 0 0] 31))
  go_enter Try.func117, Try.ntmps117
  go_wp2_with fail
  refine (copyOf_any _ l _ h' hl).mono ?_
  rintro e w1 ⟨A1, c1, rfl, own1, hb1⟩
  obtain ⟨hc1, hf1, hz1⟩ := bk hb1
  (try simp at hz1)
  have hy1_0 : w.heap.size < w1.heap.size := by omega
  have hy1_1 : w.heap.size + 1 < w1.heap.size := by omega
  go_wp2
  refine bodyPost_ret (v := .agg #[.slice A1 l.length c1]) (by simp [results, Try.results117, go_sem, hc1]) rfl ⟨A1, c1, rfl, (own1.low (by simp) _).mono (by simp; omega), ?_⟩
  exact ((((Below.refl _ _).al _).al _).tr hb1).st _ _ (Nat.le_succ _)

/-- One row of a set. -/
def rowAt (s y : Nat) : Int := (((s >>> (8 * y)) &&& 255 : Nat) : Int)
theorem row_val {s y : Nat} (hs : s < U64) : bits .and .u64 ((s : Int) / 2 ^ (8 * y)) 255 = rowAt s y := by
  have e : (s : Int) / 2 ^ (8 * y) = ((s >>> (8 * y) : Nat) : Int) := by rw [Nat.shiftRight_eq_div_pow]; simp
  have h1 : s >>> (8 * y) < 18446744073709551616 := by rw [Nat.shiftRight_eq_div_pow]; exact Nat.lt_of_le_of_lt (Nat.div_le_self _ _) (by unfold U64 at hs; exact hs)
  have h2 := u64_and_nat (s >>> (8 * y)) 255 h1 (by decide)
  rw [e, show (255 : Int) = ((255 : Nat) : Int) from rfl, h2]; rfl
theorem rowAt_in (s y : Nat) : 0 ≤ rowAt s y ∧ rowAt s y ≤ 255 := by
  unfold rowAt; rw [and255]; have := Nat.mod_lt (s >>> (8 * y)) (show 0 < 256 by decide); omega
theorem rowsOf_succ (s k : Nat) : rowsOf s (k + 1) = rowsOf s k ++ [rowAt s k] := by simp [rowsOf, rowAt, List.range_succ]

set_option maxRecDepth 100000 in
theorem regionOf_any (s n : Nat) (w : World) (hs : s < U64) (hn : n ≤ 8) : Calls Try.prog 106 #[.int .u64 s, .int .i64 n] w (RetReg (rowsOf s n) w) := by
  go_enter Try.func106, Try.ntmps106
  go_wp2
  go_loopw [10] (fun i wr => ∃ (k : Nat) (A : Option Addr) (c : Nat), k ≤ n ∧ i = .int .i64 k ∧ Blk wr (w.heap.size + 1 + 1) 31 #[.slice A k c] ∧ Blk wr w.heap.size 31 #[.slice none 0 0] ∧ OwnL 3 1 eInt (w.heap.size + 1) wr (.slice A k c) (rowsOf s k) ∧ Below w.heap.size w wr) (fun i _ => n - (intOf i).toNat)
  case atStart =>
    refine ⟨0, some ⟨w.heap.size + 1, 0, none⟩, 0, Nat.zero_le _, rfl, ?_, ?_, ?_, (((Below.refl _ _).al _).al _).al _⟩
    · have := Blk.new_ ((w.alloc (.cells #[.slice none 0 0] 31)).alloc (.cells #[] 3)) 31 #[.slice (some ⟨w.heap.size + 1, 0, none⟩) 0 0]
      simpa using this
    · exact ((Blk.new_ w 31 #[.slice none 0 0]).alloc _).alloc _
    · have := (own_empty (E := 3) (size := 1) (enc := eInt) (w.alloc (.cells #[.slice none 0 0] 31))).alloc (.cells #[.slice (some ⟨w.heap.size + 1, 0, none⟩) 0 0] 31)
      simpa [rowsOf] using this
  case round =>
    obtain ⟨k, A, c, hk, rfl, hbx, hbr, hown, hbel⟩ := hrel
    have q1 := hbx.c1
    have q2 := hbx.frozen 0
    have hz := hbx.lt
    by_cases hlt : k < n
    · have e1 : IntKind.i64.wrap (8 * (k : Int)) = 8 * k := IntWalk.i64_in _ (by omega)
      have e2 : (8 * (k : Int)).toNat = 8 * k := by omega
      have e3 : IntKind.i64.wrap (rowAt s k) = rowAt s k := by have := rowAt_in s k; exact IntWalk.i64_in _ (by omega)
      have rv := row_val (y := k) hs
      have hne := hown.apart hbx (by decide)
      have hlen := rowsOf_len s k
      have HB : Hid (w.heap.size + 1 ≤ wr.drew.heap.size) := Lib.hid (show w.heap.size + 1 ≤ wr.heap.size by omega)
      have H8 : Hid (((rowsOf s k).length + 1) * 8 ≤ 140737488355328) := Lib.hid (by rw [hlen]; omega)
      have HM : Hid ((rowsOf s k).length + 1 ≤ maxLen) := Lib.hid (by rw [hlen]; unfold maxLen; omega)
      have Hlen := Lib.hid hlen; clear hlen
      go_wp2_with fail
      go_region_law (go_must (refine step_appB (enc := eInt) rowInt lenInt oneInt (B := w.heap.size + 1) wr.drew HB.out hown (rowAt s k) rfl H8.out HM.out rfl _ _ rfl rfl rfl ?_); intro v1 w1 own1 hg1 hv1; rw [Hlen.out] at hv1; obtain ⟨A1, c1, rfl⟩ := hv1; have hbx1 := Blk.grown (w := wr.drew) hbx hg1 (fun e => hne e.symm); have q3 := hbx1.c1; have q4 := hbx1.frozen 0)
      all_goals
        have hbr1 := Blk.grown (w := wr.drew) hbr hg1 (fun e => (hown.apart hbr (by decide)) e.symm)
        have B1 := Below.app hbel.drew (w := wr.drew) hown (Nat.le_succ _) hg1
        have own2 : OwnL 3 1 eInt (w.heap.size + 1) w1 (.slice A1 (k + 1) c1) (rowsOf s (k + 1)) := by rw [rowsOf_succ]; exact own1
        have own3 := own2.far (a := ⟨w.heap.size + 1 + 1, 0, none⟩) (own2.apart hbx1 (by decide)) (.slice A1 (k + 1) c1)
        have hbx2 := hbx1.set_ 0 (.slice A1 (k + 1) c1)
        have hbr2 := hbr1.far (p := ⟨w.heap.size + 1 + 1, 0, none⟩) (by simp; omega) (.slice A1 (k + 1) c1)
        have B2 := B1.st ⟨w.heap.size + 1 + 1, 0, none⟩ (.slice A1 (k + 1) c1) (by simp; omega)
        clear own1 own2 hbx hbx1 hbr hbr1 q1 q2 q3 q4 B1 hg1 hown rv e1 e2 e3
        go_wp2
        go_roundw
        case rel => exact ⟨k + 1, A1, c1, by omega, by go_num, hbx2, hbr2, own3, B2⟩
        case measure => simp [intOf]; omega
    · have q3 := hbr.c1
      have q4 := hbr.frozen 0
      have hz2 := hbr.lt
      obtain rfl : k = n := by omega
      have hbr5 : Blk (wr.setCell ⟨w.heap.size, 0, none⟩ (.slice A k c)) w.heap.size 31 #[.slice A k c] := hbr.set_ 0 _
      have q5 := hbr5.c1
      go_wp2
      refine bodyPost_ret (v := .agg #[.slice A k c]) (by simp [results, Try.results106, go_sem, q5]) rfl ⟨A, c, by rw [rowsOf_len], ?_, ?_⟩
      · rw [rowsOf_len]
        exact (hown.low (p := ⟨w.heap.size, 0, none⟩) (Nat.lt_succ_self _) _).mono (Nat.le_succ _)
      · exact hbel.st _ _ (Nat.le_refl _)
end Go.Proofs.Ytkbndchgmokabaa
