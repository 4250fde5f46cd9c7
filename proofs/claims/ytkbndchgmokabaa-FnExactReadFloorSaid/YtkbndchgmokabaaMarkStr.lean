/- The law's marks in lists of strings: markText, markStringS, heldStringS. No conditions but sizes. -/
import Derived.Test.YtkbndchgmokabaaConvStr
import Derived.Test.YtkbndchgmokabaaDraw
import Derived.Laws.BytesArg
import Derived.Deep.RegionHeld3
import Derived.Deep.DeepMust
namespace Go.Proofs.Ytkbndchgmokabaa
open Go.ChangeShapes Go.WideShapes Go.ChangeAt Go.RowKit
set_option linter.unusedVariables false
set_option linter.unusedSimpArgs false

def dig1 (n : Nat) : ByteArray := strOfNums [((48 + n % 10 : Nat) : Int)]
def digGo : Nat → Nat → ByteArray → ByteArray
  | 0, _, o => o
  | f + 1, n, o => if n = 0 then o else digGo f (n / 10) (dig1 n ++ o)
def markStr (k : Nat) : ByteArray := (⟨#[109]⟩ : ByteArray) ++ digGo 10 k ByteArray.empty
theorem dig1_size (n : Nat) : (dig1 n).size = 1 := by unfold dig1; rw [strOfNums_size]; rfl
theorem digGo_zero : ∀ (f : Nat) (o : ByteArray), digGo f 0 o = o
  | 0, _ => rfl
  | f + 1, o => rfl
set_option maxHeartbeats 1000000 in
set_option maxRecDepth 100000 in
theorem markText_any (k : Nat) (w : World) (h0 : 1 ≤ k) (hk : k ≤ 1000000000) : Calls Try.prog 111 #[.int .i64 k] w (Ret (.string (markStr k)) w) := by
  obtain ⟨R, hR⟩ : ∃ R, R = digGo 10 k ByteArray.empty := ⟨_, rfl⟩
  have e : markStr k = (⟨#[109]⟩ : ByteArray) ++ R := by rw [hR]; rfl
  rw [e]
  have HR := Lib.hid hR; clear e hR
  have hk0 : ¬ ((k : Int) ≤ 0) := by omega
  go_enter Try.func111, Try.ntmps111
  go_wp2
  go_loopw [0, 3] (fun s0 s3 wr => ∃ (f n : Nat) (o : ByteArray), Hid (n < 10 ^ f) ∧ n ≤ 1000000000 ∧ o.size + f ≤ 10 ∧ s0 = .int .i64 n ∧ s3 = .string o ∧ Hid (digGo f n o = R) ∧ Below w.heap.size w wr) (fun i _ _ => (intOf i).toNat)
  case atStart => exact ⟨10, k, ByteArray.empty, Lib.hid (by omega), hk, by decide, rfl, rfl, Lib.hid HR.out.symm, Below.refl _ _⟩
  case round =>
    obtain ⟨f, n, o, Hn, hn, hf, rfl, rfl, Hg, hbel⟩ := hrel
    have hos : o.size ≤ 10 := by omega
    by_cases hlt : 0 < n
    · obtain ⟨f, rfl⟩ : ∃ f', f = f' + 1 := ⟨f - 1, by have := Hn.out; rcases f with _ | f <;> simp at *; omega⟩
      have hg : digGo f (n / 10) (dig1 n ++ o) = R := by
        rw [← Hg.out]; show _ = if n = 0 then o else digGo f (n / 10) (dig1 n ++ o); rw [if_neg (by omega)]
      have HG := Lib.hid hg; clear hg
      have hd1 := dig1_size n
      have hw : IntKind.u8.wrap (48 + (n : Int) % 10) = 48 + (n : Int) % 10 := by rw [IntKind.wrap_u8]; omega
      have hconv := run_convert_bytes_arg (P := Try.prog) (wr.alloc (.cells #[.int .u8 (48 + (n : Int) % 10)] 5)) 35 5 Try.underlying35 Try.underlying5 wr.heap.size 0 1 1 [48 + (n : Int) % 10] rfl (fun i hi => by
        obtain rfl : i = 0 := by omega
        exact (cell_of_row _ _ 0 #[.int .u8 (48 + (n : Int) % 10)] 5 (0, 0) (heap_alloc_new wr _))) 9 Try.underlying9
      have hd : strOfNums [48 + (n : Int) % 10] = dig1 n := by unfold dig1; congr 2
      rw [hd] at hconv
      clear hd
      have hsz : (dig1 n ++ o).size = 1 + o.size := by rw [ByteArray.size_append, hd1]
      have Hn2 : Hid (n / 10 < 10 ^ f) := Lib.hid (by have := Hn.out; rw [Nat.pow_succ] at this; omega)
      have Hsz := Lib.hid hsz; clear hsz
      go_wp2
      go_roundw
      case rel => exact ⟨f, n / 10, dig1 n ++ o, Hn2, by omega, by rw [Hsz.out]; omega, by go_num, rfl, HG, hbel.al _⟩
      case measure => simp [intOf]; omega
    · obtain rfl : n = 0 := by omega
      have HG : Hid (o = R) := Lib.hid (by rw [← Hg.out, digGo_zero])
      go_wp2
      go_ret
      exact ⟨by rw [HG.out]; rfl, hbel⟩

theorem below_gr {w w' : World} (h : Below w.heap.size w w') (r : Option Nat) : w.grownBy w' r := ⟨h.os, h.tape, h.output, h.size, fun k hk _ => h.block k hk⟩
/-- The marks that the law writes into n strings, from k on. -/
def mkStr (k j : Nat) : ByteArray := markStr (k + j)
def marksStr (k n : Nat) : List ByteArray := (List.range n).map (mkStr k)
theorem marksStr_len (k n : Nat) : (marksStr k n).length = n := by simp [marksStr]
theorem marksStr_set {m l : List ByteArray} {j k : Nat} (h : m.length = l.length) (e : m.take j = marksStr k j) (hj : j < l.length) : (m.set j (mkStr k j)).length = l.length ∧ (m.set j (mkStr k j)).take (j + 1) = marksStr k (j + 1) := by
  refine ⟨by simpa using h, ?_⟩
  rw [take_set _ (by omega), e]
  simp [marksStr, List.range_succ]
set_option maxRecDepth 100000 in
theorem markStrs_any (v : Value) (l : List ByteArray) (k B : Nat) (w : World) (h : OwnL 9 1 eStr B w v l) (h0 : 1 ≤ k) (h1 : k ≤ 67108864) (hl : l.length ≤ 1048576) :
    Calls Try.prog 37 #[v, .int .i64 k] w (Marked (.int .i64 (k + l.length : Nat)) v (fun w' => OwnL 9 1 eStr B w' v (marksStr k l.length)) w) := by
  obtain ⟨A, c, rfl, hc, hm⟩ := h.form
  go_enter Try.func37, Try.ntmps37
  go_wp2
  go_loopw [1, 5] (fun q i wr => ∃ (j : Nat) (m : List ByteArray), j ≤ l.length ∧ i = .int .i64 j ∧ q = .int .i64 (k + j : Nat) ∧ Hid (m.length = l.length ∧ m.take j = marksStr k j) ∧ OwnL 9 1 eStr B wr (.slice A l.length c) m ∧ w.grownBy wr (Value.slice A l.length c).ownBlock) (fun _ i _ => l.length - (intOf i).toNat)
  case atStart => exact ⟨0, l, Nat.zero_le _, rfl, rfl, Lib.hid ⟨rfl, rfl⟩, h, World.grownBy.refl _ _⟩
  case round =>
    obtain ⟨j, m, hj, rfl, rfl, Hg, hown, hgr⟩ := hrel
    by_cases hlt : j < l.length
    · obtain ⟨g, rfl, hB, hgl⟩ := hown.split (k := j) (by rw [Hg.out.1]; omega)
      go_wp2_with fail
      refine (markText_any (k + j) _ (by omega) (by omega)).mono ?_
      rintro e w1 ⟨rfl, hb1⟩
      have own1 := hown.below hb1
      obtain ⟨u0, s0⟩ := own1.slot1 lenStr (k := j) (by rw [Hg.out.1]; omega)
      have hsf := own1.free
      go_wp2
      go_roundw
      case rel => exact ⟨j + 1, m.set j (mkStr k j), by omega, by go_num, by go_num, Lib.hid (marksStr_set Hg.out.1 Hg.out.2 hlt), own1.store1 lenStr (by rw [Hg.out.1]; omega) rfl, gr_set (gr_trans hgr (below_gr hb1 _)) _ _⟩
      case measure => simp [intOf]; omega
    · go_wp2
      go_ret
      obtain rfl : j = l.length := by omega
      exact ⟨rfl, by have e := Hg.out.2; rw [List.take_of_length_le (by rw [Hg.out.1]; omega)] at e; rw [← e]; exact hown, hgr⟩
set_option maxRecDepth 100000 in
theorem heldStrs_any (v : Value) (k n : Nat) (w : World) (h : Rd 1 (RE eStr) w v (marksStr k n)) (h0 : 1 ≤ k) (h1 : k ≤ 67108864) (hl : n ≤ 1048576) :
    Calls Try.prog 38 #[v, .int .i64 k] w (Ret (.int .i64 (k + n : Nat)) w) := by
  have hlen : (marksStr k n).length = n := by simp [marksStr]
  obtain ⟨A, c, rfl, hc, hm⟩ := h.form
  rw [hlen] at h hc hm ⊢
  go_enter Try.func38, Try.ntmps38
  go_wp2
  go_loopw [1, 5] (fun q i wr => ∃ j : Nat, j ≤ n ∧ i = .int .i64 j ∧ q = .int .i64 (k + j : Nat) ∧ Below w.heap.size w wr) (fun _ i _ => n - (intOf i).toNat)
  case atStart => exact ⟨0, Nat.zero_le _, rfl, rfl, Below.refl _ _⟩
  case round =>
    obtain ⟨j, hj, rfl, rfl, hbel⟩ := hrel
    by_cases hlt : j < n
    · obtain ⟨b, off, rfl, hb, k1⟩ := (h.below RE.stays hbel).atStr (k := j) (by omega)
      simp only [marksStr, mkStr, List.getElem_map, List.getElem_range] at k1
      clear hlen
      have hj0 : (0 : Int) ≤ (j : Int) := by omega
      have hjn : (j : Int) < (n : Int) := by omega
      obtain ⟨S, hS⟩ : ∃ S, S = markStr (k + j) := ⟨_, rfl⟩
      rw [← hS] at k1
      have HS := Lib.hid hS; clear hS
      have Bw : Below wr.heap.size wr wr.drew := (Below.refl _ _).drew
      have hz : wr.heap.size ≤ wr.drew.heap.size := by simp
      go_wp2_with fail
      refine wp_region_held_drew (S := (fun w' => w'.cell? ⟨b, off + j, none⟩ = some (.string S))) (by kernel_rfl) ?_ (fun hHeld => ?_)
      · (try dsimp only); go_keep
      refine wpAnyH_take (i := 0) (oi := { dst := some 12, op := Go.Op.move (Go.Operand.tmp 0), type := 40, pos := "exact.go:127", after := #[], guard := none }) (v := ?_) rfl (by kernel_rfl) (by kernel_rfl) (by kernel_rfl) (fun _ _ _ h => h) (Or.inl ⟨by rfl, ?_⟩) (by assumption) ?_
      rotate_left 1
      · (intro wS hSw; (try dsimp only at hSw); go_simp; (all_goals with_reducible rfl))
      simp only [Act.put, List.setIfInBounds_toArray, List.set_cons_zero, List.set_cons_succ]
      refine wpAnyH_take (i := 1) (oi := { dst := some 13, op := Go.Op.move (Go.Operand.tmp 5), type := 3, pos := "exact.go:127", after := #[], guard := none }) (v := ?_) rfl (by kernel_rfl) (by kernel_rfl) (by kernel_rfl) (fun _ _ _ h => h) (Or.inl ⟨by rfl, ?_⟩) (by assumption) ?_
      rotate_left 1
      · (intro wS hSw; (try dsimp only at hSw); go_simp; (all_goals with_reducible rfl))
      simp only [Act.put, List.setIfInBounds_toArray, List.set_cons_zero, List.set_cons_succ]
      refine wpAnyH_take (i := 2) (oi := { dst := some 14, op := Go.Op.indexAddr 40 (Go.Operand.tmp 12) (Go.Operand.tmp 13), type := 0, pos := "exact.go:127", after := #[{ on := 0, ground := Go.Ground.data }, { on := 1, ground := Go.Ground.data }], guard := none }) (v := ?_) rfl (by kernel_rfl) (by kernel_rfl) (by kernel_rfl) (fun _ _ _ h => h) (Or.inl ⟨by rfl, ?_⟩) (by assumption) ?_
      rotate_left 1
      · (intro wS hSw; (try dsimp only at hSw); go_simp; (all_goals with_reducible rfl))
      simp only [Act.put, List.setIfInBounds_toArray, List.set_cons_zero, List.set_cons_succ]
      refine wpAnyH_take (i := 3) (oi := { dst := some 15, op := Go.Op.load 9 (Go.Operand.tmp 14), type := 9, pos := "exact.go:127", after := #[{ on := 2, ground := Go.Ground.data }], guard := none }) (v := ?_) rfl (by kernel_rfl) (by kernel_rfl) (by kernel_rfl) (fun _ _ _ h => h) (Or.inl ⟨by rfl, ?_⟩) (by assumption) ?_
      rotate_left 1
      · (intro wS hSw; (try dsimp only at hSw); go_simp; (all_goals with_reducible rfl))
      simp only [Act.put, List.setIfInBounds_toArray, List.set_cons_zero, List.set_cons_succ]
      refine wpAnyH_take (i := 4) (oi := { dst := some 16, op := Go.Op.move (Go.Operand.tmp 1), type := 3, pos := "exact.go:127", after := #[], guard := none }) (v := ?_) rfl (by kernel_rfl) (by kernel_rfl) (by kernel_rfl) (fun _ _ _ h => h) (Or.inl ⟨by rfl, ?_⟩) (by assumption) ?_
      rotate_left 1
      · (intro wS hSw; (try dsimp only at hSw); go_simp; (all_goals with_reducible rfl))
      simp only [Act.put, List.setIfInBounds_toArray, List.set_cons_zero, List.set_cons_succ]
      refine wpAnyH_ready (rs := [5]) (by kernel_rfl) (by simp) ?_
      refine AllReadyH.cons (o := { dst := some 17, op := Go.Op.call { callee := Go.Callee.value (Go.Operand.func 111), args := #[Go.Operand.tmp 16], argTypes := #[3] }, type := 9, pos := "exact.go:127", after := #[{ on := 4, ground := Go.Ground.data }], guard := none }) rfl (fun K hK => ?_) AllReadyH.nil
      go_simp
      (go_at_call 111; go_must (refine (markText_any (k + j) _ (by omega) (by omega)).mono ?_; rintro e wX ⟨rfl, hbX⟩; rw [← HS.out]; obtain ⟨hcX, hfX, hzX⟩ := bkn hbX wr.heap.size hz; have hz := hzX; have Bw := Bw.tr hbX); (try go_wp2_with fail))
      refine hK.out _ _ ?_ (fun hHeld => ?_)
      · (try dsimp only); go_keep
      clear hK K
      (try simp only [Act.put, List.setIfInBounds_toArray, List.set_cons_zero, List.set_cons_succ])
      refine wpAnyH_take (i := 6) (oi := { dst := some 18, op := Go.Op.binOp Go.BinOp.neq 9 (Go.Operand.tmp 15) (Go.Operand.tmp 17) 9, type := 4, pos := "exact.go:127", after := #[{ on := 3, ground := Go.Ground.data }, { on := 5, ground := Go.Ground.data }], guard := none }) (v := ?_) rfl (by kernel_rfl) (by kernel_rfl) (by kernel_rfl) (fun _ _ _ h => h) (Or.inl ⟨by rfl, ?_⟩) (by assumption) ?_
      rotate_left 1
      · (intro wS hSw; (try dsimp only at hSw); go_simp; (all_goals with_reducible rfl))
      simp only [Act.put, List.setIfInBounds_toArray, List.set_cons_zero, List.set_cons_succ]
      refine wpAnyH_done (by kernel_rfl) ?_ _
      go_wp2
      go_roundw
      case rel => exact ⟨j + 1, by omega, by go_num, by go_num, hbel.tr Bw⟩
      case measure => simp [intOf]; omega
    · go_wp2
      go_ret
      obtain rfl : j = n := by omega
      exact ⟨rfl, hbel⟩
end Go.Proofs.Ytkbndchgmokabaa
