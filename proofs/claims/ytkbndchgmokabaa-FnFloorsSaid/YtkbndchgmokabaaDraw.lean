/- The reference's drawing of numbers from bytes: l01New, l01Byte, l01Below. Conditions: the bytes read as a list; numbers are ints. -/
import Derived.Test.YtkbndchgmokabaaApp
import Derived.IntWalk
import Derived.Laws.BitsLemmas
namespace Go.Proofs.Ytkbndchgmokabaa
open Go.ChangeShapes Go.WideShapes Go.ChangeAt Go.RowKit
set_option linter.unusedVariables false

theorem i64_and255 (n : Int) : bits .and .i64 n 255 = n % 256 := by
  have h127 : (BitVec.ofInt 64 255).toNat = 2 ^ 8 - 1 := by decide
  have key : (BitVec.ofInt 64 n &&& BitVec.ofInt 64 255).toNat = (n % ((2 ^ 64 : Nat) : Int)).toNat % 2 ^ 8 := by
    rw [BitVec.toNat_and, BitVec.toNat_ofInt, h127, Nat.and_two_pow_sub_one_eq_mod]
  show IntKind.i64.wrap ((BitVec.ofInt 64 n &&& BitVec.ofInt 64 255).toNat : Nat) = n % 256
  rw [key, IntKind.wrap_i64]
  omega
theorem i64_and30 (n : Int) : bits .and .i64 n 1073741823 = n % 1073741824 := by
  have h127 : (BitVec.ofInt 64 1073741823).toNat = 2 ^ 30 - 1 := by decide
  have key : (BitVec.ofInt 64 n &&& BitVec.ofInt 64 1073741823).toNat = (n % ((2 ^ 64 : Nat) : Int)).toNat % 2 ^ 30 := by
    rw [BitVec.toNat_and, BitVec.toNat_ofInt, h127, Nat.and_two_pow_sub_one_eq_mod]
  show IntKind.i64.wrap ((BitVec.ofInt 64 n &&& BitVec.ofInt 64 1073741823).toNat : Nat) = n % 1073741824
  rw [key, IntKind.wrap_i64]
  omega

theorem Blk.st {w : World} {g : Nat} {t : TypeId} {cs : Array Value} (h : Blk w g t cs) (i : Nat) (u : Value) (ds : Array Value) (e : cs.setIfInBounds i u = ds) : Blk (w.setCell ⟨g, i, none⟩ u) g t ds := e ▸ h.set_ i u
theorem own_nil (w : World) {E : TypeId} {α : Type} {size : Nat} {enc : α → List Value} {B : Nat} : OwnL E size enc B w (.slice none 0 0) ([] : List α) := ⟨by simp, .inl ⟨rfl, rfl⟩⟩
theorem own_mt (w : World) {E : TypeId} {α : Type} {size : Nat} {enc : α → List Value} (g : Nat) (hg : g = w.heap.size) (B : Nat) (hB : B ≤ w.heap.size) : OwnL E size enc B (w.alloc (.cells #[] E)) (.slice (some ⟨g, 0, none⟩) 0 0) ([] : List α) := by
  subst hg
  have := World.ownsRow_lit (e := E) (size := size) w #[] 0 (Nat.le_refl _) (by simp [maxLen]) (by simp)
  exact OwnL.mono (B' := B) this hB
/-- A cursor in block g over the bytes v. -/
def Cur (w : World) (g : Nat) (v : Value) (n : Nat) : Prop := ∃ (i : Nat) (h : Int), i ≤ n ∧ Blk w g 162 #[v, .int .i64 i, .int .i64 h]
/-- What a draw leaves: a number of which P holds, and a cursor that has gone on. -/
def Drawn (W : World) (g : Nat) (v : Value) (n : Nat) (P : Int → Prop) (w : World) (e : Ending) (w' : World) : Prop := ∃ x, e = .returned (.int .i64 x) ∧ P x ∧ Cur w' g v n ∧ Below W.heap.size W w' ∧ w.grownBy w' (some g)
def NewCur (v : Value) (n : Nat) (w : World) (e : Ending) (w' : World) : Prop := ∃ g, e = .returned (.pointer (some ⟨g, 0, none⟩)) ∧ w.heap.size ≤ g ∧ Cur w' g v n ∧ Below w.heap.size w w'
def InByte (x : Int) : Prop := 0 ≤ x ∧ x ≤ 255
def InBelow (n x : Int) : Prop := (n ≤ 0 ∧ x = 0) ∨ (0 ≤ x ∧ x < n)
def IsByte (x : Int) : Prop := 0 ≤ x ∧ x ≤ 255

set_option maxRecDepth 100000 in
theorem new_any (v : Value) (l : List Int) (w : World) (h : Rd 1 RByte w v l) (ok : AllOk (fun x => 0 ≤ x ∧ x ≤ 255) l) (hl : l.length ≤ 1048576) :
    Calls Try.prog 98 #[v] w (NewCur v l.length w) := by
  obtain ⟨A, c, rfl, hc, hm⟩ := h.form
  have Hok := Lib.hid ok; clear ok
  go_enter Try.func98, Try.ntmps98
  go_wp2
  go_loop [3, 4] (fun q i => ∃ (k : Nat) (x : Int), k ≤ l.length ∧ i = .int .i64 k ∧ q = .int .i64 x ∧ 0 ≤ x ∧ x ≤ 1073741823) (fun _ i => l.length - (intOf i).toNat)
  case atStart => exact ⟨0, _, Nat.zero_le _, rfl, rfl, by omega, by omega⟩
  case round =>
    obtain ⟨k, x, hk, rfl, rfl, hx1, hx2⟩ := hrel
    by_cases hlt : k < l.length
    · by_cases h4 : k < 4000
      · have h4I : (k : Int) < 4000 := by omega
        obtain ⟨b, off, rfl, hb, h1⟩ := h.atByte hlt
        have hbyte := Hok.out l[k] (List.getElem_mem hlt)
        have hy1 := hbyte.1
        have hy2 := hbyte.2
        clear hbyte
        obtain ⟨y, hy⟩ : ∃ y, y = l[k] := ⟨_, rfl⟩
        rw [← hy] at h1 hy1 hy2
        have Hy := Lib.hid hy; clear hy
        have e1 := i64_and30 (x * 131 + y + 7)
        go_wp2
        go_round
        case rel => exact ⟨k + 1, (x * 131 + y + 7) % 1073741824, by omega, by go_num, rfl, by omega, by omega⟩
        case measure => simp [intOf]; omega
      · have h4I : ¬ (k : Int) < 4000 := by omega
        go_wp2
        go_ret
        exact ⟨w.heap.size, rfl, Nat.le_refl _, ⟨0, x, Nat.zero_le _, Blk.new_ _ _ _⟩, (Below.refl _ _).al _⟩
    · go_wp2
      go_ret
      exact ⟨w.heap.size, rfl, Nat.le_refl _, ⟨0, x, Nat.zero_le _, Blk.new_ _ _ _⟩, (Below.refl _ _).al _⟩

theorem gr_drewN {w w' : World} {r : Option Nat} (h : w.grownBy w' r) (n : Nat) : w.grownBy (w'.drewN n) r :=
  ⟨h.os, h.tape, h.output, h.size, h.block⟩
set_option maxRecDepth 100000 in
theorem byte_any (W : World) (g : Nat) (v : Value) (l : List Int) (w : World) (h : Rd 1 RByte W v l) (Hok : Hid (AllOk (fun x => 0 ≤ x ∧ x ≤ 255) l)) (hg : W.heap.size ≤ g) (hbel : Below W.heap.size W w) (hcur : Cur w g v l.length) :
    Calls Try.prog 175 #[.pointer (some ⟨g, 0, none⟩)] w (Drawn W g v l.length IsByte w) := by
  obtain ⟨A, c, rfl, hc, hm⟩ := h.form
  obtain ⟨i, hh, hi, hblk⟩ := hcur
  have q0 := hblk.cell 0
  have q1 := hblk.cell 1
  have q2 := hblk.cell 2
  have qf := hblk.frozen
  simp only [List.getElem?_toArray, List.getElem?_cons_zero, List.getElem?_cons_succ] at q0 q1 q2
  go_enter Try.func175, Try.ntmps175
  go_wp2_with fail
  obtain ⟨H, hH⟩ : ∃ H, H = wrap64 (wrap64 (hh * 6364136223846793005) + 1442695040888963407) := ⟨_, rfl⟩
  rw [← hH]
  obtain ⟨W1, hW1⟩ : ∃ W1, W1 = w.setCell ⟨g, 2, none⟩ (.int .i64 H) := ⟨_, rfl⟩
  rw [← hW1]
  have blk1 : Blk W1 g 162 #[.slice A l.length c, .int .i64 i, .int .i64 H] := by rw [hW1]; exact hblk.set_ 2 _
  have gr1 : w.grownBy W1 (some g) := by rw [hW1]; exact gr_set (World.grownBy.refl _ _) _ _
  have B1 : Below W.heap.size W W1 := by rw [hW1]; exact hbel.st _ _ hg
  clear hH hW1 q0 q1 q2 qf hblk
  have q0 := blk1.cell 0
  have q1 := blk1.cell 1
  have q2 := blk1.cell 2
  have qf := blk1.frozen
  simp only [List.getElem?_toArray, List.getElem?_cons_zero, List.getElem?_cons_succ] at q0 q1 q2
  go_quiet (fail)
  go_wp2_with fail
  rw [i64_and255]
  obtain ⟨x, hx⟩ : ∃ x, x = bits .xor .i64 (H / 8589934592) (H / 35184372088832) % 256 := ⟨_, rfl⟩
  have hx0 : 0 ≤ x := by omega
  have hx1 : x ≤ 255 := by omega
  rw [← hx]
  clear hx
  by_cases hlt : i < l.length
  · have hltI : (i : Int) < l.length := by omega
    obtain ⟨b, off, rfl, hb, h1⟩ := (h.below RE.stays B1).atByte hlt
    have hbyte := Hok.out l[i] (List.getElem_mem hlt)
    have hy1 := hbyte.1
    have hy2 := hbyte.2
    clear hbyte
    obtain ⟨y, hy⟩ : ∃ y, y = l[i] := ⟨_, rfl⟩
    rw [← hy] at h1 hy1 hy2
    have Hy := Lib.hid hy; clear hy
    have e1 : IntKind.i64.wrap (x + y) = x + y := IntWalk.i64_in _ (by omega)
    have e2 := i64_and255 (x + y)
    go_quiet (fail)
    go_wp2_with fail
    go_quiet (fail)
    clear e1 e2
    go_wp2
    go_ret
    exact ⟨(x + y) % 256, rfl, ⟨by omega, by omega⟩, ⟨i + 1, H, hlt, (blk1.drewN _).st 1 _ _ (by simp)⟩, ((below_drewN B1 _).st _ _ hg), gr_set (gr_drewN gr1 _) _ _⟩
  · have hltI : ¬ (i : Int) < l.length := by omega
    go_quiet (fail)
    go_wp2
    go_ret
    exact ⟨x, rfl, ⟨hx0, hx1⟩, ⟨i, H, hi, blk1.drewN _⟩, below_drewN B1 _, gr_drewN gr1 _⟩

theorem Drawn.split {W : World} {g : Nat} {v : Value} {n : Nat} {P : Int → Prop} {w : World} {e : Ending} {w' : World} (h : Drawn W g v n P w e w') : ∃ x, e = .returned (.int .i64 x) ∧ P x ∧ Cur w' g v n ∧ Below W.heap.size W w' ∧ w.grownBy w' (some g) := h
theorem gr_trans {w w1 w2 : World} {r : Option Nat} (h : w.grownBy w1 r) (k : w1.grownBy w2 r) : w.grownBy w2 r :=
  ⟨k.os.trans h.os, k.tape.trans h.tape, k.output.trans h.output, Nat.le_trans h.size k.size, fun b hb hne => (k.block b (Nat.lt_of_lt_of_le hb h.size) hne).trans (h.block b hb hne)⟩
set_option maxRecDepth 100000 in
theorem below_any (n : Int) (W : World) (g : Nat) (v : Value) (l : List Int) (w : World) (h : Rd 1 RByte W v l) (Hok : Hid (AllOk (fun x => 0 ≤ x ∧ x ≤ 255) l)) (hg : W.heap.size ≤ g) (hbel : Below W.heap.size W w) (hcur : Cur w g v l.length) (hn : n ≤ 9223372036854775807) :
    Calls Try.prog 157 #[.pointer (some ⟨g, 0, none⟩), .int .i64 n] w (Drawn W g v l.length (InBelow n) w) := by
  have hcw := hcur
  obtain ⟨i, hh, hi, hblk⟩ := hcur
  by_cases h0 : n ≤ 0
  · go_enter Try.func157, Try.ntmps157
    go_wp2
    go_ret
    exact ⟨0, rfl, .inl ⟨h0, rfl⟩, hcw, hbel, World.grownBy.refl _ _⟩
  · by_cases h2 : n ≤ 256
    · go_enter Try.func157, Try.ntmps157
      go_wp2_with fail
      refine (byte_any W g v l _ h Hok hg hbel hcw).mono ?_
      rintro e w1 ⟨x, rfl, ⟨hx0, hx1⟩, hcur1, hb1, hg1⟩
      go_wp2
      go_ret
      exact ⟨x % n, rfl, .inr ⟨Int.emod_nonneg _ (by omega), Int.emod_lt_of_pos _ (by omega)⟩, hcur1, hb1, hg1⟩
    · go_enter Try.func157, Try.ntmps157
      go_wp2_with fail
      refine (byte_any W g v l _ h Hok hg hbel hcw).mono ?_
      rintro e w1 ⟨x, rfl, ⟨hx0, hx1⟩, hcur1, hb1, hg1⟩
      go_wp2_with fail
      refine (byte_any W g v l _ h Hok hg hb1 hcur1).mono ?_
      rintro e w2 ⟨y, rfl, ⟨hy0, hy1⟩, hcur2, hb2, hg2⟩
      go_wp2_with fail
      refine (byte_any W g v l _ h Hok hg hb2 hcur2).mono ?_
      rintro e w3 ⟨z, rfl, ⟨hz0, hz1⟩, hcur3, hb3, hg3⟩
      go_wp2_with fail
      refine (byte_any W g v l _ h Hok hg hb3 hcur3).mono ?_
      rintro e w4 ⟨t, rfl, ⟨ht0, ht1⟩, hcur4, hb4, hg4⟩
      go_wp2
      go_ret
      exact ⟨(x * 16777216 + y * 65536 + z * 256 + t) % n, rfl, .inr ⟨Int.emod_nonneg _ (by omega), Int.emod_lt_of_pos _ (by omega)⟩, hcur4, hb4, gr_trans (gr_trans (gr_trans hg1 hg2) hg3) hg4⟩
end Go.Proofs.Ytkbndchgmokabaa
