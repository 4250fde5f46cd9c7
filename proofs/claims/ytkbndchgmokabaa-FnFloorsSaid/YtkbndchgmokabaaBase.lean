/- Words for memory and for the ends of walks, used by all walks of this seat: what a slice value reads as; what a call leaves. Plain lemmas; no conditions. -/
import Derived.Test.YtkbndchgmokabaaRows
import Derived.WalkKit
import Derived.ProofKit
import Derived.OpenShut
import Derived.ShutString
import Derived.ChangeOld
import Derived.Below
import Derived.Lib.SmallJoins
import Derived.Lib.Hide
import Derived.WalkSpells
import Derived.WalkLawsBesides
namespace Go.Proofs.Ytkbndchgmokabaa
open Go.RowKit
set_option linter.unusedVariables false

/-- A length that the laws let by. -/
def Small (n : Nat) : Prop := n ≤ 1048576
theorem Small.max {n : Nat} (h : Small n) : n ≤ maxLen := by unfold Small at h; unfold maxLen; omega
theorem Small.by8 {n : Nat} (h : Small n) : 8 * n ≤ 281474976710656 := by unfold Small at h; omega
theorem Small.by16 {n : Nat} (h : Small n) : 16 * n ≤ 281474976710656 := by unfold Small at h; omega
theorem Small.by24 {n : Nat} (h : Small n) : 24 * n ≤ 281474976710656 := by unfold Small at h; omega

/-- The call returned v and left the world as it was. -/
def Pure (v : Value) (w : World) (e : Ending) (w' : World) : Prop := e = .returned v ∧ w = w'
/-- The call returned v and wrote nothing that was there. -/
def Ret (v : Value) (w : World) (e : Ending) (w' : World) : Prop := e = .returned v ∧ Below w.heap.size w w'
/-- The call returned a value of which R holds in the world behind it, and wrote nothing that was there. -/
def RetR (R : World → Value → Prop) (w : World) (e : Ending) (w' : World) : Prop := ∃ v, e = .returned v ∧ R w' v ∧ Below w.heap.size w w'

theorem _root_.Go.RowKit.Below.al {a w : World} (h : Below a.heap.size a w) (o : Obj) : Below a.heap.size a (w.alloc o) := h.alloc h.size o
theorem _root_.Go.RowKit.Below.tr {a w w' : World} (h : Below a.heap.size a w) (k : Below w.heap.size w w') : Below a.heap.size a w' := h.trans (k.mono h.size)
theorem _root_.Go.RowKit.Below.st {a w : World} (h : Below a.heap.size a w) (p : Addr) (u : Value) (hp : a.heap.size ≤ p.block) : Below a.heap.size a (w.setCell p u) := h.setCell hp u

theorem eq_step {α : Type} [BEq α] {l m : List α} {k : Nat} (h : k < l.length) (h' : k < m.length) : (l.drop k == m.drop k) = (l[k] == m[k] && l.drop (k + 1) == m.drop (k + 1)) := by
  rw [List.drop_eq_getElem_cons h, List.drop_eq_getElem_cons h']; rfl
theorem eq_go {α : Type} [BEq α] {l m : List α} {k : Nat} {r : Bool} (H : Hid ((l.drop k == m.drop k) = r)) (h : k < l.length) (h' : k < m.length) (e : (l[k] == m[k]) = true) : Hid ((l.drop (k + 1) == m.drop (k + 1)) = r) := by
  have := H.out
  rw [eq_step h h', e, Bool.true_and] at this; exact this
theorem eq_no {α : Type} [BEq α] {l m : List α} {k : Nat} {r : Bool} (H : Hid ((l.drop k == m.drop k) = r)) (h : k < l.length) (h' : k < m.length) (e : (l[k] == m[k]) = false) : r = false := by
  have := H.out
  rw [eq_step h h', e, Bool.false_and] at this; exact this.symm
theorem eq_end {α : Type} [BEq α] {l m : List α} {k : Nat} {r : Bool} (H : Hid ((l.drop k == m.drop k) = r)) (h : l.length ≤ k) (h' : m.length ≤ k) : r = true := by
  have := H.out
  rw [List.drop_of_length_le h, List.drop_of_length_le h'] at this; exact this.symm
theorem retB {a b : Bool} (h : a = b) : Ending.returned (.bool a) = Ending.returned (.bool b) := by rw [h]
theorem retT {a b c d : Int} (h : a = b) (h' : c = d) : Ending.returned (.tuple #[.int .i64 a, .int .i64 c]) = Ending.returned (.tuple #[.int .i64 b, .int .i64 d]) := by rw [h, h']
theorem retI {a b : Int} (h : a = b) : Ending.returned (.int .i64 a) = Ending.returned (.int .i64 b) := by rw [h]
/-- What a call that wrote nothing that was there leaves, as rules for the walk. -/
theorem bk {W w1 : World} (hb : Below W.heap.size W w1) : (∀ b o, b < W.heap.size → w1.cell? ⟨b, o, none⟩ = W.cell? ⟨b, o, none⟩) ∧ (∀ b o, b < W.heap.size → w1.frozen? ⟨b, o, none⟩ = W.frozen? ⟨b, o, none⟩) ∧ W.heap.size ≤ w1.heap.size :=
  ⟨fun b o h => hb.cell (p := ⟨b, o, none⟩) h, fun b o h => hb.frozen (p := ⟨b, o, none⟩) h, hb.size⟩

/-- .. up to a block's number. -/
theorem bkn {W w1 : World} (hb : Below W.heap.size W w1) (n : Nat) (hn : n ≤ W.heap.size) : (∀ b o, b < n → w1.cell? ⟨b, o, none⟩ = W.cell? ⟨b, o, none⟩) ∧ (∀ b o, b < n → w1.frozen? ⟨b, o, none⟩ = W.frozen? ⟨b, o, none⟩) ∧ n ≤ w1.heap.size :=
  ⟨fun b o h => hb.cell (p := ⟨b, o, none⟩) (Nat.lt_of_lt_of_le h hn), fun b o h => hb.frozen (p := ⟨b, o, none⟩) (Nat.lt_of_lt_of_le h hn), Nat.le_trans hn hb.size⟩

/-- The cells of one element, at an address. -/
def CellsAt (w : World) (b off : Nat) (cs : List Value) : Prop := ∀ j u, cs[j]? = some u → w.cell? ⟨b, off + j, none⟩ = some u

/-- The slice value v reads as the list l; each element takes 'size' cells, which read as R says. -/
def Rd {α : Type} (size : Nat) (R : World → List Value → α → Prop) (w : World) (v : Value) (l : List α) : Prop :=
  ∃ A c, v = .slice A l.length c ∧ l.length ≤ c ∧ c ≤ maxLen ∧ (0 < l.length → ∃ b off, A = some ⟨b, off, none⟩ ∧ b < w.heap.size ∧
    ∀ i x, l[i]? = some x → ∃ cs, cs.length = size ∧ R w cs x ∧ CellsAt w b (off + i * size) cs)

/-- R stays true in worlds that keep what was there. -/
def Stays {α : Type} (R : World → List Value → α → Prop) : Prop := ∀ w w' cs x, R w cs x → Below w.heap.size w w' → R w' cs x

theorem CellsAt.below {w w' : World} {b off : Nat} {cs : List Value} (h : CellsAt w b off cs) (hb : b < w.heap.size) (hbel : Below w.heap.size w w') : CellsAt w' b off cs :=
  fun j u hj => (hbel.cell (p := ⟨b, off + j, none⟩) hb).trans (h j u hj)

theorem Rd.below {α : Type} {size : Nat} {R : World → List Value → α → Prop} (hR : Stays R) {w w' : World} {v : Value} {l : List α} (h : Rd size R w v l) (hb : Below w.heap.size w w') : Rd size R w' v l := by
  obtain ⟨A, c, rfl, h1, h2, h3⟩ := h
  refine ⟨A, c, rfl, h1, h2, fun hn => ?_⟩
  obtain ⟨b, off, e, hlt, hc⟩ := h3 hn
  refine ⟨b, off, e, Nat.lt_of_lt_of_le hlt hb.size, fun i x hx => ?_⟩
  obtain ⟨cs, hl, hr, hca⟩ := hc i x hx
  exact ⟨cs, hl, hR _ _ _ _ hr hb, hca.below hlt hb⟩

/-- The cells of an element are a function of it. -/
def RE {α : Type} (enc : α → List Value) (_ : World) (cs : List Value) (x : α) : Prop := cs = enc x
theorem RE.stays {α : Type} {enc : α → List Value} : Stays (RE enc) := fun _ _ _ _ h _ => h
@[reducible] def eInt (x : Int) : List Value := [.int .i64 x]
@[reducible] def eByte (x : Int) : List Value := [.int .u8 x]
@[reducible] def eStr (x : ByteArray) : List Value := [.string x]
@[reducible] def eBool (x : Bool) : List Value := [.bool x]
@[reducible] def ePair (x : Int × Int) : List Value := [.int .i64 x.1, .int .i64 x.2]
@[reducible] def eTrip (x : Int × Int × Int) : List Value := [.int .i64 x.1, .int .i64 x.2.1, .int .i64 x.2.2]
@[reducible] def eQuad (x : Int × Int × Int × Int) : List Value := [.int .i64 x.1, .int .i64 x.2.1, .int .i64 x.2.2.1, .int .i64 x.2.2.2]
@[reducible] def eDom (x : Int × Int × Bool) : List Value := [.int .i64 x.1, .int .i64 x.2.1, .bool x.2.2]
abbrev RInt := RE eInt
abbrev RByte := RE eByte
abbrev RStr := RE eStr
abbrev RBool := RE eBool
abbrev RPair := RE ePair
abbrev RTrip := RE eTrip
abbrev RQuad := RE eQuad
abbrev RDom := RE eDom

theorem Rd.form {α : Type} {size : Nat} {R : World → List Value → α → Prop} {w : World} {v : Value} {l : List α} (h : Rd size R w v l) : ∃ A c, v = .slice A l.length c ∧ l.length ≤ c ∧ l.length ≤ 9223372036854775807 := by
  obtain ⟨A, c, h0, h1, h2, _⟩ := h
  exact ⟨A, c, h0, h1, by unfold maxLen at h2; omega⟩

theorem Rd.at_ {α : Type} {enc : α → List Value} {size : Nat} {w : World} {A : Option Addr} {n c : Nat} {l : List α} (h : Rd size (RE enc) w (.slice A n c) l) {k : Nat} (hk : k < l.length) :
    ∃ b off, A = some ⟨b, off, none⟩ ∧ b < w.heap.size ∧ ∀ j u, (enc l[k])[j]? = some u → w.cell? ⟨b, off + k * size + j, none⟩ = some u := by
  obtain ⟨A', c', e, h1, h2, h3⟩ := h
  injection e with e1 e2 e3
  subst e1
  obtain ⟨b, off, e, hlt, hc⟩ := h3 (by omega)
  obtain ⟨cs, hl, hr, hca⟩ := hc k l[k] (List.getElem?_eq_getElem hk)
  unfold RE at hr
  subst hr
  exact ⟨b, off, e, hlt, fun j u hu => hca j u hu⟩
section
variable {w : World} {A : Option Addr} {n c k : Nat}
theorem Rd.atInt {l : List Int} (h : Rd 1 RInt w (.slice A n c) l) (hk : k < l.length) : ∃ b off, A = some ⟨b, off, none⟩ ∧ b < w.heap.size ∧ w.cell? ⟨b, off + k, none⟩ = some (.int .i64 l[k]) := by
  obtain ⟨b, off, e, hlt, hc⟩ := h.at_ hk
  exact ⟨b, off, e, hlt, by simpa using hc 0 _ rfl⟩
theorem Rd.atByte {l : List Int} (h : Rd 1 RByte w (.slice A n c) l) (hk : k < l.length) : ∃ b off, A = some ⟨b, off, none⟩ ∧ b < w.heap.size ∧ w.cell? ⟨b, off + k, none⟩ = some (.int .u8 l[k]) := by
  obtain ⟨b, off, e, hlt, hc⟩ := h.at_ hk
  exact ⟨b, off, e, hlt, by simpa using hc 0 _ rfl⟩
theorem Rd.atStr {l : List ByteArray} (h : Rd 1 RStr w (.slice A n c) l) (hk : k < l.length) : ∃ b off, A = some ⟨b, off, none⟩ ∧ b < w.heap.size ∧ w.cell? ⟨b, off + k, none⟩ = some (.string l[k]) := by
  obtain ⟨b, off, e, hlt, hc⟩ := h.at_ hk
  exact ⟨b, off, e, hlt, by simpa using hc 0 _ rfl⟩
theorem Rd.atBool {l : List Bool} (h : Rd 1 RBool w (.slice A n c) l) (hk : k < l.length) : ∃ b off, A = some ⟨b, off, none⟩ ∧ b < w.heap.size ∧ w.cell? ⟨b, off + k, none⟩ = some (.bool l[k]) := by
  obtain ⟨b, off, e, hlt, hc⟩ := h.at_ hk
  exact ⟨b, off, e, hlt, by simpa using hc 0 _ rfl⟩
theorem Rd.atPair {l : List (Int × Int)} (h : Rd 2 RPair w (.slice A n c) l) (hk : k < l.length) :
    ∃ b off, A = some ⟨b, off, none⟩ ∧ b < w.heap.size ∧ w.cell? ⟨b, off + k * 2, none⟩ = some (.int .i64 l[k].1) ∧ w.cell? ⟨b, off + k * 2 + 1, none⟩ = some (.int .i64 l[k].2) := by
  obtain ⟨b, off, e, hlt, hc⟩ := h.at_ hk
  exact ⟨b, off, e, hlt, by simpa using hc 0 _ rfl, hc 1 _ rfl⟩
theorem Rd.atTrip {l : List (Int × Int × Int)} (h : Rd 3 RTrip w (.slice A n c) l) (hk : k < l.length) :
    ∃ b off, A = some ⟨b, off, none⟩ ∧ b < w.heap.size ∧ w.cell? ⟨b, off + k * 3, none⟩ = some (.int .i64 l[k].1) ∧ w.cell? ⟨b, off + k * 3 + 1, none⟩ = some (.int .i64 l[k].2.1) ∧ w.cell? ⟨b, off + k * 3 + 2, none⟩ = some (.int .i64 l[k].2.2) := by
  obtain ⟨b, off, e, hlt, hc⟩ := h.at_ hk
  exact ⟨b, off, e, hlt, by simpa using hc 0 _ rfl, hc 1 _ rfl, hc 2 _ rfl⟩
theorem Rd.atDom {l : List (Int × Int × Bool)} (h : Rd 3 RDom w (.slice A n c) l) (hk : k < l.length) :
    ∃ b off, A = some ⟨b, off, none⟩ ∧ b < w.heap.size ∧ w.cell? ⟨b, off + k * 3, none⟩ = some (.int .i64 l[k].1) ∧ w.cell? ⟨b, off + k * 3 + 1, none⟩ = some (.int .i64 l[k].2.1) ∧ w.cell? ⟨b, off + k * 3 + 2, none⟩ = some (.bool l[k].2.2) := by
  obtain ⟨b, off, e, hlt, hc⟩ := h.at_ hk
  exact ⟨b, off, e, hlt, by simpa using hc 0 _ rfl, hc 1 _ rfl, hc 2 _ rfl⟩
end
end Go.Proofs.Ytkbndchgmokabaa
