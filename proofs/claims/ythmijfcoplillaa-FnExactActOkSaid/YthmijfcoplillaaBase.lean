/- Words for memory and for the ends of walks, used by all walks of this seat: what a slice value reads as; what a call leaves. Plain lemmas; no conditions. -/
import Derived.Test.YthmijfcoplillaaRows
import Derived.WalkKit
import Derived.ProofKit
import Derived.OpenShut
import Derived.ShutString
import Derived.ChangeOld
import Derived.Below
import Derived.Lib.SmallJoins
import Derived.Lib.Hide
import Derived.WalkSpells
import Derived.WalkLawsBesides
namespace Go.Proofs.Ythmijfcoplillaa
open Go.RowKit
set_option linter.unusedVariables false

/-- The call returned v and left the world as it was. -/
def Pure (v : Value) (w : World) (e : Ending) (w' : World) : Prop := e = .returned v ∧ w = w'
/-- The call returned v and wrote nothing that was there. -/
def Ret (v : Value) (w : World) (e : Ending) (w' : World) : Prop := e = .returned v ∧ Below w.heap.size w w'
/-- The call returned a value of which R holds in the world behind it, and wrote nothing that was there. -/
def RetR (R : World → Value → Prop) (w : World) (e : Ending) (w' : World) : Prop := ∃ v, e = .returned v ∧ R w' v ∧ Below w.heap.size w w'

theorem _root_.Go.RowKit.Below.al {a w : World} (h : Below a.heap.size a w) (o : Obj) : Below a.heap.size a (w.alloc o) := h.alloc h.size o
theorem _root_.Go.RowKit.Below.tr {a w w' : World} (h : Below a.heap.size a w) (k : Below w.heap.size w w') : Below a.heap.size a w' := h.trans (k.mono h.size)
theorem _root_.Go.RowKit.Below.st {a w : World} (h : Below a.heap.size a w) (p : Addr) (u : Value) (hp : a.heap.size ≤ p.block) : Below a.heap.size a (w.setCell p u) := h.setCell hp u

/-- What a call that wrote nothing that was there leaves, as rules for the walk. -/
theorem bk {W w1 : World} (hb : Below W.heap.size W w1) : (∀ b o, b < W.heap.size → w1.cell? ⟨b, o, none⟩ = W.cell? ⟨b, o, none⟩) ∧ (∀ b o, b < W.heap.size → w1.frozen? ⟨b, o, none⟩ = W.frozen? ⟨b, o, none⟩) ∧ W.heap.size ≤ w1.heap.size :=
  ⟨fun b o h => hb.cell (p := ⟨b, o, none⟩) h, fun b o h => hb.frozen (p := ⟨b, o, none⟩) h, hb.size⟩

/-- The cells of one element, at an address. -/
def CellsAt (w : World) (b off : Nat) (cs : List Value) : Prop := ∀ j u, cs[j]? = some u → w.cell? ⟨b, off + j, none⟩ = some u

/-- The slice value v reads as the list l; each element takes 'size' cells, which read as R says. -/
def Rd {α : Type} (size : Nat) (R : World → List Value → α → Prop) (w : World) (v : Value) (l : List α) : Prop :=
  ∃ A c, v = .slice A l.length c ∧ l.length ≤ c ∧ c ≤ maxLen ∧ (0 < l.length → ∃ b off, A = some ⟨b, off, none⟩ ∧ b < w.heap.size ∧
    ∀ i x, l[i]? = some x → ∃ cs, cs.length = size ∧ R w cs x ∧ CellsAt w b (off + i * size) cs)

/-- R stays true in worlds that keep what was there. -/
def Stays {α : Type} (R : World → List Value → α → Prop) : Prop := ∀ w w' cs x, R w cs x → Below w.heap.size w w' → R w' cs x

theorem CellsAt.below {w w' : World} {b off : Nat} {cs : List Value} (h : CellsAt w b off cs) (hb : b < w.heap.size) (hbel : Below w.heap.size w w') : CellsAt w' b off cs :=
  fun j u hj => (hbel.cell (p := ⟨b, off + j, none⟩) hb).trans (h j u hj)

theorem Rd.below {α : Type} {size : Nat} {R : World → List Value → α → Prop} (hR : Stays R) {w w' : World} {v : Value} {l : List α} (h : Rd size R w v l) (hb : Below w.heap.size w w') : Rd size R w' v l := by
  obtain ⟨A, c, rfl, h1, h2, h3⟩ := h
  refine ⟨A, c, rfl, h1, h2, fun hn => ?_⟩
  obtain ⟨b, off, e, hlt, hc⟩ := h3 hn
  refine ⟨b, off, e, Nat.lt_of_lt_of_le hlt hb.size, fun i x hx => ?_⟩
  obtain ⟨cs, hl, hr, hca⟩ := hc i x hx
  exact ⟨cs, hl, hR _ _ _ _ hr hb, hca.below hlt hb⟩

/-- An int is its own cell. -/
def RInt (_ : World) (cs : List Value) (x : Int) : Prop := cs = [.int .i64 x]
def RStr (_ : World) (cs : List Value) (x : ByteArray) : Prop := cs = [.string x]
theorem RInt.stays : Stays RInt := fun _ _ _ _ h _ => h
theorem RStr.stays : Stays RStr := fun _ _ _ _ h _ => h
/-- A struct of two ints. -/
def RPair (_ : World) (cs : List Value) (x : Int × Int) : Prop := cs = [.int .i64 x.1, .int .i64 x.2]
theorem RPair.stays : Stays RPair := fun _ _ _ _ h _ => h

theorem Rd.form {α : Type} {size : Nat} {R : World → List Value → α → Prop} {w : World} {v : Value} {l : List α} (h : Rd size R w v l) : ∃ A c, v = .slice A l.length c ∧ l.length ≤ c ∧ l.length ≤ 9223372036854775807 := by
  obtain ⟨A, c, h0, h1, h2, _⟩ := h
  exact ⟨A, c, h0, h1, by unfold maxLen at h2; omega⟩

theorem Rd.atPair {w : World} {A : Option Addr} {n c : Nat} {l : List (Int × Int)} (h : Rd 2 RPair w (.slice A n c) l) {k : Nat} (hk : k < l.length) :
    ∃ b off, A = some ⟨b, off, none⟩ ∧ b < w.heap.size ∧ w.cell? ⟨b, off + k * 2, none⟩ = some (.int .i64 l[k].1) ∧ w.cell? ⟨b, off + k * 2 + 1, none⟩ = some (.int .i64 l[k].2) := by
  obtain ⟨A', c', e, h1, h2, h3⟩ := h
  injection e with e1 e2 e3
  subst e1
  obtain ⟨b, off, e, hlt, hc⟩ := h3 (by omega)
  obtain ⟨cs, hl, hr, hca⟩ := hc k l[k] (List.getElem?_eq_getElem hk)
  unfold RPair at hr
  subst hr
  exact ⟨b, off, e, hlt, hca 0 _ rfl, hca 1 _ rfl⟩
end Go.Proofs.Ythmijfcoplillaa
