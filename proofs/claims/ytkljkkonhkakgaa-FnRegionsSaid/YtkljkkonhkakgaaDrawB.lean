/- The boxes that the reference draws: valid ones, one to four kinds. Conditions: the bytes read as a list. -/
import Derived.Test.YtkljkkonhkakgaaDraw
import Derived.Test.YtkljkkonhkakgaaBoxLaws2
namespace Go.Proofs.Ytkljkkonhkakgaa
open Go.ChangeShapes Go.WideShapes Go.ChangeAt Go.RowKit
set_option linter.unusedVariables false

section
variable {α : Type} {E : TypeId} {size : Nat} {enc : α → List Value} {B : Nat} {w w' : World} {v : Value} {l : List α} {g : Nat} {u : Value} {n : Nat}
theorem OwnL.cur (h : OwnL E size enc B w v l) (hc : Cur w g u n) (hne : E ≠ 152) (hg : w.grownBy w' (some g)) : OwnL E size enc B w' v l := by
  obtain ⟨i, x, _, hb⟩ := hc
  exact World.ownsRow.kept h hg (.inr (h.apart hb hne))
theorem Cur.app {row : Option Nat} (hc : Cur w g u n) (o : Obj) (hg : (w.alloc o).grownBy w' row) (hne : row ≠ some g) : Cur w' g u n := by
  obtain ⟨i, x, hi, hb⟩ := hc
  exact ⟨i, x, hi, (hb.alloc o).grown hg (fun e => hne e.symm)⟩
theorem Cur.apart (h : OwnL E size enc B w v l) (hc : Cur w g u n) (hne : E ≠ 152) : v.ownBlock ≠ some g := by
  obtain ⟨i, x, _, hb⟩ := hc
  exact h.apart hb hne
theorem Cur.bl (hc : Cur w g u n) (hb : Below w.heap.size w w') : Cur w' g u n := by
  obtain ⟨i, x, hi, hk⟩ := hc
  exact ⟨i, x, hi, hk.below hb hk.lt⟩
theorem Cur.alloc (hc : Cur w g u n) (o : Obj) : Cur (w.alloc o) g u n := by
  obtain ⟨i, x, hi, hk⟩ := hc
  exact ⟨i, x, hi, hk.alloc o⟩
theorem Cur.drewN (hc : Cur w g u n) (k : Nat) : Cur (w.drewN k) g u n := by
  obtain ⟨i, x, hi, hk⟩ := hc
  exact ⟨i, x, hi, hk.drewN k⟩
end
/-- Boxes as the reference draws them. -/
def SmallBox (x : Int × Int) : Prop := 1 ≤ x.1 ∧ x.1 ≤ 12 ∧ x.1 + 1 ≤ x.2 ∧ x.2 ≤ x.1 + 9
theorem SmallBox.fine {x : Int × Int} (h : SmallBox x) : BoxFine x := by unfold SmallBox at h; unfold BoxFine; omega
def SomeBoxes (W : World) (g : Nat) (u : Value) (n : Nat) (e : Ending) (w' : World) : Prop := ∃ (l : List (Int × Int)) (A : Option Addr) (c : Nat), e = .returned (.slice A l.length c) ∧ OwnL 34 2 ePair W.heap.size w' (.slice A l.length c) l ∧ 1 ≤ l.length ∧ l.length ≤ 4 ∧ (∀ x ∈ l, SmallBox x) ∧ Cur w' g u n ∧ Below W.heap.size W w'

set_option maxRecDepth 100000 in
theorem boxList_any (W : World) (g : Nat) (v : Value) (l : List Int) (w : World) (h : Rd 1 RByte W v l) (Hok : Hid (AllOk (fun x => 0 ≤ x ∧ x ≤ 255) l)) (hg : W.heap.size ≤ g) (hbel : Below W.heap.size W w) (hcur : Cur w g v l.length) :
    Calls Try.prog 93 #[.pointer (some ⟨g, 0, none⟩)] w (SomeBoxes W g v l.length) := by
  go_enter Try.func93, Try.ntmps93
  go_wp2_with fail
  refine (below_any 4 W g v l _ h Hok hg (hbel.al _) (hcur.alloc _) (by decide)).mono ?_
  rintro e w1 ⟨n, rfl, hn, hcur1, hb1, hg1⟩
  have hnn : 0 ≤ n ∧ n ≤ 3 := by unfold InBelow at hn; omega
  obtain ⟨hn0, hn3⟩ := hnn
  clear hn
  have own1 := (own_mt w (E := 34) (size := 2) (enc := ePair) w.heap.size rfl W.heap.size hbel.size).cur (hcur.alloc _) (by decide) hg1
  go_wp2
  go_loopw [3, 5] (fun s3 s5 wr => ∃ (bs : List (Int × Int)) (A : Option Addr) (c : Nat), (bs.length : Int) ≤ 1 + n ∧ s5 = .int .i64 bs.length ∧ s3 = .slice A bs.length c ∧ Hid (∀ x ∈ bs, SmallBox x) ∧ OwnL 34 2 ePair W.heap.size wr (.slice A bs.length c) bs ∧ Cur wr g v l.length ∧ Below W.heap.size W wr) (fun _ i _ => (1 + n).toNat - (intOf i).toNat)
  case atStart => exact ⟨[], _, _, by simp; omega, rfl, rfl, Lib.hid (fun x hx => by cases hx), own1, hcur1, hb1⟩
  case round =>
    obtain ⟨bs, A, c, hk, rfl, rfl, Hb, hown, hc, hbr⟩ := hrel
    clear own1 hcur1 hb1 hg1
    by_cases hlt : (bs.length : Int) < 1 + n
    · go_wp2_with fail
      refine (below_any 12 W g v l _ h Hok hg hbr hc (by decide)).mono ?_
      rintro e w2 ⟨s, rfl, hs, hcur2, hb2, hg2⟩
      have own2 := hown.cur hc (by decide) hg2
      have hss : 0 ≤ s ∧ s ≤ 11 := by unfold InBelow at hs; omega
      obtain ⟨hs0, hs1⟩ := hss
      clear hs
      go_wp2_with fail
      refine (below_any 9 W g v l _ h Hok hg hb2 hcur2 (by decide)).mono ?_
      rintro e w3 ⟨t, rfl, ht, hcur3, hb3, hg3⟩
      have own3 := own2.cur hcur2 (by decide) hg3
      have htt : 0 ≤ t ∧ t ≤ 8 := by unfold InBelow at ht; omega
      obtain ⟨ht0, ht1⟩ := htt
      clear ht
      have H8 : Hid ((bs.length + 1) * 16 ≤ 140737488355328) := Lib.hid (by omega)
      have HM : Hid (bs.length + 1 ≤ maxLen) := Lib.hid (by unfold maxLen; omega)
      have hne := hcur3.apart own3 (by decide)
      go_wp2_with (at_builtin; go_must (refine wpList_app1 (enc := ePair) rowBox lenBox oneBox hb3 own3 (1 + s, 1 + s + 1 + t) H8.out HM.out rfl _ _ rfl rfl rfl ?_); intro v4 w4 own4 hb4 hg4 hd4; obtain ⟨A4, c4, rfl, hc4, hm4⟩ := own4.form)
      have hcur4 := hcur3.app _ hg4 hne
      go_roundw
      case rel => exact ⟨bs ++ [(1 + s, 1 + s + 1 + t)], A4, c4, by simp; omega, by simp, by simp, Lib.hid (fun x hx => (List.mem_append.1 hx).elim (Hb.out x) (fun hx => by rw [List.mem_singleton.1 hx]; unfold SmallBox; simp only; omega)), own4, hcur4, hb4⟩
      case measure => simp [intOf]; omega
    · go_wp2
      go_ret
      exact ⟨bs, A, c, rfl, hown, by omega, by omega, Hb.out, hc, hbr⟩

/-- Valid boxes of the call's own. -/
def DrawnBoxes (w : World) (e : Ending) (w' : World) : Prop := ∃ l : List (Int × Int), 1 ≤ l.length ∧ l.length ≤ 4 ∧ (∀ x ∈ l, SmallBox x) ∧ RetOwn 34 2 ePair l w e w'
theorem drawBoxes_any (v : Value) (l : List Int) (w : World) (h : Rd 1 RByte w v l) (ok : AllOk (fun x => 0 ≤ x ∧ x ≤ 255) l) (hl : l.length ≤ 1048576) :
    Calls Try.prog 16 #[v] w (DrawnBoxes w) := by
  have Hok := Lib.hid ok
  go_enter Try.func16, Try.ntmps16
  go_wp2_with fail
  refine (new_any _ l _ h ok hl).mono ?_
  rintro e w1 ⟨g, rfl, hg, hcur, hb1⟩
  go_wp2_with fail
  refine (boxList_any w g _ l _ h Hok hg hb1 hcur).mono ?_
  rintro e w2 ⟨bs, A, c, rfl, hown, h1, h4, hs, hcur2, hb2⟩
  go_wp2
  go_ret
  exact ⟨bs, h1, h4, hs, A, c, rfl, hown, hb2⟩
end Go.Proofs.Ytkljkkonhkakgaa
