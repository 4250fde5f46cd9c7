/- The flips of the program: the walks. No conditions but sizes. -/
import Derived.Test.YtkbndchgmokabaaFlipPl
import Derived.Test.YtkbndchgmokabaaConvCell
import Derived.Test.YtkbndchgmokabaaReg2
import Derived.IntWalk
import Derived.BigRegion
import Derived.Deep.RegionHeld3
import Derived.Deep.DeepCutAuto
namespace Go.Proofs.Ytkbndchgmokabaa
open Go.ChangeShapes Go.WideShapes Go.ChangeAt Go.RowKit
set_option linter.unusedVariables false
set_option linter.unusedSimpArgs false

set_option maxRecDepth 100000 in
theorem copyDomsI_any (v : Value) (l : List Dm) (w : World) (h : Rd 3 RDom w v l) (hl : Small l.length) : Calls Try.prog 145 #[v] w (RetOwn 73 3 eDom l w) := by
  obtain ⟨A, c, rfl, hc, hm⟩ := h.form
  have h' := h.below RE.stays ((Below.refl _ _).al (.cells #[] 73))
  have hs8 : (0 + l.length) * 24 ≤ 140737488355328 := by unfold Small at hl; omega
  have hsm : 0 + l.length ≤ maxLen := by have := hl.max; omega
  have H8 := Lib.hid hs8; have HM := Lib.hid hsm; clear hs8 hsm
  go_enter Try.func145, Try.ntmps145
  go_wp2_with (at_builtin; go_must (refine wpList_appAll (enc := eDom) rowDom lenDom oneDom (B := w.heap.size) (by simp) (own_empty w) h' H8.out HM.out rfl _ _ rfl rfl rfl ?_); intro v1 w1 own1 hb1 hv1; obtain ⟨A1, c1, rfl⟩ := hv1; simp only [List.nil_append, List.length_nil, Nat.zero_add] at own1)
  go_wp2
  go_ret
  exact ⟨A1, c1, rfl, own1, ((Below.refl _ _).al _).trans hb1⟩
set_option maxHeartbeats 1000000 in
set_option maxRecDepth 100000 in
theorem hasDomI_any (v : Value) (l : List Dm) (x y : Int) (d : Bool) (w : World) (h : Rd 3 RDom w v l) : Calls Try.prog 185 #[v, .agg #[.int .i64 x, .int .i64 y, .bool d]] w (Ret (.bool (l.contains (x, y, d))) w) := by
  obtain ⟨A, c, rfl, hc, hm⟩ := h.form
  have hA := ((Below.refl w.heap.size w).al (.cells #[.int .i64 x, .int .i64 y, .bool d] 73))
  have hx := Blk.new_ w 73 #[.int .i64 x, .int .i64 y, .bool d]
  obtain ⟨R, hR⟩ : ∃ R, R = l.contains (x, y, d) := ⟨_, rfl⟩
  rw [← hR]
  have HR := Lib.hid hR; clear hR
  go_enter Try.func185, Try.ntmps185
  go_wp2
  go_loopw [9] (fun s9 wr => ∃ k : Nat, k ≤ l.length ∧ s9 = .int .i64 k ∧ Hid ((l.drop k).contains (x, y, d) = R) ∧ Below (w.alloc (.cells #[.int .i64 x, .int .i64 y, .bool d] 73)).heap.size (w.alloc (.cells #[.int .i64 x, .int .i64 y, .bool d] 73)) wr) (fun i _ => l.length - (intOf i).toNat)
  case atStart => exact ⟨0, Nat.zero_le _, rfl, Lib.hid HR.out.symm, Below.refl _ _⟩
  case round =>
    obtain ⟨k, hk, rfl, Hg, hbel⟩ := hrel
    have z := hx.bl hbel
    have z0 := z.cell 0
    have z1 := z.cell 1
    have z2 := z.cell 2
    simp only [List.getElem?_toArray, List.getElem?_cons_zero, List.getElem?_cons_succ] at z0 z1 z2
    have hwl := z.lt
    have hne : w.heap.size ≠ wr.heap.size := by omega
    by_cases hlt : k < l.length
    · obtain ⟨b, off, rfl, hb, q1, q2, q3⟩ := ((h.below RE.stays hA).below RE.stays hbel).atDom hlt
      have hg := Hg.out
      rw [List.drop_eq_getElem_cons hlt] at hg
      obtain ⟨e, he⟩ : ∃ e, e = l[k] := ⟨_, rfl⟩
      rw [← he] at q1 q2 q3 hg
      obtain ⟨ex, ey, ed⟩ := e
      simp only at q1 q2 q3
      have Hg2 := Lib.hid hg; clear hg he
      by_cases h1 : x = ex
      · obtain rfl : x = ex := h1
        by_cases h2 : y = ey
        · obtain rfl : y = ey := h2
          by_cases h3 : d = ed
          · obtain rfl : d = ed := h3
            go_wp2
            go_ret
            refine ⟨retB ?_, (hA.tr hbel).al _⟩
            have hg := Hg2.out
            rw [List.contains_cons] at hg
            rw [← hg]; simp
          · skip
            have hg := Hg2.out
            rw [List.contains_cons, show ((x, y, d) == (x, y, ed)) = false by simp [*], Bool.false_or] at hg
            have HG := Lib.hid hg; clear hg
            go_wp2
            go_roundw
            case rel => exact ⟨k + 1, by omega, by go_num, HG, hbel.al _⟩
            case measure => simp [intOf]; omega
        · skip
          have hg := Hg2.out
          rw [List.contains_cons, show ((x, y, d) == (x, ey, ed)) = false by simp [*], Bool.false_or] at hg
          have HG := Lib.hid hg; clear hg
          go_wp2
          go_roundw
          case rel => exact ⟨k + 1, by omega, by go_num, HG, hbel.al _⟩
          case measure => simp [intOf]; omega
      · skip
        have hg := Hg2.out
        rw [List.contains_cons, show ((x, y, d) == (ex, ey, ed)) = false by simp [*], Bool.false_or] at hg
        have HG := Lib.hid hg; clear hg
        go_wp2
        go_roundw
        case rel => exact ⟨k + 1, by omega, by go_num, HG, hbel.al _⟩
        case measure => simp [intOf]; omega
    · obtain rfl : k = l.length := by omega
      have hg := Hg.out
      rw [List.drop_of_length_le (Nat.le_refl _)] at hg
      have hg2 : false = R := by rw [← hg]; rfl
      have HG := Lib.hid hg2; clear hg hg2
      go_wp2
      go_ret
      exact ⟨retB HG.out, hA.tr hbel⟩
theorem gr_row {w : World} {g : Nat} (cs : Array Value) : w.grownBy (w.setRow g cs) (some g) := ⟨rfl, rfl, rfl, by simp [World.setRow], fun k hk hne => setRow_other w g k cs (fun e => hne (by rw [e]))⟩
theorem step_storeRow {P : Program} {ops : Array Oper} {o : Oper} {a : Act} {w : World} {K : Act → World → Prop} {Q : Exit → Act → World → Prop} {E' : Prop} (hgd : o.guard = none) (ty : TypeId) (x y : Operand) (ho : o.op = .store ty x y)
    (g : Nat) (cells : Array Value) (hx : a.eval x = .pointer (some ⟨g, 0, none⟩)) (hy : a.eval y = .agg cells)
    (t : TypeId) (old : Array Value) (hg : Blk w g t old) (hi : (P.info? ty).map (·.size) = some cells.size) (hold : old.size = cells.size) (h1 : cells.all (·.oneCell') = true)
    (h : ∀ w', Blk w' g t cells → w.grownBy w' (some g) → K (a.put o.dst undef) w') :
    if Region.wanted o (yielded ops a.tmps) = true then Oper.wp P o a w K Q else E' := by
  have hw : Region.wanted o (yielded ops a.tmps) = true := by simp [Region.wanted, hgd]
  rw [if_pos hw]
  exact wp_store_row ty x y ho g cells hx hy t old hg hi hold h1 (h _ (setRow_heap w g old cells t (0, 0) hg) (gr_row cells))
end Go.Proofs.Ytkbndchgmokabaa
