/- The builtin copy, elements of any size: the elements of a list of the call's own moved one place on. Plain laws of the model's operations. -/
import Derived.Test.YtkbndchgmokabaaWords
import Derived.Test.YtkbndchgmokabaaTails
import Derived.Laws.CopyOwn
namespace Go.Proofs.Ytkbndchgmokabaa
open Go.RowKit
set_option linter.unusedVariables false

theorem flat_take {α : Type} {enc : α → List Value} {size : Nat} (henc : ∀ x, (enc x).length = size) : ∀ (l : List α) (j : Nat), (l.flatMap enc).take (j * size) = (l.take j).flatMap enc
  | [], j => by simp
  | x :: r, 0 => by simp
  | x :: r, j + 1 => by
    rw [List.flatMap_cons, List.take_succ_cons, List.flatMap_cons, List.take_append, henc, List.take_of_length_le (by rw [henc, Nat.add_mul]; omega), show (j + 1) * size - size = j * size by rw [Nat.add_mul]; omega, flat_take henc r j]
theorem flat_drop {α : Type} {enc : α → List Value} {size : Nat} (henc : ∀ x, (enc x).length = size) : ∀ (l : List α) (j : Nat), (l.flatMap enc).drop (j * size) = (l.drop j).flatMap enc
  | [], j => by simp
  | x :: r, 0 => by simp
  | x :: r, j + 1 => by
    rw [List.flatMap_cons, List.drop_succ_cons, List.drop_append, henc, List.drop_of_length_le (by rw [henc, Nat.add_mul]; omega), show (j + 1) * size - size = j * size by rw [Nat.add_mul]; omega, flat_drop henc r j, List.nil_append]

theorem addr_add (g o j : Nat) : (⟨g, o, none⟩ : Addr).add j = ⟨g, o + j, none⟩ := by unfold Addr.add; split <;> simp_all
section
variable (P : Program)
theorem run_copy_rowS (w : World) (dT sT ty elem : TypeId) (g o dLen dCap : Nat) (a : Addr) (sLen sCap : Nat) (cur : Array Value) (t : TypeId) (cs : List Value) (s n : Nat)
    (hu : P.underlying dT = some (.slice elem)) (hs : (P.info? elem).map (·.size) = some s)
    (hg : w.heap[g]? = some (.cells cur t (0, 0))) (hn : n = Nat.min sLen dLen) (hc : cs.length = n * s)
    (hsrc : ∀ j v, cs[j]? = some v → w.cell? (a.add j) = some v) (hfit : o + cs.length ≤ cur.size) (h1 : ∀ v ∈ cs, v.oneCell' = true) :
    (Builtin.copy_ #[dT, sT] ty #[.slice (some ⟨g, o, none⟩) dLen dCap, .slice (some a) sLen sCap]).run P w =
      .ok (goInt n) (w.setRow g (cur.toList.take o ++ cs ++ cur.toList.drop (o + cs.length)).toArray) := by
  have hl := run_loadCells_list (P := P) w a cs hsrc
  rw [hc] at hl
  have hst := run_storeCells_at P g o t cs 0 cur w hg (by simpa using hfit) h1
  cases hq : P.info? elem with
  | none => simp [hq] at hs
  | some i =>
    have hi : i.size = s := by simpa [hq] using hs
    simp [Builtin.copy_, run_underlying hu, Builtin.lenOf, Builtin.firstCells, sizeOf, typeInfo, hq, hi, ← hn, hl, hst]
theorem run_copy_0 (w : World) (dT sT ty elem : TypeId) (dp sp : Option Addr) (dLen dCap sLen sCap : Nat) (hu : P.underlying dT = some (.slice elem)) (hs : ((P.info? elem).map (·.size)).isSome = true) (hn : Nat.min sLen dLen = 0) :
    (Builtin.copy_ #[dT, sT] ty #[.slice dp dLen dCap, .slice sp sLen sCap]).run P w = .ok (goInt 0) w := by
  cases hq : P.info? elem with
  | none => simp [hq] at hs
  | some i =>
    cases dp <;> cases sp <;> simp [Builtin.copy_, run_underlying hu, Builtin.lenOf, Builtin.firstCells, sizeOf, typeInfo, hq, hn, loadCells, loadCellsFrom, storeCells]
end
/-- 'copy(out[k+1:], out[k:])', out a list of the call's own with one element more at its end. -/
theorem step_shift {P : Program} {ops : Array Oper} {o : Oper} {a : Act} {w : World} {K : Act → World → Prop} {Q : Exit → Act → World → Prop} {E' : Prop} {α : Type} {t E : TypeId} {z : Value} {size bytes : Nat} (R : Row P t E z size bytes)
    {enc : α → List Value} (henc : ∀ x, (enc x).length = size) (h1 : ∀ x, ∀ u ∈ enc x, u.oneCell' = true) {B g c : Nat} {l : List α} {zz : α} (hown : OwnL E size enc B w (.slice (some ⟨g, 0, none⟩) (l.length + 1) c) (l ++ [zz]))
    (k : Nat) (hk : k ≤ l.length) (hgd : o.guard = none) (d s : Operand) (ho : o.op = .call { callee := .builtin .copy, args := #[d, s], argTypes := #[t, t] }) (dp sp : Option Addr) (dLen dCap sLen sCap : Nat)
    (hd : a.eval d = .slice dp dLen dCap) (hs : a.eval s = .slice sp sLen sCap) (hdl : dLen = l.length - k) (hsl : sLen = l.length + 1 - k) (hdp : k < l.length → dp = some ⟨g, (k + 1) * size, none⟩) (hsp : k < l.length → sp = some ⟨g, k * size, none⟩)
    (h : ∀ w', OwnL E size enc B w' (.slice (some ⟨g, 0, none⟩) (l.length + 1) c) ((l ++ [zz]).take (k + 1) ++ l.drop k) → w.grownBy w' (some g) → K (a.put o.dst (goInt ((l.length - k : Nat) : Int))) w') :
    if Region.wanted o (yielded ops a.tmps) = true then Oper.wp P o a w K Q else E' := by
  have hw : Region.wanted o (yielded ops a.tmps) = true := by simp [Region.wanted, hgd]
  rw [if_pos hw]
  obtain ⟨ht, hinfo, hzs, hsz⟩ := R
  obtain ⟨i0, hi, hz0, hz1, hz2⟩ := info_parts hinfo
  have hsome : ((P.info? E).map (·.size)) = some size := by rw [hi]; simp [hz1]
  subst hdl; subst hsl
  by_cases hkn : k < l.length
  · obtain rfl := hdp hkn
    obtain rfl := hsp hkn
    rcases hown.2 with ⟨e, _⟩ | ⟨g', cap, cur, e, hB, hg, hcap, hmax, hsize, htake⟩
    · injection e with e1; cases e1
    · injection e with e1 e2 e3
      injection e1 with e1; injection e1 with e1 _ _
      subst e1 e3
      have hlen : ((l ++ [zz]).flatMap enc).length = (l.length + 1) * size := by rw [flat_len henc]; simp
      have hcs : ((l.drop k).flatMap enc).length = (l.length - k) * size := by rw [flat_len henc]; simp
      have hll : (l ++ [zz]).length = l.length + 1 := by simp
      rw [hll] at htake hcap
      have hms : (k + 1) * size + (l.length - k) * size = (l.length + 1) * size := by rw [← Nat.add_mul]; congr 1; omega
      have hfit : (k + 1) * size + ((l.drop k).flatMap enc).length ≤ cur.size := by
        rw [hcs, hms, hsize]; exact Nat.mul_le_mul_right _ hcap
      have hcell : ∀ j v, ((l.drop k).flatMap enc)[j]? = some v → w.cell? ((⟨g, k * size, none⟩ : Addr).add j) = some v := by
        intro j v hv
        rw [addr_add, cell_of_row w g _ cur E (0, 0) hg]
        rw [← flat_drop henc, List.getElem?_drop] at hv
        have hj : k * size + j < (l.flatMap enc).length := (List.getElem?_eq_some_iff.1 hv).1
        rw [flat_len henc] at hj
        have h2 : ((l ++ [zz]).flatMap enc)[k * size + j]? = some v := by rw [List.flatMap_append, List.getElem?_append_left (by rw [flat_len henc]; exact hj)]; exact hv
        rw [← htake, List.getElem?_take_of_lt (by rw [Nat.add_mul]; omega)] at h2
        simpa using h2
      have h1' := one_of h1 (l.drop k)
      have e5 : ((l ++ [zz]).take (k + 1) ++ l.drop k).flatMap enc = ((l ++ [zz]).take (k + 1)).flatMap enc ++ (l.drop k).flatMap enc := List.flatMap_append
      obtain ⟨CS, hCS⟩ : ∃ CS, CS = (l.drop k).flatMap enc := ⟨_, rfl⟩
      rw [← hCS] at hcs hfit hcell h1' e5
      have hrun := run_copy_rowS P w t t o.type E g ((k + 1) * size) (l.length - k) dCap ⟨g, k * size, none⟩ (l.length + 1 - k) sCap cur E CS size (l.length - k) ht hsome hg (by show _ = min _ _; omega) hcs hcell hfit h1'
      unfold Oper.wp
      simp [execOp, ho, resolve, invoke, builtin, hd, hs, hrun, Result.andThen]
      have hm : (goInt ((l.length - k : Nat) : Int)) = goInt (l.length - k : Nat) := rfl
      have e3 : ((l ++ [zz]).take (k + 1) ++ l.drop k).length = l.length + 1 := by simp; omega
      refine h _ ⟨by rw [flat_len henc], .inr ⟨g, c, _, by rw [e3], hB, setRow_heap w g cur _ E (0, 0) hg, by rw [e3]; exact hcap, hmax, ?_, ?_⟩⟩ (by exact ⟨rfl, rfl, rfl, by simp [World.setRow], fun k hk hne => setRow_other w g k _ (fun e => hne (by rw [e]))⟩)
      · have hle : (l.length + 1) * size ≤ c * size := Nat.mul_le_mul_right _ hcap
        simp only [List.size_toArray, List.length_append, List.length_take, List.length_drop, Array.length_toList]
        rw [hcs, hsize]
        omega
      · have hA : cur.toList.take ((k + 1) * size) = ((l ++ [zz]).take (k + 1)).flatMap enc := by
          rw [← flat_take henc, ← htake, List.take_take, Nat.min_eq_left (Nat.mul_le_mul_right _ (by omega))]
        have e4 : (((l ++ [zz]).take (k + 1)).flatMap enc ++ CS).length = (l.length + 1) * size := by rw [← e5, flat_len henc, e3]
        rw [hA, e3, e5, ← List.append_assoc]
        rw [List.take_append_of_le_length (by rw [e4]; exact Nat.le_refl _)]
        exact List.take_of_length_le (by rw [e4]; exact Nat.le_refl _)
  · obtain rfl : k = l.length := by omega
    have hrun := run_copy_0 P w t t o.type E dp sp 0 dCap 1 sCap ht (by rw [hsome]; rfl) (by show min _ _ = _; omega)
    unfold Oper.wp
    simp [execOp, ho, resolve, invoke, builtin, hd, hs, hrun, Result.andThen]
    have e1 : (l ++ [zz]).take (l.length + 1) ++ l.drop l.length = l ++ [zz] := by simp [List.take_of_length_le]
    have h' := h w (by rw [e1]; exact hown) (World.grownBy.refl _ _)
    show K (a.put o.dst (goInt 0)) w
    simpa using h'
end Go.Proofs.Ytkbndchgmokabaa
