/- A slice without its head, as a step of a walk: it reads as the list without its head. Plain lemmas; no conditions. -/
import Derived.Test.YtkbndchgmokabaaWords
namespace Go.Proofs.Ytkbndchgmokabaa
open Go.RowKit
set_option linter.unusedVariables false

theorem Rd.tailA {α : Type} {size : Nat} {R : World → List Value → α → Prop} {w : World} {A : Option Addr} {n c : Nat} {l : List α} (h : Rd size R w (.slice A n c) l) {j : Nat} (hj : j ≤ n) : ∃ A' c', sliced A j n c size = .slice A' (n - j) c' ∧ Rd size R w (.slice A' (n - j) c') (l.drop j) := by
  obtain ⟨A0, c', e, h1, h2, h3⟩ := h
  injection e with e1 e2 e3
  subst e1 e2 e3
  refine ⟨_, _, rfl, _, _, by rw [List.length_drop], by simp; omega, by omega, fun hn => ?_⟩
  simp only [List.length_drop] at hn
  obtain ⟨b, off, rfl, hb, hc⟩ := h3 (by omega)
  refine ⟨b, off + j * size, ?_, hb, fun i x hx => ?_⟩
  · rw [if_neg (by omega)]
    simp only [Option.map_some]
    unfold Addr.add
    split
    · simp_all
    · simp
  · rw [List.getElem?_drop] at hx
    obtain ⟨cs, k1, k2, k3⟩ := hc _ x hx
    refine ⟨cs, k1, k2, ?_⟩
    rw [show off + j * size + i * size = off + (j + i) * size by rw [Nat.add_mul]; omega]
    exact k3

theorem wpList_tail {P : Program} {ops : Array Oper} {rest : List Oper} {o : Oper} {a : Act} {Q : Exit → Act → World → Prop} {α : Type} {t E : TypeId} {z : Value} {size bytes : Nat} (R : Row P t E z size bytes)
    {RR : World → List Value → α → Prop} {w : World} {A : Option Addr} {n c : Nat} {l : List α} (h : Rd size RR w (.slice A n c) l) (j : Nat) (hj : j ≤ n) {J : Int} (hJ : J = j)
    (hgd : o.guard = none) (s x : Operand) (hop : o.op = Op.slice t s (some x) none none) (hs : a.eval s = .slice A n c) (hx : a.eval x = .int .i64 J)
    (hK : ∀ A' c', Rd size RR w (.slice A' (n - j) c') (l.drop j) → wpList P ops Q rest (a.put o.dst (.slice A' (n - j) c')) w) :
    wpList P ops Q (o :: rest) a w := by
  subst hJ
  obtain ⟨ht, hinfo, hzs, hsz⟩ := R
  obtain ⟨i0, hi, hz0, hz1, hz2⟩ := info_parts hinfo
  obtain ⟨A', c', e, hr⟩ := h.tailA hj
  have he : P.elem t = E := by simp [Program.elem, ht]
  have ht' : P.underlying t = some (.slice (P.elem t)) := by rw [he]; exact ht
  have hrun : (Instr.sliceAt t (.slice A n c) (some (.int .i64 j)) none none).run P w = .ok (.slice A' (n - j) c') w := by
    rw [run_sliceAt_slice w t _ _ _ _ ht', run_slice_l w t A n c ht' .i64 j (by omega) (by omega), he, ← e]
    simp [sizeOf, typeInfo, hi, hz1, Result.andThen]
  refine wpList_plain hgd fun K hK' => ?_
  unfold Oper.wp
  simp [execOp, hop, hs, hx, hrun, Result.andThen]
  exact hK' _ _ (hK A' c' hr)
end Go.Proofs.Ytkbndchgmokabaa
