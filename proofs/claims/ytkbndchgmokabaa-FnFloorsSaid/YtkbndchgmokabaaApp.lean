/- append to a list of the call's own, in plain and in drawn regions; a slice variable in a box. Plain lemmas; no conditions but sizes. -/
import Derived.Test.YtkbndchgmokabaaWords
import Derived.RegionTactic
import Derived.Deep.AppendLies
namespace Go.Proofs.Ytkbndchgmokabaa
open Go.RowKit
set_option linter.unusedVariables false

/-- A block known whole: a variable in a box. -/
def Blk (w : World) (g : Nat) (t : TypeId) (cs : Array Value) : Prop := w.heap[g]? = some (.cells cs t (0, 0))
section
variable {w w' : World} {g : Nat} {t : TypeId} {cs : Array Value}
theorem Blk.lt (h : Blk w g t cs) : g < w.heap.size := by
  rcases Nat.lt_or_ge g w.heap.size with hlt | hge
  · exact hlt
  · unfold Blk at h; rw [Array.getElem?_eq_none hge] at h; cases h
theorem Blk.cell (h : Blk w g t cs) (i : Nat) : w.cell? ⟨g, i, none⟩ = cs[i]? := cell_of_row w g i cs t (0, 0) h
theorem Blk.frozen (h : Blk w g t cs) (i : Nat) : w.frozen? ⟨g, i, none⟩ = false := by
  unfold Blk at h
  simp [World.frozen?, h]
theorem Blk.new_ (w : World) (t : TypeId) (cs : Array Value) : Blk (w.alloc (.cells cs t)) w.heap.size t cs := heap_alloc_new w _
theorem Blk.drewN (h : Blk w g t cs) (n : Nat) : Blk (w.drewN n) g t cs := h
theorem Blk.alloc (h : Blk w g t cs) (o : Obj) : Blk (w.alloc o) g t cs := (Below.heap_alloc w o g h.lt).trans h
theorem Blk.set_ (h : Blk w g t cs) (i : Nat) (u : Value) : Blk (w.setCell ⟨g, i, none⟩ u) g t (cs.setIfInBounds i u) := by
  unfold Blk at h ⊢
  simp [World.setCell, Array.getElem?_modify, h]
theorem Blk.far (h : Blk w g t cs) {p : Addr} (hp : g ≠ p.block) (u : Value) : Blk (w.setCell p u) g t cs := (Below.heap_setCell w p u g hp).trans h
theorem Blk.below {B : Nat} (h : Blk w g t cs) (hb : Below B w w') (hg : g < B) : Blk w' g t cs := (hb.block g hg).trans h
theorem Blk.grown {row : Option Nat} (h : Blk w g t cs) (hb : w.grownBy w' row) (hg : some g ≠ row) : Blk w' g t cs := (hb.block g h.lt hg).trans h
theorem Blk.c1 {v : Value} (h : Blk w g t #[v]) : w.cell? ⟨g, 0, none⟩ = some v := h.cell 0
end
/-- A list of the call's own and a box of another type share no block. -/
theorem OwnL.apart {α : Type} {E : TypeId} {size : Nat} {enc : α → List Value} {B : Nat} {w : World} {v : Value} {l : List α} {g : Nat} {t : TypeId} {cs : Array Value} (h : OwnL E size enc B w v l) (hb : Blk w g t cs) (hne : E ≠ t) : v.ownBlock ≠ some g := by
  rcases h.2 with ⟨rfl, _⟩ | ⟨g', cap, cur, rfl, _, hh, _⟩
  · simp [Value.ownBlock]
  · intro he
    have : g' = g := by simpa [Value.ownBlock] using he
    subst this
    unfold Blk at hb
    rw [hh] at hb
    injection hb with hb
    injection hb with _ ht
    exact hne ht

theorem Below.app {α : Type} {E : TypeId} {size : Nat} {enc : α → List Value} {B : Nat} {W0 w w' : World} {v : Value} {l : List α} (h : Below W0.heap.size W0 w) (hown : OwnL E size enc B w v l) (hB : W0.heap.size ≤ B) (hg : w.grownBy w' v.ownBlock) : Below W0.heap.size W0 w' :=
  h.grown hg h.size (fun k hk => Nat.le_trans hB (World.ownsRow.lt hown k hk).1)

section
variable {P : Program} {α : Type} {t E : TypeId} {z : Value} {size bytes : Nat} {enc : α → List Value}
theorem wp_appB {o : Oper} {a : Act} {K : Act → World → Prop} {Q : Exit → Act → World → Prop} (R : Row P t E z size bytes)
    (henc : ∀ x, (enc x).length = size) (h1 : ∀ x, ∀ u ∈ enc x, u.oneCell' = true)
    {B : Nat} {wa : World} (w : World) (hB : B ≤ w.heap.size) {v : Value} {l : List α} (hown : OwnL E size enc B w v l) (y : α) (hwa : wa = w.alloc (.cells (enc y).toArray E))
    (hlen : (l.length + 1) * bytes ≤ 140737488355328) (hlen2 : l.length + 1 ≤ maxLen)
    (s x : Operand) (ho : o.op = .call { callee := .builtin .append, args := #[s, x], argTypes := #[t, t] })
    (hs : a.eval s = v) (hx : a.eval x = .slice (some ⟨w.heap.size, 0, none⟩) 1 1)
    (h : ∀ v' w', OwnL E size enc B w' v' (l ++ [y]) → w.grownBy w' v.ownBlock → (∃ A c, v' = .slice A (l.length + 1) c) → K (a.put o.dst v') w') :
    o.wp P a wa K Q := by
  subst hwa
  obtain ⟨ht, hinfo, hzs, hsz⟩ := R
  obtain ⟨i0, hi, hz0, hz1, hz2⟩ := info_parts hinfo
  obtain ⟨v', w', hrun, h2, h3, _, h5⟩ := run_append_own_at (P := P) (w.alloc (.cells (enc y).toArray E)) B t o.type E i0 z size bytes ht hi hz0 hz1 hz2 hzs hsz v l.length (l.flatMap enc) (World.ownsRow.alloc hown _)
    ⟨w.heap.size, 0, none⟩ 1 1 (enc y) (by rw [henc]; omega) (fun j u hj => by
      have hb := World.ownsRow.cells (w := w.alloc (.cells (enc y).toArray E)) (base := 0) (e := E) (size := size) (v := .slice (some ⟨w.heap.size, 0, none⟩) 1 1) (n := 1) (xs := enc y)
        ⟨by rw [henc]; omega, .inr ⟨w.heap.size, 1, (enc y).toArray, rfl, by omega, heap_alloc_new w _, by omega, by simp [maxLen], by simp [henc], by simp [henc, List.take_of_length_le]⟩⟩ (g := w.heap.size) rfl
      exact hb j u hj) (h1 y) hlen2 hlen (by simp; omega)
  unfold Oper.wp execOp
  simp only [ho, resolve, invoke, builtin, Sem.run_bind, Sem.run_pure, Result.andThen_ok, List.map_toArray, List.map_cons, List.map_nil, hs, hx, hrun]
  have hO : OwnL E size enc B w' v' (l ++ [y]) := by
    unfold OwnL
    rw [List.length_append, List.flatMap_append, List.length_singleton]
    simpa using h2
  refine h v' w' hO ?_ ?_
  · refine ⟨h3.os, h3.tape, h3.output, Nat.le_trans (by simp) h3.size, fun k hk hne => (h3.block k (by simp; omega) hne).trans (Below.heap_alloc w _ k hk)⟩
  · obtain ⟨A, c, e, _⟩ := hO.form
    exact ⟨A, c, by rw [e, List.length_append]; rfl⟩

theorem wpList_appB {ops : Array Oper} {rest : List Oper} {o : Oper} {a : Act} {Q : Exit → Act → World → Prop} (R : Row P t E z size bytes)
    (henc : ∀ x, (enc x).length = size) (h1 : ∀ x, ∀ u ∈ enc x, u.oneCell' = true)
    {B : Nat} {wa : World} (w : World) (hB : B ≤ w.heap.size) {v : Value} {l : List α} (hown : OwnL E size enc B w v l) (y : α) (hwa : wa = w.alloc (.cells (enc y).toArray E))
    (hlen : (l.length + 1) * bytes ≤ 140737488355328) (hlen2 : l.length + 1 ≤ maxLen) (hgd : o.guard = none)
    (s x : Operand) (ho : o.op = .call { callee := .builtin .append, args := #[s, x], argTypes := #[t, t] })
    (hs : a.eval s = v) (hx : a.eval x = .slice (some ⟨w.heap.size, 0, none⟩) 1 1)
    (h : ∀ v' w', OwnL E size enc B w' v' (l ++ [y]) → w.grownBy w' v.ownBlock → (∃ A c, v' = .slice A (l.length + 1) c) → wpList P ops Q rest (a.put o.dst v') w') :
    wpList P ops Q (o :: rest) a wa :=
  wpList_plain hgd fun _ hK => wp_appB R henc h1 w hB hown y hwa hlen hlen2 s x ho hs hx fun v' w' k1 k2 k3 => hK _ _ (h v' w' k1 k2 k3)

theorem step_appB {ops : Array Oper} {o : Oper} {a : Act} {K : Act → World → Prop} {Q : Exit → Act → World → Prop} {E' : Prop} (R : Row P t E z size bytes)
    (henc : ∀ x, (enc x).length = size) (h1 : ∀ x, ∀ u ∈ enc x, u.oneCell' = true)
    {B : Nat} {wa : World} (w : World) (hB : B ≤ w.heap.size) {v : Value} {l : List α} (hown : OwnL E size enc B w v l) (y : α) (hwa : wa = w.alloc (.cells (enc y).toArray E))
    (hlen : (l.length + 1) * bytes ≤ 140737488355328) (hlen2 : l.length + 1 ≤ maxLen) (hgd : o.guard = none)
    (s x : Operand) (ho : o.op = .call { callee := .builtin .append, args := #[s, x], argTypes := #[t, t] })
    (hs : a.eval s = v) (hx : a.eval x = .slice (some ⟨w.heap.size, 0, none⟩) 1 1)
    (h : ∀ v' w', OwnL E size enc B w' v' (l ++ [y]) → w.grownBy w' v.ownBlock → (∃ A c, v' = .slice A (l.length + 1) c) → K (a.put o.dst v') w') :
    if Region.wanted o (yielded ops a.tmps) = true then Oper.wp P o a wa K Q else E' := by
  have hw : Region.wanted o (yielded ops a.tmps) = true := by simp [Region.wanted, hgd]
  rw [if_pos hw]
  exact wp_appB R henc h1 w hB hown y hwa hlen hlen2 s x ho hs hx h
end

theorem flat_inv {α : Type} {enc : α → List Value} {size : Nat} (henc : ∀ x, (enc x).length = size) : ∀ (l : List α) (j : Nat) (u : Value), (l.flatMap enc)[j]? = some u → ∃ i x r, l[i]? = some x ∧ (enc x)[r]? = some u ∧ j = i * size + r := by
  intro l
  induction l with
  | nil => intro j u h; simp at h
  | cons y l ih =>
    intro j u h
    rw [List.flatMap_cons] at h
    by_cases hj : j < size
    · rw [List.getElem?_append_left (by rw [henc]; exact hj)] at h
      exact ⟨0, y, j, rfl, h, by omega⟩
    · rw [List.getElem?_append_right (by rw [henc]; omega), henc] at h
      obtain ⟨i, x, r, h1, h2, h3⟩ := ih _ _ h
      exact ⟨i + 1, x, r, by simpa using h1, h2, by rw [Nat.add_mul]; omega⟩

/-- A copy: append of all elements of a list to an empty one. -/
theorem wpList_appAll {P : Program} {ops : Array Oper} {rest : List Oper} {o : Oper} {a : Act} {Q : Exit → Act → World → Prop} {α : Type} {t E : TypeId} {z : Value} {size bytes : Nat} (R : Row P t E z size bytes)
    {enc : α → List Value} (henc : ∀ x, (enc x).length = size) (h1 : ∀ x, ∀ u ∈ enc x, u.oneCell' = true)
    {B : Nat} {w : World} (hB : B ≤ w.heap.size) {v : Value} {l : List α} (hown : OwnL E size enc B w v l) {A : Option Addr} {c : Nat} {m : List α} (hm : Rd size (RE enc) w (.slice A m.length c) m)
    (hlen : (l.length + m.length) * bytes ≤ 140737488355328) (hlen2 : l.length + m.length ≤ maxLen) (hgd : o.guard = none)
    (s x : Operand) (ho : o.op = .call { callee := .builtin .append, args := #[s, x], argTypes := #[t, t] })
    (hs : a.eval s = v) (hx : a.eval x = .slice A m.length c)
    (h : ∀ v' w', OwnL E size enc B w' v' (l ++ m) → Below B w w' → (∃ A' c', v' = .slice A' (l.length + m.length) c') → wpList P ops Q rest (a.put o.dst v') w') :
    wpList P ops Q (o :: rest) a w := by
  obtain ⟨ht, hinfo, hzs, hsz⟩ := R
  obtain ⟨i0, hi, hz0, hz1, hz2⟩ := info_parts hinfo
  have key : ∃ v' w', (Builtin.append_ #[t, t] o.type #[v, .slice A m.length c]).run P w = .ok v' w' ∧ OwnL E size enc B w' v' (l ++ m) ∧ Below B w w' := by
    by_cases hA : A = none
    · subst hA
      have hm0 : m = [] := by
        obtain ⟨A', c', e, _, _, h3⟩ := hm
        injection e with e1 e2 e3
        rcases Nat.eq_zero_or_pos m.length with h0 | h0
        · exact List.eq_nil_of_length_eq_zero h0
        · obtain ⟨b, off, e4, _⟩ := h3 h0
          rw [e4] at e1; cases e1
      subst hm0
      refine ⟨v, w, ?_, by simpa using hown, Below.refl _ _⟩
      rcases hown.2 with ⟨rfl, hn⟩ | ⟨g, cap, cur, rfl, _, _, hnc, _⟩
      · simp [Builtin.append_, run_underlying ht, sizeOf, typeInfo, hi, Builtin.lenOf, Builtin.firstCells]
      · simp [Builtin.append_, run_underlying ht, sizeOf, typeInfo, hi, Builtin.lenOf, Builtin.firstCells, hnc, storeCells]
    · obtain ⟨ad, rfl⟩ : ∃ ad, A = some ad := by cases A with
        | none => exact absurd rfl hA
        | some ad => exact ⟨ad, rfl⟩
      have hcells : ∀ j u, (m.flatMap enc)[j]? = some u → w.cell? (ad.add j) = some u := by
        intro j u hj
        obtain ⟨i, x, r, k1, k2, k3⟩ := flat_inv henc m j u hj
        have hi' : i < m.length := (List.getElem?_eq_some_iff.1 k1).1
        obtain ⟨b, off, e, _, hc⟩ := hm.at_ hi'
        injection e with e; subst e
        have hx : m[i] = x := by rw [List.getElem?_eq_getElem hi'] at k1; injection k1
        have := hc r u (by rw [hx]; exact k2)
        have e : (Addr.mk b off none).add j = ⟨b, off + i * size + r, none⟩ := by
          unfold Addr.add; split
          · simp_all
          · simp [k3, Nat.add_assoc]
        rw [e]; exact this
      obtain ⟨v', w', hrun, h2, h3, _, h5⟩ := run_append_own_at (P := P) w B t o.type E i0 z size bytes ht hi hz0 hz1 hz2 hzs hsz v l.length (l.flatMap enc) hown
        ad m.length c (m.flatMap enc) (flat_len henc m) hcells (one_of h1 m) hlen2 hlen hB
      refine ⟨v', w', hrun, ?_, (Below.refl _ _).grown h3 hB (fun k hk => (World.ownsRow.lt hown k hk).1)⟩
      unfold OwnL
      rw [List.length_append, List.flatMap_append]
      exact h2
  obtain ⟨v', w', hrun, hO, hb⟩ := key
  refine wpList_plain hgd fun _ hK => ?_
  unfold Oper.wp execOp
  simp only [ho, resolve, invoke, builtin, Sem.run_bind, Sem.run_pure, Result.andThen_ok, List.map_toArray, List.map_cons, List.map_nil, hs, hx, hrun]
  refine hK _ _ (h v' w' hO hb ?_)
  obtain ⟨A', c', e, _⟩ := hO.form
  exact ⟨A', c', by rw [e, List.length_append]⟩
end Go.Proofs.Ytkbndchgmokabaa
