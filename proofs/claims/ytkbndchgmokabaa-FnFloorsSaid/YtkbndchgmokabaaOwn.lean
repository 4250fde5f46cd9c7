/- Slices of the call's own: made, appended to, stored into; and what they read as. Plain lemmas; no conditions. -/
import Derived.Test.YtkbndchgmokabaaTypes
import Derived.OwnWalk
import Derived.Maps.AppendAt
import Derived.Deep.AppendLies
namespace Go.Proofs.Ytkbndchgmokabaa
open Go.RowKit
set_option linter.unusedVariables false

/-- The slice value v owns the list l, in blocks from B on. -/
def OwnL {α : Type} (E : TypeId) (size : Nat) (enc : α → List Value) (B : Nat) (w : World) (v : Value) (l : List α) : Prop := w.ownsRow B E size v l.length (l.flatMap enc)

/-- The call returned a slice of its own that holds l, and wrote nothing that was there. -/
def RetOwn {α : Type} (E : TypeId) (size : Nat) (enc : α → List Value) (l : List α) (w : World) (e : Ending) (w' : World) : Prop :=
  ∃ A c, e = .returned (.slice A l.length c) ∧ OwnL E size enc w.heap.size w' (.slice A l.length c) l ∧ Below w.heap.size w w'

/-- m has the length of l and begins as l does, for k elements. -/
def UpTo {α : Type} (k : Nat) (m l : List α) : Prop := m.length = l.length ∧ m.take k = l.take k
theorem UpTo.start {α : Type} (m l : List α) (h : m.length = l.length) : UpTo 0 m l := ⟨h, rfl⟩
theorem UpTo.step {α : Type} {k : Nat} {m l : List α} (h : UpTo k m l) (hk : k < l.length) : UpTo (k + 1) (m.set k l[k]) l := by
  refine ⟨by rw [List.length_set]; exact h.1, ?_⟩
  refine List.ext_getElem? fun i => ?_
  by_cases h1 : i < k + 1
  · rw [List.getElem?_take_of_lt h1, List.getElem?_take_of_lt h1]
    by_cases h2 : i = k
    · subst h2; rw [List.getElem?_set_self (by rw [h.1]; exact hk)]; exact (List.getElem?_eq_getElem hk).symm
    · rw [List.getElem?_set_ne (by omega)]
      have := congrArg (fun x => x[i]?) h.2
      simpa [List.getElem?_take_of_lt (show i < k by omega)] using this
  · rw [List.getElem?_eq_none (by simp; omega), List.getElem?_eq_none (by simp; omega)]
theorem UpTo.done {α : Type} {k : Nat} {m l : List α} (h : UpTo k m l) (hk : l.length ≤ k) : m = l := by
  have := h.2
  rwa [List.take_of_length_le (by rw [h.1]; exact hk), List.take_of_length_le hk] at this

section
variable {α : Type} {E : TypeId} {size : Nat} {enc : α → List Value} {B : Nat} {w w' : World} {v : Value} {l : List α}

theorem flat_len (henc : ∀ x, (enc x).length = size) (l : List α) : (l.flatMap enc).length = l.length * size := by
  induction l with
  | nil => simp
  | cons x l ih => rw [List.flatMap_cons, List.length_append, ih, henc, List.length_cons, Nat.add_mul]; omega
theorem flat_at (henc : ∀ x, (enc x).length = size) (hs : 0 < size) : ∀ (l : List α) (i : Nat) (x : α), l[i]? = some x → ∀ j u, (enc x)[j]? = some u → (l.flatMap enc)[i * size + j]? = some u := by
  intro l
  induction l with
  | nil => intro i x h; simp at h
  | cons y l ih =>
    intro i x h j u hu
    rw [List.flatMap_cons]
    cases i with
    | zero =>
      simp at h; subst h
      rw [List.getElem?_append_left (by rw [Nat.zero_mul, Nat.zero_add]; exact (List.getElem?_eq_some_iff.1 hu).1), Nat.zero_mul, Nat.zero_add]; exact hu
    | succ i =>
      simp at h
      rw [List.getElem?_append_right (by rw [henc, Nat.add_mul]; omega), henc]
      have := ih i x h j u hu
      rw [← this]; congr 1; rw [Nat.add_mul]; omega

theorem OwnL.form (h : OwnL E size enc B w v l) : ∃ A c, v = .slice A l.length c ∧ l.length ≤ c ∧ c ≤ maxLen := by
  rcases h.2 with ⟨rfl, hn⟩ | ⟨g, cap, cur, rfl, _, _, hc, hm, _⟩
  · exact ⟨none, 0, by rw [hn], by omega, by simp [maxLen]⟩
  · exact ⟨_, cap, rfl, hc, hm⟩
theorem OwnL.nil_ : OwnL E size enc B w (.slice none 0 0) ([] : List α) := World.ownsRow_nil _ _ _ _
theorem OwnL.below (h : OwnL E size enc B w v l) (hb : Below w.heap.size w w') : OwnL E size enc B w' v l := by
  refine World.ownsRow.kept h (row := none) ⟨hb.os, hb.tape, hb.output, hb.size, fun k hk _ => hb.block k hk⟩ ?_
  cases v.ownBlock <;> simp
theorem OwnL.drewN (h : OwnL E size enc B w v l) (k : Nat) : OwnL E size enc B (w.drewN k) v l := h.below (below_drewN (Below.refl _ _) k)
theorem OwnL.alloc (h : OwnL E size enc B w v l) (o : Obj) : OwnL E size enc B (w.alloc o) v l := World.ownsRow.alloc h o
theorem OwnL.mono {B' : Nat} (h : OwnL E size enc B w v l) (hb : B' ≤ B) : OwnL E size enc B' w v l := Go.Joins.ownsRow_le h hb
theorem OwnL.far (h : OwnL E size enc B w v l) {a : Addr} (ha : v.ownBlock ≠ some a.block) (u : Value) : OwnL E size enc B (w.setCell a u) v l := ownsRow_setCell_other h ha u
theorem OwnL.rd (h : OwnL E size enc B w v l) (henc : ∀ x, (enc x).length = size) (hs : 0 < size) : Rd size (RE enc) w v l := by
  have h' := h
  rcases h.2 with ⟨rfl, hn⟩ | ⟨g, cap, cur, rfl, hg, hh, hc, hm, hsz, hx⟩
  · exact ⟨none, 0, by rw [hn], by omega, by simp [maxLen], fun h => absurd h (by omega)⟩
  · refine ⟨_, cap, rfl, hc, hm, fun hn => ⟨g, 0, rfl, ?_, fun i x hx' => ⟨enc x, henc x, rfl, fun j u hu => ?_⟩⟩⟩
    · exact (World.ownsRow.lt h' g rfl).2
    · have := World.ownsRow.cells h' (g := g) rfl _ _ (flat_at henc hs l i x hx' j u hu)
      have e : (Addr.mk g 0 none).add (i * size + j) = ⟨g, 0 + i * size + j, none⟩ := by
        unfold Addr.add; split
        · simp_all
        · simp
      rw [e] at this; exact this
end

theorem flat_set {α : Type} {enc : α → List Value} {size : Nat} (henc : ∀ x, (enc x).length = size) : ∀ (l : List α) (k : Nat) (y : α), k < l.length → (l.set k y).flatMap enc = (l.flatMap enc).take (k * size) ++ enc y ++ (l.flatMap enc).drop (k * size + size) := by
  intro l
  induction l with
  | nil => intro k y h; simp at h
  | cons x l ih =>
    intro k y h
    cases k with
    | zero => simp [henc]
    | succ k =>
      rw [List.set_cons_succ, List.flatMap_cons, ih k y (by simpa using h), List.flatMap_cons, List.take_append, List.drop_append, henc,
        List.take_of_length_le (l := enc x) (i := (k + 1) * size) (by rw [henc, Nat.add_mul]; omega), List.drop_of_length_le (l := enc x) (i := (k + 1) * size + size) (by rw [henc, Nat.add_mul]; omega)]
      rw [show (k + 1) * size - size = k * size by rw [Nat.add_mul]; omega, show (k + 1) * size + size - size = k * size + size by rw [Nat.add_mul]; omega]
      simp [List.append_assoc]

section
variable {α : Type} {E : TypeId} {size : Nat} {enc : α → List Value} {B : Nat} {w : World} {l : List α} {g n c k : Nat}
theorem OwnL.slot (h : OwnL E size enc B w (.slice (some ⟨g, 0, none⟩) n c) l) (henc : ∀ x, (enc x).length = size) (hs : 0 < size) (hk : k < l.length) : ∀ j u, (enc l[k])[j]? = some u → w.cell? ⟨g, k * size + j, none⟩ = some u := by
  intro j u hu
  have := World.ownsRow.cells h (g := g) rfl _ _ (flat_at henc hs l k _ (List.getElem?_eq_getElem hk) j u hu)
  have e : (Addr.mk g 0 none).add (k * size + j) = ⟨g, k * size + j, none⟩ := by
    unfold Addr.add; split
    · simp_all
    · simp
  rw [e] at this; exact this
theorem OwnL.free (h : OwnL E size enc B w (.slice (some ⟨g, 0, none⟩) n c) l) (j : Nat) : w.frozen? ⟨g, j, none⟩ = false := by
  have hn : l.length = n := by
    rcases h.2 with ⟨e, _⟩ | ⟨g', cap, cur, e, _⟩ <;> injection e with e1 e2 e3
    · cases e1
    · exact e2.symm
  unfold OwnL at h; rw [hn] at h
  exact World.ownsRow.frozenAt h j
theorem OwnL.at_ (h : OwnL E size enc B w (.slice (some ⟨g, 0, none⟩) n c) l) : l.length = n ∧ B ≤ g ∧ g < w.heap.size := by
  refine ⟨?_, World.ownsRow.lt h g rfl⟩
  rcases h.2 with ⟨e, _⟩ | ⟨g', cap, cur, e, _⟩ <;> injection e with e1 e2 e3
  · cases e1
  · exact e2.symm
/-- A slice of the call's own that is not empty. -/
theorem OwnL.pos {v : Value} (h : OwnL E size enc B w v l) (hn : 0 < l.length) : ∃ g c, v = .slice (some ⟨g, 0, none⟩) l.length c ∧ B ≤ g ∧ g < w.heap.size := by
  obtain ⟨g, c, rfl⟩ := Go.Joins.ownsRow_form h hn
  exact ⟨g, c, rfl, World.ownsRow.lt h g rfl⟩
theorem OwnL.split {A : Option Addr} (h : OwnL E size enc B w (.slice A n c) l) (hk : k < l.length) : ∃ g, A = some ⟨g, 0, none⟩ ∧ B ≤ g ∧ g < w.heap.size := by
  obtain ⟨g, c', e, h1, h2⟩ := h.pos (by omega)
  injection e with e1 e2 e3
  exact ⟨g, e1, h1, h2⟩
theorem OwnL.slot1 (h : OwnL E 1 enc B w (.slice (some ⟨g, 0, none⟩) n c) l) (henc : ∀ x, (enc x).length = 1) (hk : k < l.length) : ∃ u, w.cell? ⟨g, k, none⟩ = some u := by
  have hl := henc l[k]
  exact ⟨_, by simpa using h.slot henc (by decide) hk 0 _ (List.getElem?_eq_getElem (by omega))⟩
theorem OwnL.slot2 (h : OwnL E 2 enc B w (.slice (some ⟨g, 0, none⟩) n c) l) (henc : ∀ x, (enc x).length = 2) (hk : k < l.length) : ∃ u v, w.cell? ⟨g, k * 2, none⟩ = some u ∧ w.cell? ⟨g, k * 2 + 1, none⟩ = some v := by
  have hl := henc l[k]
  exact ⟨_, _, by simpa using h.slot henc (by decide) hk 0 _ (List.getElem?_eq_getElem (by omega)), h.slot henc (by decide) hk 1 _ (List.getElem?_eq_getElem (by omega))⟩
theorem OwnL.slot3 (h : OwnL E 3 enc B w (.slice (some ⟨g, 0, none⟩) n c) l) (henc : ∀ x, (enc x).length = 3) (hk : k < l.length) : ∃ u v z, w.cell? ⟨g, k * 3, none⟩ = some u ∧ w.cell? ⟨g, k * 3 + 1, none⟩ = some v ∧ w.cell? ⟨g, k * 3 + 2, none⟩ = some z := by
  have hl := henc l[k]
  exact ⟨_, _, _, by simpa using h.slot henc (by decide) hk 0 _ (List.getElem?_eq_getElem (by omega)), h.slot henc (by decide) hk 1 _ (List.getElem?_eq_getElem (by omega)), h.slot henc (by decide) hk 2 _ (List.getElem?_eq_getElem (by omega))⟩
theorem set_take_drop (xs : List Value) (i : Nat) (u : Value) (h : i < xs.length) : xs.set i u = xs.take i ++ [u] ++ xs.drop (i + 1) := by
  rw [List.set_eq_take_append_cons_drop, if_pos h]; simp
theorem OwnL.store1 (h : OwnL E 1 enc B w (.slice (some ⟨g, 0, none⟩) n c) l) (henc : ∀ x, (enc x).length = 1) (hk : k < l.length) {y : α} {u : Value} (hy : enc y = [u]) : OwnL E 1 enc B (w.setCell ⟨g, k, none⟩ u) (.slice (some ⟨g, 0, none⟩) n c) (l.set k y) := by
  have hn := h.at_.1
  have hf := flat_len henc l
  subst hn
  unfold OwnL at h ⊢
  rw [List.length_set]
  have := (World.ownsRow.stored h k u).1
  rw [flat_set henc l k y (by omega), hy]
  rw [set_take_drop _ _ _ (by omega)] at this
  simpa using this
theorem OwnL.store1' {z : α} (h : OwnL E 1 enc B w (.slice (some ⟨g, 0, none⟩) n c) (l.set k z)) (henc : ∀ x, (enc x).length = 1) (hk : k < l.length) {y : α} {u : Value} (hy : enc y = [u]) : OwnL E 1 enc B (w.setCell ⟨g, k, none⟩ u) (.slice (some ⟨g, 0, none⟩) n c) (l.set k y) := by
  have := h.store1 henc (k := k) (y := y) (by rw [List.length_set]; exact hk) hy
  rwa [List.set_set] at this
theorem OwnL.store2 (h : OwnL E 2 enc B w (.slice (some ⟨g, 0, none⟩) n c) l) (henc : ∀ x, (enc x).length = 2) (hk : k < l.length) {y : α} {u v : Value} (hy : enc y = [u, v]) :
    OwnL E 2 enc B ((w.setCell ⟨g, k * 2, none⟩ u).setCell ⟨g, k * 2 + 1, none⟩ v) (.slice (some ⟨g, 0, none⟩) n c) (l.set k y) := by
  have hn := h.at_.1
  have hf := flat_len henc l
  subst hn
  unfold OwnL at h ⊢
  rw [List.length_set]
  have := (World.ownsRow.stored (World.ownsRow.stored h (k * 2) u).1 (k * 2 + 1) v).1
  rw [flat_set henc l k y (by omega), hy]
  have hgen : ∀ (xs : List Value) (m : Nat), m + 2 ≤ xs.length → (xs.set m u).set (m + 1) v = xs.take m ++ [u, v] ++ xs.drop (m + 2) := by
    intro xs m hm
    refine List.ext_getElem? fun i => ?_
    have e1 : (List.take m xs).length = m := by rw [List.length_take]; omega
    rw [List.append_assoc]
    by_cases h1 : i < m
    · rw [List.getElem?_append_left (by omega), List.getElem?_set_ne (by omega), List.getElem?_set_ne (by omega), List.getElem?_take_of_lt h1]
    · rw [List.getElem?_append_right (by omega), e1]
      by_cases h2 : i = m
      · subst h2; rw [List.getElem?_set_ne (by omega), List.getElem?_set_self (by omega)]; simp
      · by_cases h3 : i = m + 1
        · subst h3; rw [List.getElem?_set_self (by rw [List.length_set]; omega)]; simp [show m + 1 - m = 1 by omega]
        · rw [List.getElem?_set_ne (by omega), List.getElem?_set_ne (by omega)]
          rw [List.getElem?_append_right (by simp; omega), List.getElem?_drop]; congr 1; simp; omega
  rw [hgen _ _ (by omega)] at this
  exact this
theorem OwnL.store3 (h : OwnL E 3 enc B w (.slice (some ⟨g, 0, none⟩) n c) l) (henc : ∀ x, (enc x).length = 3) (hk : k < l.length) {y : α} {u v z : Value} (hy : enc y = [u, v, z]) :
    OwnL E 3 enc B (((w.setCell ⟨g, k * 3, none⟩ u).setCell ⟨g, k * 3 + 1, none⟩ v).setCell ⟨g, k * 3 + 2, none⟩ z) (.slice (some ⟨g, 0, none⟩) n c) (l.set k y) := by
  have hn := h.at_.1
  have hf := flat_len henc l
  subst hn
  unfold OwnL at h ⊢
  rw [List.length_set]
  have := (World.ownsRow.stored (World.ownsRow.stored (World.ownsRow.stored h (k * 3) u).1 (k * 3 + 1) v).1 (k * 3 + 2) z).1
  rw [flat_set henc l k y (by omega), hy]
  have hgen : ∀ (xs : List Value) (m : Nat), m + 3 ≤ xs.length → ((xs.set m u).set (m + 1) v).set (m + 2) z = xs.take m ++ [u, v, z] ++ xs.drop (m + 3) := by
    intro xs m hm
    refine List.ext_getElem? fun i => ?_
    have e1 : (List.take m xs).length = m := by rw [List.length_take]; omega
    rw [List.append_assoc]
    by_cases h1 : i < m
    · rw [List.getElem?_append_left (by omega), List.getElem?_set_ne (by omega), List.getElem?_set_ne (by omega), List.getElem?_set_ne (by omega), List.getElem?_take_of_lt h1]
    · rw [List.getElem?_append_right (by omega), e1]
      by_cases h2 : i = m
      · subst h2; rw [List.getElem?_set_ne (by omega), List.getElem?_set_ne (by omega), List.getElem?_set_self (by omega)]; simp
      · by_cases h3 : i = m + 1
        · subst h3; rw [List.getElem?_set_ne (by omega), List.getElem?_set_self (by rw [List.length_set]; omega)]; simp [show m + 1 - m = 1 by omega]
        · by_cases h4 : i = m + 2
          · subst h4; rw [List.getElem?_set_self (by rw [List.length_set, List.length_set]; omega)]; simp [show m + 2 - m = 2 by omega]
          · rw [List.getElem?_set_ne (by omega), List.getElem?_set_ne (by omega), List.getElem?_set_ne (by omega)]
            rw [List.getElem?_append_right (by simp; omega), List.getElem?_drop]; congr 1; simp; omega
  rw [hgen _ _ (by omega)] at this
  exact this
end

theorem one_of {α : Type} {enc : α → List Value} (h1 : ∀ x, ∀ u ∈ enc x, u.oneCell' = true) (l : List α) : ∀ u ∈ l.flatMap enc, u.oneCell' = true := by
  intro u hu
  obtain ⟨x, _, hx⟩ := List.mem_flatMap.1 hu
  exact h1 x u hx

/-- A type's row of the table, a fact to lay once. -/
def Row (P : Program) (t E : TypeId) (z : Value) (size bytes : Nat) : Prop := P.underlying t = some (.slice E) ∧ (P.info? E).map (fun i => (i.zero, i.size, i.bytes)) = some (some z, size, bytes) ∧ z.cells.size = size ∧ 0 < size

/-- append of one element to a slice of the call's own. -/
theorem wpList_app1 {P : Program} {ops : Array Oper} {rest : List Oper} {o : Oper} {a : Act} {Q : Exit → Act → World → Prop} {α : Type} {t E : TypeId} {z : Value} {size bytes : Nat} (R : Row P t E z size bytes)
    {enc : α → List Value} (henc : ∀ x, (enc x).length = size) (h1 : ∀ x, ∀ u ∈ enc x, u.oneCell' = true)
    {W0 w : World} (hbel : Below W0.heap.size W0 w) {v : Value} {l : List α} (hown : OwnL E size enc W0.heap.size w v l) (y : α)
    (hlen : (l.length + 1) * bytes ≤ 140737488355328) (hlen2 : l.length + 1 ≤ maxLen)
    (hgd : o.guard = none) (s x : Operand) (ho : o.op = .call { callee := .builtin .append, args := #[s, x], argTypes := #[t, t] })
    (hs : a.eval s = v) (hx : a.eval x = .slice (some ⟨w.heap.size, 0, none⟩) 1 1)
    (h : ∀ v' w', OwnL E size enc W0.heap.size w' v' (l ++ [y]) → Below W0.heap.size W0 w' → (w.alloc (.cells (enc y).toArray E)).grownBy w' v.ownBlock → (v'.ownBlock = v.ownBlock ∨ v'.ownBlock = some (w.heap.size + 1)) → wpList P ops Q rest (a.put o.dst v') w') :
    wpList P ops Q (o :: rest) a (w.alloc (.cells (enc y).toArray E)) := by
  obtain ⟨ht, hinfo, hzs, hsz⟩ := R
  obtain ⟨i0, hi, hz0, hz1, hz2⟩ := info_parts hinfo
  have hne : (enc y).length = size := henc y
  obtain ⟨v', w', hrun, h2, h3, _, h5⟩ := run_append_own_at (P := P) (w.alloc (.cells (enc y).toArray E)) W0.heap.size t o.type E i0 z size bytes ht hi hz0 hz1 hz2 hzs hsz v l.length (l.flatMap enc) (World.ownsRow.alloc hown _)
    ⟨w.heap.size, 0, none⟩ 1 1 (enc y) (by rw [henc]; omega) (fun j u hj => by
      have hb := World.ownsRow.cells (w := w.alloc (.cells (enc y).toArray E)) (base := 0) (e := E) (size := size) (v := .slice (some ⟨w.heap.size, 0, none⟩) 1 1) (n := 1) (xs := enc y)
        ⟨by rw [henc]; omega, .inr ⟨w.heap.size, 1, (enc y).toArray, rfl, by omega, heap_alloc_new w _, by omega, by simp [maxLen], by simp [henc], by simp [henc, List.take_of_length_le]⟩⟩ (g := w.heap.size) rfl
      exact hb j u hj) (h1 y) hlen2 hlen (by have := hbel.size; simp; omega)
  refine wpList_plain hgd fun _ hK => ?_
  unfold Oper.wp execOp
  simp only [ho, resolve, invoke, builtin, Sem.run_bind, Sem.run_pure, Result.andThen_ok, List.map_toArray, List.map_cons, List.map_nil, hs, hx, hrun]
  refine hK _ _ (h v' w' ?_ ?_ h3 (by simpa using h5))
  · unfold OwnL
    rw [List.length_append, List.flatMap_append, List.length_singleton]
    simpa using h2
  · refine (hbel.al _).grown h3 (by have := (hbel.al (.cells (enc y).toArray E)).size; exact this) (fun k hk => ?_)
    exact (World.ownsRow.lt hown k hk).1

theorem flat_rep {α : Type} {enc : α → List Value} {z0 : α} {size : Nat} (henc : ∀ x, x = z0 → (enc x).length = size) : ∀ (n i j : Nat) (u : Value), i < n → (enc z0)[j]? = some u → ((List.replicate n z0).flatMap enc)[i * size + j]? = some u := by
  intro n
  induction n with
  | zero => intro i j u h; omega
  | succ n ih =>
    intro i j u h hu
    rw [List.replicate_succ, List.flatMap_cons]
    cases i with
    | zero => rw [List.getElem?_append_left (by rw [Nat.zero_mul, Nat.zero_add]; exact (List.getElem?_eq_some_iff.1 hu).1), Nat.zero_mul, Nat.zero_add]; exact hu
    | succ i =>
      rw [List.getElem?_append_right (by rw [henc _ rfl, Nat.add_mul]; omega), henc _ rfl]
      have := ih i j u (by omega) hu
      rw [← this]; congr 1; rw [Nat.add_mul]; omega

/-- make of n elements. -/
theorem wpList_mk {P : Program} {ops : Array Oper} {rest : List Oper} {o : Oper} {a : Act} {Q : Exit → Act → World → Prop} {α : Type} {t E : TypeId} {z : Value} {size bytes : Nat} (R : Row P t E z size bytes)
    {enc : α → List Value} {z0 : α} (hz : z.cells.toList = enc z0)
    {W0 w : World} (hbel : Below W0.heap.size W0 w) (n : Nat) (hn : bytes * n ≤ 281474976710656) (hn2 : n ≤ maxLen)
    (hgd : o.guard = none) (s x : Operand) (hop : o.op = Op.makeSlice t s x) {kl kc : IntKind}
    (hs : a.eval s = .int kl n) (hx : a.eval x = .int kc n)
    (h : ∀ w', OwnL E size enc W0.heap.size w' (.slice (some ⟨w.heap.size, 0, none⟩) n n) (List.replicate n z0) → Below W0.heap.size W0 w' → w.grownBy w' none → wpList P ops Q rest (a.put o.dst (.slice (some ⟨w.heap.size, 0, none⟩) n n)) w') :
    wpList P ops Q (o :: rest) a w := by
  obtain ⟨ht, hinfo, hzs, hsz⟩ := R
  obtain ⟨i0, hi, hz0, hz1, hz2⟩ := info_parts hinfo
  refine wpList_make_full w hgd s x t hop W0.heap.size E i0 z size ht hi hz0 hz1 kl kc n n n hs hx rfl rfl (by rw [hz2]; exact hn) hn2 hbel.size fun w' hown hg => ?_
  refine h w' ?_ (hbel.grown hg hbel.size (fun k hk => by cases hk)) hg
  unfold OwnL
  have e : (List.replicate n z0).flatMap enc = (madeCells z.cells (n * size)).toList := by
    have henc : ∀ x : α, x = z0 → (enc x).length = size := fun x hx => by rw [hx, ← hz]; simpa using hzs
    have hlen : ((List.replicate n z0).flatMap enc).length = n * size := by
      rw [List.flatMap_replicate]; simp [henc z0 rfl]
    refine List.ext_getElem? fun i => ?_
    by_cases hi : i < n * size
    · have h1 : (List.replicate n z0)[i / size]? = some z0 := by rw [List.getElem?_replicate, if_pos (Nat.div_lt_of_lt_mul (by rw [Nat.mul_comm]; exact hi))]
      have hm : i % size < z.cells.size := by
        rw [hzs]; exact Nat.mod_lt _ hsz
      have h2 : (enc z0)[i % size]? = some z.cells[i % size] := by rw [← hz]; simp [hm]
      have h3 : ((List.replicate n z0).map enc).flatten[i / size * size + i % size]? = some z.cells[i % size] := by
        have := flat_rep henc n (i / size) (i % size) z.cells[i % size] (Nat.div_lt_of_lt_mul (by rw [Nat.mul_comm]; exact hi)) h2
        simpa [List.flatMap] using this
      have h4 : i / size * size + i % size = i := by rw [Nat.mul_comm]; exact Nat.div_add_mod i size
      rw [h4] at h3
      rw [show (List.replicate n z0).flatMap enc = ((List.replicate n z0).map enc).flatten from rfl, h3]
      simp only [madeCells, Array.toList_map, Array.toList_range, List.getElem?_map, List.getElem?_range hi, Option.map_some]
      congr 1
      have : i % z.cells.size < z.cells.size := by rw [hzs]; exact Nat.mod_lt _ hsz
      rw [getElem!_pos z.cells _ this]
      simp only [hzs]
    · rw [List.getElem?_eq_none (by omega), List.getElem?_eq_none (by simp [size_madeCells]; omega)]
  rw [e]
  simpa using hown

/-- .. where the size is a reckoned number. -/
theorem wpList_mk' {P : Program} {ops : Array Oper} {rest : List Oper} {o : Oper} {a : Act} {Q : Exit → Act → World → Prop} {α : Type} {t E : TypeId} {z : Value} {size bytes : Nat} (R : Row P t E z size bytes)
    {enc : α → List Value} {z0 : α} (hz : z.cells.toList = enc z0)
    {W0 w : World} (hbel : Below W0.heap.size W0 w) (n : Nat) (hn : bytes * n ≤ 281474976710656) (hn2 : n ≤ maxLen) (L : Int) (hL : L = n)
    (hgd : o.guard = none) (s x : Operand) (hop : o.op = Op.makeSlice t s x) {kl kc : IntKind}
    (hs : a.eval s = .int kl L) (hx : a.eval x = .int kc L)
    (h : ∀ w', OwnL E size enc W0.heap.size w' (.slice (some ⟨w.heap.size, 0, none⟩) n n) (List.replicate n z0) → Below W0.heap.size W0 w' → w.grownBy w' none → wpList P ops Q rest (a.put o.dst (.slice (some ⟨w.heap.size, 0, none⟩) n n)) w') :
    wpList P ops Q (o :: rest) a w := by
  subst hL
  exact wpList_mk R hz hbel n hn hn2 hgd s x hop hs hx h
end Go.Proofs.Ytkbndchgmokabaa
