/- How an argument's reading gives the words of Base: integers, bools, strings, structs, slices. Plain lemmas; no conditions. -/
import Derived.Test.YtkbndchgmokabaaBase
namespace Go.Proofs.Ytkbndchgmokabaa
open Go.ChangeShapes Go.WideShapes Go.RowKit Go.Deep
set_option linter.unusedVariables false

/-- Whatever can be read at type t in world W has cells of which R holds, for a datum that is Ok. -/
def Opens {α : Type} (P : Program) (W : World) (t : TypeId) (n : Nat) (R : World → List Value → α → Prop) (Ok : α → Prop) : Prop :=
  P.cellsOf t = n ∧ ∀ (H : Type) (enc : TypeId × Value → H) (fuel : Nat) (cs : List Value) (x : DataW H × List MemPlace),
    DataW.trod enc P W 0 (fun _ => true) true fuel t cs = some x → ∃ a, R W cs a ∧ Ok a

def I64 (n : Int) : Prop := -9223372036854775808 ≤ n ∧ n ≤ 9223372036854775807
/-- A slice as the cell of another thing. -/
def RSl {α : Type} (size : Nat) (R : World → List Value → α → Prop) (w : World) (cs : List Value) (l : List α) : Prop := ∃ v, cs = [v] ∧ Rd size R w v l
def Always {α : Type} (_ : α) : Prop := True
def AllOk {α : Type} (Ok : α → Prop) (l : List α) : Prop := ∀ x ∈ l, Ok x

section
variable {P : Program} {W : World} {t e : TypeId} {n : Nat}

theorem Opens.int (ht : P.underlying t = some (.int .i64)) (hc : P.cellsOf t = 1) : Opens P W t 1 RInt I64 := by
  refine ⟨hc, fun H enc fuel cs x h => ?_⟩
  obtain ⟨a, rfl, _, hw⟩ := DataW.trod_int ht h
  refine ⟨a, rfl, ?_⟩
  simp [Lit.wf, IntKind.min, IntKind.max, IntKind.signed, IntKind.bits] at hw
  exact ⟨by omega, by omega⟩
theorem Opens.byte (ht : P.underlying t = some (.int .u8)) (hc : P.cellsOf t = 1) : Opens P W t 1 RByte (fun x => 0 ≤ x ∧ x ≤ 255) := by
  refine ⟨hc, fun H enc fuel cs x h => ?_⟩
  obtain ⟨a, rfl, _, hw⟩ := DataW.trod_int ht h
  refine ⟨a, rfl, ?_⟩
  simp [Lit.wf, IntKind.min, IntKind.max, IntKind.signed, IntKind.bits] at hw
  exact ⟨by omega, by omega⟩
theorem Opens.bool (ht : P.underlying t = some .bool) (hc : P.cellsOf t = 1) : Opens P W t 1 RBool Always := by
  refine ⟨hc, fun H enc fuel cs x h => ?_⟩
  obtain ⟨a, rfl, _⟩ := DataW.trod_bool ht h
  exact ⟨a, rfl, trivial⟩
theorem Opens.str (ht : P.underlying t = some .string) (hc : P.cellsOf t = 1) : Opens P W t 1 RStr (fun s => s.size ≤ maxLen) := by
  refine ⟨hc, fun H enc fuel cs x h => ?_⟩
  obtain ⟨a, rfl, _, hs⟩ := DataW.trod_string ht h
  exact ⟨a, rfl, hs⟩

theorem Opens.conv {α β : Type} {R : World → List Value → α → Prop} {Ok : α → Prop} {R' : World → List Value → β → Prop} {Ok' : β → Prop} (h : Opens P W t n R Ok) (f : ∀ cs a, R W cs a → Ok a → ∃ b, R' W cs b ∧ Ok' b) : Opens P W t n R' Ok' :=
  ⟨h.1, fun H enc fuel cs x hx => by obtain ⟨a, h1, h2⟩ := h.2 H enc fuel cs x hx; exact f cs a h1 h2⟩

theorem field_cells {H : Type} {enc : TypeId × Value → H} {fs : Array Field} {fuel : Nat} {cs : List Value} {x : DataW H × List MemPlace} (hs : P.underlying t = some (.struct fs)) (h : DataW.trod enc P W 0 (fun _ => true) true fuel t cs = some x)
    (i : Nat) (f : Field) (hf : fs[i]? = some f) : ∃ m y, DataW.trod enc P W 0 (fun _ => true) true m f.type ((cs.drop f.offset).take (P.cellsOf f.type)) = some y := by
  obtain ⟨xs, m, _, _, _, hl, hg⟩ := DataW.trod_struct hs h
  have hi : i < xs.length := by rw [hl]; exact (Array.getElem?_eq_some_iff.1 hf).1
  exact ⟨m, xs[i], (hg i f hf).trans (List.getElem?_eq_getElem hi)⟩
theorem struct_len {H : Type} {enc : TypeId × Value → H} {fs : Array Field} {fuel : Nat} {cs : List Value} {x : DataW H × List MemPlace} (hs : P.underlying t = some (.struct fs)) (h : DataW.trod enc P W 0 (fun _ => true) true fuel t cs = some x) :
    cs.length = P.cellsOf t := by
  obtain ⟨xs, m, _, _, hc, hl, hg⟩ := DataW.trod_struct hs h
  exact hc

theorem Opens.struct1 {α : Type} {R0 : World → List Value → α → Prop} {Ok0 : α → Prop} {f0 : Field} {n0 : Nat} (hs : P.underlying t = some (.struct #[f0])) (hc : P.cellsOf t = n0) (o0 : f0.offset = 0) (h0 : Opens P W f0.type n0 R0 Ok0) : Opens P W t n0 R0 Ok0 := by
  refine ⟨hc, fun H enc fuel cs x h => ?_⟩
  obtain ⟨m, y, hy⟩ := field_cells hs h 0 f0 rfl
  have hl := struct_len hs h
  rw [o0, h0.1, List.drop_zero, List.take_of_length_le (by omega)] at hy
  exact h0.2 H enc m cs y hy

theorem Opens.struct2 {α β : Type} {R0 : World → List Value → α → Prop} {Ok0 : α → Prop} {R1 : World → List Value → β → Prop} {Ok1 : β → Prop} {f0 f1 : Field} {n0 n1 : Nat} (hs : P.underlying t = some (.struct #[f0, f1])) (hc : P.cellsOf t = n0 + n1)
    (o0 : f0.offset = 0) (o1 : f1.offset = n0) (h0 : Opens P W f0.type n0 R0 Ok0) (h1 : Opens P W f1.type n1 R1 Ok1) :
    Opens P W t (n0 + n1) (fun w cs (x : α × β) => ∃ a b, cs = a ++ b ∧ R0 w a x.1 ∧ R1 w b x.2) (fun x => Ok0 x.1 ∧ Ok1 x.2) := by
  refine ⟨hc, fun H enc fuel cs x h => ?_⟩
  obtain ⟨m, y, hy⟩ := field_cells hs h 0 f0 rfl
  obtain ⟨m', y', hy'⟩ := field_cells hs h 1 f1 rfl
  have hl := struct_len hs h
  rw [o0, h0.1, List.drop_zero] at hy
  rw [o1, h1.1, List.take_of_length_le (by simp; omega)] at hy'
  obtain ⟨a, ha, ka⟩ := h0.2 H enc m _ y hy
  obtain ⟨b, hb, kb⟩ := h1.2 H enc m' _ y' hy'
  exact ⟨(a, b), ⟨_, _, (List.take_append_drop n0 cs).symm, ha, hb⟩, ka, kb⟩

theorem Opens.struct3 {α β γ : Type} {R0 : World → List Value → α → Prop} {Ok0 : α → Prop} {R1 : World → List Value → β → Prop} {Ok1 : β → Prop} {R2 : World → List Value → γ → Prop} {Ok2 : γ → Prop} {f0 f1 f2 : Field} {n0 n1 n2 : Nat}
    (hs : P.underlying t = some (.struct #[f0, f1, f2])) (hc : P.cellsOf t = n0 + n1 + n2) (o0 : f0.offset = 0) (o1 : f1.offset = n0) (o2 : f2.offset = n0 + n1) (h0 : Opens P W f0.type n0 R0 Ok0) (h1 : Opens P W f1.type n1 R1 Ok1) (h2 : Opens P W f2.type n2 R2 Ok2) :
    Opens P W t (n0 + n1 + n2) (fun w cs (x : α × β × γ) => ∃ a b c, cs = a ++ b ++ c ∧ R0 w a x.1 ∧ R1 w b x.2.1 ∧ R2 w c x.2.2) (fun x => Ok0 x.1 ∧ Ok1 x.2.1 ∧ Ok2 x.2.2) := by
  refine ⟨hc, fun H enc fuel cs x h => ?_⟩
  obtain ⟨m, y, hy⟩ := field_cells hs h 0 f0 rfl
  obtain ⟨m', y', hy'⟩ := field_cells hs h 1 f1 rfl
  obtain ⟨m2, y2, hy2⟩ := field_cells hs h 2 f2 rfl
  have hl := struct_len hs h
  rw [o0, h0.1, List.drop_zero] at hy
  rw [o1, h1.1] at hy'
  rw [o2, h2.1, List.take_of_length_le (by simp; omega)] at hy2
  obtain ⟨a, ha, ka⟩ := h0.2 H enc m _ y hy
  obtain ⟨b, hb, kb⟩ := h1.2 H enc m' _ y' hy'
  obtain ⟨c, hc', kc⟩ := h2.2 H enc m2 _ y2 hy2
  refine ⟨(a, b, c), ⟨_, _, _, ?_, ha, hb, hc'⟩, ka, kb, kc⟩
  rw [← List.drop_drop, List.append_assoc, List.take_append_drop, List.take_append_drop]

theorem Opens.struct4 {α β γ δ : Type} {R0 : World → List Value → α → Prop} {Ok0 : α → Prop} {R1 : World → List Value → β → Prop} {Ok1 : β → Prop} {R2 : World → List Value → γ → Prop} {Ok2 : γ → Prop} {R3 : World → List Value → δ → Prop} {Ok3 : δ → Prop} {f0 f1 f2 f3 : Field} {n0 n1 n2 n3 : Nat}
    (hs : P.underlying t = some (.struct #[f0, f1, f2, f3])) (hc : P.cellsOf t = n0 + n1 + n2 + n3) (o0 : f0.offset = 0) (o1 : f1.offset = n0) (o2 : f2.offset = n0 + n1) (o3 : f3.offset = n0 + n1 + n2)
    (h0 : Opens P W f0.type n0 R0 Ok0) (h1 : Opens P W f1.type n1 R1 Ok1) (h2 : Opens P W f2.type n2 R2 Ok2) (h3 : Opens P W f3.type n3 R3 Ok3) :
    Opens P W t (n0 + n1 + n2 + n3) (fun w cs (x : α × β × γ × δ) => ∃ a b c d, cs = a ++ b ++ c ++ d ∧ R0 w a x.1 ∧ R1 w b x.2.1 ∧ R2 w c x.2.2.1 ∧ R3 w d x.2.2.2) (fun x => Ok0 x.1 ∧ Ok1 x.2.1 ∧ Ok2 x.2.2.1 ∧ Ok3 x.2.2.2) := by
  refine ⟨hc, fun H enc fuel cs x h => ?_⟩
  obtain ⟨m, y, hy⟩ := field_cells hs h 0 f0 rfl
  obtain ⟨m', y', hy'⟩ := field_cells hs h 1 f1 rfl
  obtain ⟨m2, y2, hy2⟩ := field_cells hs h 2 f2 rfl
  obtain ⟨m3, y3, hy3⟩ := field_cells hs h 3 f3 rfl
  have hl := struct_len hs h
  rw [o0, h0.1, List.drop_zero] at hy
  rw [o1, h1.1] at hy'
  rw [o2, h2.1] at hy2
  rw [o3, h3.1, List.take_of_length_le (by simp; omega)] at hy3
  obtain ⟨a, ha, ka⟩ := h0.2 H enc m _ y hy
  obtain ⟨b, hb, kb⟩ := h1.2 H enc m' _ y' hy'
  obtain ⟨c, hc', kc⟩ := h2.2 H enc m2 _ y2 hy2
  obtain ⟨d, hd, kd⟩ := h3.2 H enc m3 _ y3 hy3
  refine ⟨(a, b, c, d), ⟨_, _, _, _, ?_, ha, hb, hc', hd⟩, ka, kb, kc, kd⟩
  rw [← List.drop_drop (i := n2) (j := n0 + n1), ← List.drop_drop (i := n1) (j := n0), List.append_assoc, List.append_assoc, List.take_append_drop, List.take_append_drop, List.take_append_drop]

theorem Opens.slice {α : Type} {size : Nat} {R : World → List Value → α → Prop} {Ok : α → Prop} (ht : P.underlying t = some (.slice e)) (hc : P.cellsOf t = 1) (hpos : 0 < size) (he : Opens P W e size R Ok) : Opens P W t 1 (RSl size R) (AllOk Ok) := by
  refine ⟨hc, fun H enc fuel cs x h => ?_⟩
  rcases open_slice ht h with ⟨rfl, _⟩ | ⟨a, len, cap, m, n, D, Pl, rfl, _, hl, hm, hmm, hxx, hi⟩
  · exact ⟨[], ⟨_, rfl, none, 0, rfl, Nat.le_refl _, by simp [maxLen], fun h => absurd h (by simp)⟩, fun x hx => by cases hx⟩
  · simp only [if_true] at hmm
    obtain rfl : m = cap := hmm
    have key : ∀ i, i < len → ∃ y cs', cs'.length = size ∧ R W cs' y ∧ Ok y ∧ ∀ j u, cs'[j]? = some u → W.cell? (a.add (i * size + j)) = some u := by
      intro i him
      obtain ⟨cs', hcell, ht'⟩ := hi i (by omega)
      rw [he.1] at hcell
      obtain ⟨_, hlen, hat⟩ := World.cells?_some hcell
      obtain ⟨y, hy, oy⟩ := he.2 H enc n cs' _ ht'
      refine ⟨y, cs', hlen, hy, oy, fun j u hu => ?_⟩
      have hj : j < size := by rw [← hlen]; exact (List.getElem?_eq_some_iff.1 hu).1
      rw [← Go.Deep.add_add, hat j hj, hu]
    obtain ⟨l, hll, hlx⟩ : ∃ l : List α, l.length = len ∧ ∀ i y, l[i]? = some y → ∃ cs', cs'.length = size ∧ R W cs' y ∧ Ok y ∧ ∀ j u, cs'[j]? = some u → W.cell? (a.add (i * size + j)) = some u := by
      clear hi hl hm hxx h
      induction len with
      | zero => exact ⟨[], rfl, fun i y h => by simp at h⟩
      | succ k ih =>
        obtain ⟨l, hl, hx⟩ := ih (fun i hi => key i (by omega))
        obtain ⟨y, cs', h1, h2, h3, h4⟩ := key k (by omega)
        refine ⟨l ++ [y], by simp [hl], fun i z hz => ?_⟩
        rcases Nat.lt_or_ge i l.length with hlt | hge
        · rw [List.getElem?_append_left hlt] at hz; exact hx i z hz
        · have hik : i = k := by
            have := (List.getElem?_eq_some_iff.1 hz).1
            simp at this; omega
          subst hik
          rw [← hl] at hz
          simp at hz
          subst hz
          exact ⟨cs', h1, h2, h3, h4⟩
    refine ⟨l, ⟨_, rfl, some a, m, by rw [hll], by omega, hm, fun hn => ?_⟩, fun y hy => ?_⟩
    · obtain ⟨b, off, spot⟩ := a
      have h0 : l[0]? = some (l[0]'hn) := List.getElem?_eq_getElem hn
      obtain ⟨cs', k1, k2, k3, k4⟩ := hlx 0 _ h0
      have hc0 := k4 0 _ (List.getElem?_eq_getElem (by omega))
      have hsp : spot = none := by simpa [Addr.add] using World.cell?_spot hc0
      subst hsp
      have hblk : b < W.heap.size := by
        rcases Nat.lt_or_ge b W.heap.size with h' | h'
        · exact h'
        · have : W.heap[b]? = none := Array.getElem?_eq_none h'
          simp [Addr.add, World.cell?, this] at hc0
      refine ⟨b, off, rfl, hblk, fun i y hy => ?_⟩
      obtain ⟨cs', k1, k2, k3, k4⟩ := hlx i y hy
      refine ⟨cs', k1, k2, fun j u hu => ?_⟩
      have := k4 j u hu
      have e : (Addr.mk b off none).add (i * size + j) = ⟨b, off + i * size + j, none⟩ := by
        unfold Addr.add; split
        · simp_all
        · simp [Nat.add_assoc]
      rw [e] at this; exact this
    · obtain ⟨i, hi', rfl⟩ := List.mem_iff_getElem.1 hy
      obtain ⟨_, _, _, h3, _⟩ := hlx i _ (List.getElem?_eq_getElem hi')
      exact h3

theorem open_sl {α : Type} {size : Nat} {R : World → List Value → α → Prop} {Ok : List α → Prop} (h : Opens P W t 1 (RSl size R) Ok) {H : Type} {enc : TypeId × Value → H} {v : Value} {d : DataW H} {p : List MemPlace} (hv : ∃ a n c, v = .slice a n c)
    (hr : DataW.Trod enc P W 0 (fun _ => true) true t v d p) : ∃ l, Rd size R W v l ∧ Ok l := by
  obtain ⟨a, n, c, rfl⟩ := hv
  obtain ⟨fuel, hf⟩ := hr
  obtain ⟨l, ⟨v', hv', hl⟩, ok⟩ := h.2 H enc fuel _ _ hf
  simp [Value.cells] at hv'
  subst hv'
  exact ⟨l, hl, ok⟩
theorem open_ag {α : Type} {m : Nat} {R : World → List Value → α → Prop} {Ok : α → Prop} (h : Opens P W t m R Ok) {H : Type} {enc : TypeId × Value → H} {v : Value} {d : DataW H} {p : List MemPlace} (hv : ∃ cs, v = .agg cs ∧ cs.size = P.cellsOf t)
    (hr : DataW.Trod enc P W 0 (fun _ => true) true t v d p) : ∃ l x, v = .agg (List.toArray l) ∧ R W l x ∧ Ok x := by
  obtain ⟨cs, rfl, _⟩ := hv
  obtain ⟨fuel, hf⟩ := hr
  obtain ⟨x, hx, ok⟩ := h.2 H enc fuel _ _ hf
  exact ⟨cs.toList, x, by simp, by simpa [Value.cells] using hx, ok⟩
end
end Go.Proofs.Ytkbndchgmokabaa
