/- The profile over the cells of a set: the states' numbers from cell to cell. Plain laws. -/
import Derived.Test.YtkbndchgmokabaaFloorPl
import Derived.Test.YtkbndchgmokabaaFloorPrice
namespace Go.Proofs.Ytkbndchgmokabaa
open Go.ChangeShapes Go.WideShapes Go.ChangeAt Go.RowKit
set_option linter.unusedVariables false

def hasDn (s i : Nat) : Bool := decide (i < 56) && s.testBit (i + 8)
def hasRt (s i : Nat) : Bool := decide (i % 8 < 7) && s.testBit (i + 1)
def domDn (i : Nat) : Dm := (((i % 8 : Nat) : Int), ((i / 8 : Nat) : Int), true)
def domRt (i : Nat) : Dm := (((i % 8 : Nat) : Int), ((i / 8 : Nat) : Int), false)
def dpPut (no : Int) (add : Int → Int → Int) (nx : List Int) (k : Nat) (n : Int) : List Int := nx.set k (if nx.getD k 0 = no then n else add (nx.getD k 0) n)
def dpDn (s : Nat) (no : Int) (add : Int → Int → Int) (wt : Int → Dm → Int) (i : Nat) (nx : List Int) (k : Nat) (n : Int) : List Int := if hasDn s i then dpPut no add nx (k ||| 2 ^ (i % 8)) (wt n (domDn i)) else nx
def dpRt (s : Nat) (no : Int) (add : Int → Int → Int) (wt : Int → Dm → Int) (i : Nat) (nx : List Int) (k : Nat) (n : Int) : List Int := if hasRt s i && !k.testBit (i % 8 + 1) then dpPut no add nx (k ||| 2 ^ (i % 8 + 1)) (wt n (domRt i)) else nx
def dpOne (s : Nat) (no : Int) (add : Int → Int → Int) (wt : Int → Dm → Int) (i : Nat) (nx : List Int) (k : Nat) (n : Int) : List Int :=
  if n = no then nx
  else if s.testBit i then
    if k.testBit (i % 8) then dpPut no add nx (k - 2 ^ (i % 8)) n
    else dpRt s no add wt i (dpDn s no add wt i nx k n) k n
  else if k.testBit (i % 8) then nx else dpPut no add nx k n
def dpRow (s : Nat) (no : Int) (add : Int → Int → Int) (wt : Int → Dm → Int) (now : List Int) (i K : Nat) : List Int := (List.range K).foldl (fun nx k => dpOne s no add wt i nx k (now.getD k 0)) (List.replicate 256 no)
def dp (s : Nat) (no : Int) (add : Int → Int → Int) (wt : Int → Dm → Int) (st : Int) : Nat → List Int
  | 0 => (List.replicate 256 no).set 0 st
  | i + 1 => dpRow s no add wt (dp s no add wt st i) i 256

section
variable {s : Nat} {no : Int} {add : Int → Int → Int} {wt : Int → Dm → Int} {st : Int}
theorem dpPut_len (nx : List Int) (k : Nat) (n : Int) : (dpPut no add nx k n).length = nx.length := by simp [dpPut]
theorem dpDn_len (i : Nat) (nx : List Int) (k : Nat) (n : Int) : (dpDn s no add wt i nx k n).length = nx.length := by unfold dpDn; split <;> simp [dpPut_len]
theorem dpRt_len (i : Nat) (nx : List Int) (k : Nat) (n : Int) : (dpRt s no add wt i nx k n).length = nx.length := by unfold dpRt; split <;> simp [dpPut_len]
theorem dpOne_len (i : Nat) (nx : List Int) (k : Nat) (n : Int) : (dpOne s no add wt i nx k n).length = nx.length := by
  unfold dpOne; split
  · rfl
  · split
    · split
      · exact dpPut_len _ _ _
      · rw [dpRt_len, dpDn_len]
    · split
      · rfl
      · exact dpPut_len _ _ _
theorem dpRow_succ (now : List Int) (i K : Nat) : dpRow s no add wt now i (K + 1) = dpOne s no add wt i (dpRow s no add wt now i K) K (now.getD K 0) := by
  unfold dpRow; rw [List.range_succ, List.foldl_append]; rfl
theorem dpRow_len (now : List Int) (i : Nat) : ∀ K, (dpRow s no add wt now i K).length = 256
  | 0 => by unfold dpRow; rw [List.range_zero, List.foldl_nil, List.length_replicate]
  | K + 1 => by rw [dpRow_succ, dpOne_len]; exact dpRow_len now i K
theorem dp_len : ∀ i, (dp s no add wt st i).length = 256
  | 0 => by unfold dp; rw [List.length_set, List.length_replicate]
  | i + 1 => dpRow_len _ _ _
theorem dp_succ (i : Nat) : dp s no add wt st (i + 1) = dpRow s no add wt (dp s no add wt st i) i 256 := rfl
/-- What holds of all numbers from step to step. -/
theorem dpPut_all {P : Nat → Int → Prop} {nx : List Int} (h : ∀ k v, nx[k]? = some v → P k v) {k : Nat} {n : Int} (hk : k < nx.length) (hp : nx[k]? = some no → P k n) (ha : ∀ v, nx[k]? = some v → v ≠ no → P k (add v n)) : ∀ j v, (dpPut no add nx k n)[j]? = some v → P j v := by
  intro j v hj
  unfold dpPut at hj
  by_cases e : k = j
  · subst e
    rw [List.getElem?_set_self hk] at hj
    injection hj with hj
    have hg : nx.getD k 0 = nx[k] := by rw [List.getD_eq_getElem?_getD, List.getElem?_eq_getElem hk, Option.getD_some]
    rw [hg] at hj
    by_cases e : nx[k] = no
    · rw [if_pos e] at hj; rw [← hj]; exact hp (by rw [List.getElem?_eq_getElem hk, e])
    · rw [if_neg e] at hj; rw [← hj]; exact ha _ (List.getElem?_eq_getElem hk) e
  · rw [List.getElem?_set_ne e] at hj; exact h j v hj
end

theorem sub_bits : ∀ k < 256, ∀ x < 8, k.testBit x = true → k - 2 ^ x < 256 ∧ 2 ^ x ≤ k ∧ ∀ j < 8, (k - 2 ^ x).testBit j = (k.testBit j && !decide (x = j)) := by decide +kernel
theorem or_lt : ∀ k < 256, ∀ x < 8, k ||| 2 ^ x < 256 := by decide +kernel
theorem and_bit : ∀ k < 256, ∀ x < 8, (decide (k &&& 2 ^ x = 0)) = !k.testBit x := by decide +kernel
theorem bit_out : ∀ k < 256, k.testBit 8 = false := by decide +kernel

/-- The cell that a bit of a state stands for. -/
def bitCell (i x : Nat) : Nat := if i % 8 ≤ x then i - i % 8 + x else i - i % 8 + 8 + x
theorem bitCell_self (i : Nat) : bitCell i (i % 8) = i := by unfold bitCell; rw [if_pos (Nat.le_refl _)]; omega
theorem bitCell_right (i : Nat) : bitCell i (i % 8 + 1) = i + 1 := by unfold bitCell; rw [if_pos (by omega)]; omega
theorem bitCell_next (i : Nat) : bitCell (i + 1) (i % 8) = i + 8 := by
  unfold bitCell
  by_cases h : i % 8 = 7
  · rw [if_pos (by omega)]; omega
  · rw [if_neg (by omega)]; omega
theorem bitCell_same {i x : Nat} (hx : x < 8) (h : x ≠ i % 8) : bitCell (i + 1) x = bitCell i x := by
  unfold bitCell
  by_cases h7 : i % 8 = 7
  · rw [if_pos (by omega), if_neg (by omega)]; omega
  · by_cases h2 : i % 8 ≤ x
    · rw [if_pos (by omega), if_pos h2]; omega
    · rw [if_neg (by omega), if_neg h2]; omega
/-- The bits of a state stand over cells of the set alone. -/
def OverSet (s i k : Nat) : Prop := ∀ x, x < 8 → k.testBit x = true → s.testBit (bitCell i x) = true
theorem over_bit {s i k : Nat} (h : OverSet s i k) (hb : k.testBit (i % 8) = true) : s.testBit i = true := by
  have := h (i % 8) (by omega) hb; rwa [bitCell_self] at this
theorem over_same {s i k : Nat} (h : OverSet s i k) (hb : k.testBit (i % 8) = false) : OverSet s (i + 1) k := by
  intro x hx hk
  have hne : x ≠ i % 8 := fun e => by rw [e, hb] at hk; cases hk
  rw [bitCell_same hx hne]; exact h x hx hk
theorem over_sub {s i k : Nat} (hk8 : k < 256) (h : OverSet s i k) (hb : k.testBit (i % 8) = true) : OverSet s (i + 1) (k - 2 ^ (i % 8)) := by
  intro x hx hk
  rw [(sub_bits k hk8 (i % 8) (by omega) hb).2.2 x hx, Bool.and_eq_true] at hk
  have hne : x ≠ i % 8 := fun e => by rw [e] at hk; simp at hk
  rw [bitCell_same hx hne]; exact h x hx hk.1
theorem over_dn {s i k : Nat} (h : OverSet s i k) (hd : hasDn s i = true) : OverSet s (i + 1) (k ||| 2 ^ (i % 8)) := by
  intro x hx hk
  by_cases e : x = i % 8
  · rw [e, bitCell_next]; unfold hasDn at hd; rw [Bool.and_eq_true] at hd; exact hd.2
  · rw [Nat.testBit_or, Nat.testBit_two_pow] at hk
    have : decide (i % 8 = x) = false := by simp; omega
    rw [this, Bool.or_false] at hk
    rw [bitCell_same hx e]; exact h x hx hk
theorem over_rt {s i k : Nat} (h : OverSet s i k) (hb : k.testBit (i % 8) = false) (hd : hasRt s i = true) : OverSet s (i + 1) (k ||| 2 ^ (i % 8 + 1)) := by
  unfold hasRt at hd
  rw [Bool.and_eq_true, decide_eq_true_iff] at hd
  intro x hx hk
  by_cases e : x = i % 8 + 1
  · rw [e, bitCell_same (by omega) (by omega), bitCell_right]; exact hd.2
  · rw [Nat.testBit_or, Nat.testBit_two_pow] at hk
    have : decide (i % 8 + 1 = x) = false := by simp; omega
    rw [this, Bool.or_false] at hk
    have hne : x ≠ i % 8 := fun e2 => by rw [e2, hb] at hk; cases hk
    rw [bitCell_same hx hne]; exact h x hx hk

/-- The numbers of the cheapest price. -/
def wtC (p : Pr) (n : Int) (d : Dm) : Int := n + domPrice p d
def cheapDp (p : Pr) (s : Nat) : Nat → List Int := dp s (-1) min (wtC p) 0
theorem cheapDp_succ (p : Pr) (s i : Nat) : cheapDp p s (i + 1) = dpRow s (-1) min (wtC p) (cheapDp p s i) i 256 := rfl
def GoodAt (s i k : Nat) (v : Int) : Prop := v = -1 ∨ (0 ≤ v ∧ v ≤ 2000 * i ∧ OverSet s i k)
theorem good_put {s i k : Nat} {nx : List Int} {n : Int} (hl : nx.length = 256) (h : ∀ k v, nx[k]? = some v → GoodAt s i k v) (hk : k < 256) (h0 : 0 ≤ n) (h1 : n ≤ 2000 * i) (ho : OverSet s i k) : ∀ j v, (dpPut (-1) min nx k n)[j]? = some v → GoodAt s i j v := by
  refine dpPut_all h (by omega) (fun _ => .inr ⟨h0, h1, ho⟩) (fun v hv hne => ?_)
  rcases h k v hv with e | ⟨a, b, c⟩
  · exact absurd e hne
  · exact .inr ⟨by omega, by omega, c⟩
theorem good_one {p : Pr} {s i k : Nat} {nx : List Int} {n : Int} (hl : nx.length = 256) (h : ∀ k v, nx[k]? = some v → GoodAt s (i + 1) k v) (hk : k < 256) (hn : GoodAt s i k n) : ∀ j v, (dpOne s (-1) min (wtC p) i nx k n)[j]? = some v → GoodAt s (i + 1) j v := by
  unfold dpOne
  by_cases e : n = -1
  · rw [if_pos e]; exact h
  · rw [if_neg e]
    obtain ⟨h0, h1, ho⟩ := hn.resolve_left e
    have d1 := domPrice_in p (domDn i)
    have d2 := domPrice_in p (domRt i)
    rcases hs : s.testBit i with _ | _
    · rw [if_neg (by simp)]
      rcases hb : k.testBit (i % 8) with _ | _
      · rw [if_neg (by simp)]
        exact good_put hl h hk h0 (by omega) (over_same ho hb)
      · rw [if_pos rfl]; exact h
    · rw [if_pos rfl]
      rcases hb : k.testBit (i % 8) with _ | _
      · rw [if_neg (by simp)]
        have hdn : ∀ j v, (dpDn s (-1) min (wtC p) i nx k n)[j]? = some v → GoodAt s (i + 1) j v := by
          unfold dpDn
          rcases hd : hasDn s i with _ | _
          · rw [if_neg (by simp)]; exact h
          · rw [if_pos rfl]
            exact good_put hl h (or_lt k hk _ (by omega)) (by unfold wtC; omega) (by unfold wtC; omega) (over_dn ho hd)
        unfold dpRt
        rcases hr : (hasRt s i && !k.testBit (i % 8 + 1)) with _ | _
        · rw [if_neg (by simp)]; exact hdn
        · rw [if_pos rfl]
          rw [Bool.and_eq_true] at hr
          have hx : i % 8 < 7 := by have := hr.1; unfold hasRt at this; rw [Bool.and_eq_true, decide_eq_true_iff] at this; exact this.1
          exact good_put (by rw [dpDn_len]; exact hl) hdn (or_lt k hk _ (by omega)) (by unfold wtC; omega) (by unfold wtC; omega) (over_rt ho hb hr.1)
      · rw [if_pos rfl]
        exact good_put hl h (sub_bits k hk _ (by omega) hb).1 h0 (by omega) (over_sub hk ho hb)
theorem good_row {p : Pr} {s i : Nat} {now : List Int} (hn : ∀ k v, now[k]? = some v → GoodAt s i k v) (hl : now.length = 256) : ∀ K, K ≤ 256 → ∀ j v, (dpRow s (-1) min (wtC p) now i K)[j]? = some v → GoodAt s (i + 1) j v
  | 0, _ => by
    intro j v hj
    simp only [dpRow, List.range_zero, List.foldl_nil] at hj
    rw [List.getElem?_replicate] at hj
    split at hj
    · injection hj with hj; exact .inl hj.symm
    · cases hj
  | K + 1, hK => by
    rw [dpRow_succ]
    refine good_one (dpRow_len _ _ _) (good_row hn hl K (by omega)) (by omega) ?_
    rw [List.getD_eq_getElem?_getD, List.getElem?_eq_getElem (by omega), Option.getD_some]
    exact hn K _ (List.getElem?_eq_getElem (by omega))
theorem good_dp (p : Pr) (s : Nat) : ∀ i, ∀ k v, (cheapDp p s i)[k]? = some v → GoodAt s i k v
  | 0 => by
    intro k v hk
    unfold cheapDp dp at hk
    by_cases e : 0 = k
    · subst e
      rw [List.getElem?_set_self (by rw [List.length_replicate]; decide)] at hk
      injection hk with hk
      exact .inr ⟨by omega, by omega, fun x _ h => by simp at h⟩
    · rw [List.getElem?_set_ne e, List.getElem?_replicate] at hk
      split at hk
      · injection hk with hk; exact .inl hk.symm
      · cases hk
  | i + 1 => by
    intro k v hk
    rw [cheapDp_succ] at hk
    exact good_row (good_dp p s i) (dp_len i) 256 (Nat.le_refl _) k v hk
def cheapestPrice (p : Pr) (rows : List Int) : Int := if pricesOk p && regionOk rows then (cheapDp p (setOf rows) 64).getD 0 0 else -1
end Go.Proofs.Ytkbndchgmokabaa
