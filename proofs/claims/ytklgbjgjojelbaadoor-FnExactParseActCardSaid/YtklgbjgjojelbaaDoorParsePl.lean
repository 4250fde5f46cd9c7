/- Lines cut at blanks, numbers and acts as texts, read back: plain laws. No program in sight. -/
import Derived.Test.YtklgbjgjojelbaaDoorFmtAct
import Derived.Lib.Atoi
namespace Go.Proofs.YtklgbjgjojelbaaDoor
open Go.RowKit
set_option linter.unusedVariables false
set_option linter.unusedSimpArgs false

abbrev Bs := List UInt8
/-- The words of a line behind a word that has begun. -/
def fg : Bs → Bs → List Bs
  | cur, [] => if cur = [] then [] else [cur]
  | cur, c :: r => if c = 32 then (if cur = [] then fg [] r else cur :: fg [] r) else fg (cur ++ [c]) r
def NoSp (l : Bs) : Prop := ∀ b ∈ l, b ≠ 32
theorem fg_word : ∀ (x cur r : Bs), NoSp x → fg cur (x ++ r) = fg (cur ++ x) r
  | [], cur, r, _ => by simp
  | c :: x, cur, r, h => by
    rw [List.cons_append, fg, if_neg (h c List.mem_cons_self), fg_word x (cur ++ [c]) r (fun b hb => h b (List.mem_cons_of_mem _ hb)), List.append_assoc]
    rfl
theorem fg_tail : ∀ (xs : List Bs) (cur : Bs), cur ≠ [] → (∀ x ∈ xs, x ≠ [] ∧ NoSp x) → fg cur (Lib.joinTail [32] xs) = cur :: xs
  | [], cur, hc, _ => by
    show fg cur [] = [cur]
    rw [fg, if_neg hc]
  | y :: xs, cur, hc, h => by
    have e : Lib.joinTail [32] (y :: xs) = 32 :: (y ++ Lib.joinTail [32] xs) := by simp [Lib.joinTail]
    have hy := h y List.mem_cons_self
    rw [e, fg, if_pos rfl, if_neg hc, fg_word y [] _ hy.2, List.nil_append, fg_tail xs y hy.1 (fun x hx => h x (List.mem_cons_of_mem _ hx))]
theorem fg_join : ∀ (xs : List Bs), (∀ x ∈ xs, x ≠ [] ∧ NoSp x) → fg [] (Lib.join xs [32]) = xs
  | [], _ => rfl
  | y :: xs, h => by
    have hy := h y List.mem_cons_self
    rw [Lib.join_cons, fg_word y [] _ hy.2, List.nil_append, fg_tail xs y hy.1 (fun x hx => h x (List.mem_cons_of_mem _ hx))]
theorem fg_all : ∀ (l cur : Bs), NoSp cur → ∀ x ∈ fg cur l, x ≠ [] ∧ NoSp x
  | [], cur, hc, x, hx => by
    rw [fg] at hx
    by_cases h : cur = []
    · rw [if_pos h] at hx; cases hx
    · rw [if_neg h] at hx
      obtain rfl : x = cur := by simpa using hx
      exact ⟨h, hc⟩
  | c :: r, cur, hc, x, hx => by
    rw [fg] at hx
    by_cases h32 : c = 32
    · rw [if_pos h32] at hx
      by_cases h : cur = []
      · rw [if_pos h] at hx; exact fg_all r [] (fun _ h => by cases h) x hx
      · rw [if_neg h] at hx
        rcases List.mem_cons.1 hx with rfl | hx
        · exact ⟨h, hc⟩
        · exact fg_all r [] (fun _ h => by cases h) x hx
    · rw [if_neg h32] at hx
      refine fg_all r (cur ++ [c]) (fun b hb => ?_) x hx
      rcases List.mem_append.1 hb with hb | hb
      · exact hc b hb
      · obtain rfl : b = c := by simpa using hb
        exact h32

/-! ### Numbers -/
theorem dec_digits (u : Nat) : ∀ b ∈ Lib.decDigits u, 48 ≤ b.toNat ∧ b.toNat ≤ 57 := by
  induction u using Nat.strongRecOn with
  | _ u ih =>
    intro b hb
    have one : ∀ d : Nat, d < 10 → 48 ≤ (UInt8.ofNat (48 + d)).toNat ∧ (UInt8.ofNat (48 + d)).toNat ≤ 57 := by
      intro d hd
      rw [UInt8.toNat_ofNat']
      omega
    by_cases h : u < 10
    · rw [Lib.decDigits_one h] at hb
      rw [List.mem_singleton.1 hb]
      exact one u h
    · rw [Lib.decDigits.eq_1 u, dif_neg h] at hb
      rcases List.mem_append.1 hb with hb | hb
      · exact ih (u / 10) (by omega) b hb
      · rw [List.mem_singleton.1 hb]
        exact one (u % 10) (by omega)
theorem dec_ne (u : Nat) : Lib.decDigits u ≠ [] := by
  intro h
  have := Lib.decDigits_length u
  have h2 := Lib.nDigits_pos u
  rw [h] at this
  simp at this
  omega
/-- What the digits come to. -/
def dv (a : Nat) (l : Bs) : Nat := l.foldl (fun a b => 10 * a + (b.toNat - 48)) a
theorem dv_dec (u : Nat) : dv 0 (Lib.decDigits u) = u := by
  induction u using Nat.strongRecOn with
  | _ u ih =>
    by_cases h : u < 10
    · rw [Lib.decDigits_one h]
      show 10 * 0 + ((UInt8.ofNat (48 + u)).toNat - 48) = u
      rw [UInt8.toNat_ofNat']; omega
    · rw [Lib.decDigits.eq_1 u, dif_neg h]
      unfold dv at ih ⊢
      rw [List.foldl_append, ih (u / 10) (by omega)]
      show 10 * (u / 10) + ((UInt8.ofNat (48 + u % 10)).toNat - 48) = u
      rw [UInt8.toNat_ofNat']; omega
theorem dec_inj {u v : Nat} (h : Lib.decDigits u = Lib.decDigits v) : u = v := by rw [← dv_dec u, h, dv_dec]
theorem numB_inj {a b : Int} (ha : 0 ≤ a) (hb : 0 ≤ b) (h : numB a = numB b) : a = b := by
  have h1 : Lib.decDigits a.toNat = Lib.decDigits b.toNat := by
    have := congrArg (fun x : ByteArray => x.data.toList) h
    simpa [numB] using this
  have := dec_inj h1
  omega
theorem digit_of {b : UInt8} (h : 48 ≤ b.toNat ∧ b.toNat ≤ 57) : Lib.digitVal b = some (b.toNat - 48) := by
  unfold Lib.digitVal
  split
  · rfl
  · rename_i h2; exact absurd h (by simpa using h2)
theorem decFrom_dv : ∀ (l : Bs) (a : Nat), (∀ b ∈ l, 48 ≤ b.toNat ∧ b.toNat ≤ 57) → Lib.decFrom a l = some (dv a l)
  | [], a, _ => rfl
  | b :: l, a, h => by
    have hb := digit_of (h b List.mem_cons_self)
    have ih := decFrom_dv l (10 * a + (b.toNat - 48)) (fun x hx => h x (List.mem_cons_of_mem _ hx))
    unfold Lib.decFrom
    rw [hb]
    show Lib.decFrom (a * 10 + (b.toNat - 48)) l = _
    rw [Nat.mul_comm a 10, ih]
    rfl
theorem atoi_dec (u : Nat) : Lib.atoi (Lib.decDigits u) = some (u : Int) := by
  have hd := dec_digits u
  have hv := dv_dec u
  have hn := dec_ne u
  cases h : Lib.decDigits u with
  | nil => exact absurd h hn
  | cons b r =>
    rw [h] at hd hv
    have hb := hd b List.mem_cons_self
    have n45 : (b == 45) = false := by
      rw [beq_eq_false_iff_ne]; intro e; rw [e] at hb; exact absurd hb (by decide)
    have n43 : (b == 43) = false := by
      rw [beq_eq_false_iff_ne]; intro e; rw [e] at hb; exact absurd hb (by decide)
    unfold Lib.atoi
    simp only [n45, n43, Bool.false_eq_true, if_false]
    have : Lib.decNat (b :: r) = some u := by
      show Lib.decFrom 0 (b :: r) = some u
      rw [decFrom_dv _ _ hd, hv]
    rw [this]
    rfl
theorem nDigits_le : ∀ (k u : Nat), u < 10 ^ (k + 1) → Lib.nDigits u ≤ k + 1
  | 0, u, h => by rw [Lib.nDigits_small (by simpa using h)]; exact Nat.le_refl _
  | k + 1, u, h => by
    by_cases h10 : u < 10
    · rw [Lib.nDigits_small h10]; omega
    · rw [Lib.nDigits_big h10]
      have := nDigits_le k (u / 10) (by rw [Nat.pow_succ] at h; omega)
      omega
theorem numB_size10 {n : Int} (h0 : 0 ≤ n) (h1 : n ≤ 1000000000) : (numB n).size ≤ 10 := by
  have h2 := nDigits_le 9 n.toNat (by omega)
  rw [← Lib.decDigits_length] at h2
  simpa [numB, ByteArray.size] using h2
open Classical in
/-- The number whose numeral the text is, up to the greatest that is read. -/
noncomputable def puN (s : ByteArray) : Int := if h : ∃ n : Int, (0 ≤ n ∧ n ≤ 1000000000) ∧ numB n = s then h.choose else 0
open Classical in
noncomputable def puB (s : ByteArray) : Bool := decide (∃ n : Int, (0 ≤ n ∧ n ≤ 1000000000) ∧ numB n = s)
theorem pu_yes {n : Int} {s : ByteArray} (h0 : 0 ≤ n) (h1 : n ≤ 1000000000) (hs : numB n = s) : puN s = n ∧ puB s = true := by
  have hx : ∃ n : Int, (0 ≤ n ∧ n ≤ 1000000000) ∧ numB n = s := ⟨n, ⟨h0, h1⟩, hs⟩
  refine ⟨?_, ?_⟩
  · unfold puN
    rw [dif_pos hx]
    exact numB_inj hx.choose_spec.1.1 h0 (hx.choose_spec.2.trans hs.symm)
  · unfold puB; simp only [decide_eq_true_eq]; exact hx
theorem pu_no {s : ByteArray} (h : ∀ n : Int, 0 ≤ n → n ≤ 1000000000 → numB n ≠ s) : puN s = 0 ∧ puB s = false := by
  have hx : ¬ ∃ n : Int, (0 ≤ n ∧ n ≤ 1000000000) ∧ numB n = s := fun ⟨n, hn, e⟩ => h n hn.1 hn.2 e
  refine ⟨?_, ?_⟩
  · unfold puN; rw [dif_neg hx]
  · unfold puB; simp only [decide_eq_false_iff_not]; exact hx
theorem pu_in (s : ByteArray) : 0 ≤ puN s ∧ puN s ≤ 1000000000 := by
  by_cases hx : ∃ n : Int, (0 ≤ n ∧ n ≤ 1000000000) ∧ numB n = s
  · obtain ⟨n, hn, e⟩ := hx
    rw [(pu_yes hn.1 hn.2 e).1]; exact hn
  · rw [(pu_no (fun n h0 h1 e => hx ⟨n, ⟨h0, h1⟩, e⟩)).1]; omega

/-! ### Acts -/
def toB (l : Bs) : ByteArray := ⟨l.toArray⟩
theorem toB_data (l : Bs) : (toB l).data.toList = l := rfl
theorem toB_inj {a b : Bs} (h : toB a = toB b) : a = b := by
  have := congrArg (fun x : ByteArray => x.data.toList) h
  exact this
theorem toB_self (s : ByteArray) : toB s.data.toList = s := by cases s; rfl
/-- The words of an act's text. -/
def actF (k a b : Int) : List Bs :=
  if k = 1 then [wFlip.data.toList, Lib.decDigits a.toNat, Lib.decDigits b.toNat] else if k = 2 then [wBreak.data.toList, Lib.decDigits a.toNat] else if k = 3 then [wBuy.data.toList, Lib.decDigits a.toNat]
  else if k = 4 then [wUndo.data.toList] else [wAudit.data.toList]
theorem lineB_join (word : ByteArray) (l : List Int) : lineB word l = toB (Lib.join (word.data.toList :: l.map fun x => Lib.decDigits x.toNat) [32]) := by
  rw [← join_lineB]
  unfold toB
  simp [numB, Function.comp_def]
theorem actTx_join {k a b : Int} (h : actOk k a b = true) : actTx k a b = toB (Lib.join (actF k a b) [32]) := by
  rcases actOk_cases h with ⟨rfl, _⟩ | ⟨rfl, _⟩ | ⟨rfl, _⟩ | ⟨rfl, _⟩ | ⟨rfl, _⟩
  · exact lineB_join wFlip [a, b]
  · exact lineB_join wBreak [a]
  · exact lineB_join wBuy [a]
  · show wUndo = toB (Lib.join [wUndo.data.toList] [32]); rw [Lib.join_one]; rfl
  · show wAudit = toB (Lib.join [wAudit.data.toList] [32]); rw [Lib.join_one]; rfl
theorem dec_ok (u : Nat) : Lib.decDigits u ≠ [] ∧ NoSp (Lib.decDigits u) := by
  refine ⟨dec_ne u, fun b hb e => ?_⟩
  have := dec_digits u b hb
  rw [e] at this
  exact absurd this (by decide)
theorem actF_ok (k a b : Int) : ∀ x ∈ actF k a b, x ≠ [] ∧ NoSp x := by
  have w1 : wFlip.data.toList ≠ [] ∧ NoSp wFlip.data.toList := ⟨by decide, by unfold NoSp; decide⟩
  have w2 : wBreak.data.toList ≠ [] ∧ NoSp wBreak.data.toList := ⟨by decide, by unfold NoSp; decide⟩
  have w3 : wBuy.data.toList ≠ [] ∧ NoSp wBuy.data.toList := ⟨by decide, by unfold NoSp; decide⟩
  have w4 : wUndo.data.toList ≠ [] ∧ NoSp wUndo.data.toList := ⟨by decide, by unfold NoSp; decide⟩
  have w5 : wAudit.data.toList ≠ [] ∧ NoSp wAudit.data.toList := ⟨by decide, by unfold NoSp; decide⟩
  have da := dec_ok a.toNat
  have db := dec_ok b.toNat
  intro x hx
  unfold actF at hx
  split at hx
  · rcases List.mem_cons.1 hx with rfl | hx
    · exact w1
    · rcases List.mem_cons.1 hx with rfl | hx
      · exact da
      · obtain rfl : x = _ := by simpa using hx
        exact db
  · split at hx
    · rcases List.mem_cons.1 hx with rfl | hx
      · exact w2
      · obtain rfl : x = _ := by simpa using hx
        exact da
    · split at hx
      · rcases List.mem_cons.1 hx with rfl | hx
        · exact w3
        · obtain rfl : x = _ := by simpa using hx
          exact da
      · split at hx
        · obtain rfl : x = _ := by simpa using hx
          exact w4
        · obtain rfl : x = _ := by simpa using hx
          exact w5
/-- A line that is an act's text has the act's words. -/
theorem words_of {k a b : Int} (h : actOk k a b = true) {xs : List Bs} (hx : ∀ x ∈ xs, x ≠ [] ∧ NoSp x) (e : actTx k a b = toB (Lib.join xs [32])) : xs = actF k a b := by
  rw [actTx_join h] at e
  have := congrArg (fg []) (toB_inj e)
  rw [fg_join _ (actF_ok k a b), fg_join _ hx] at this
  exact this.symm
theorem actF_inj {k a b k' a' b' : Int} (h : actOk k a b = true) (h' : actOk k' a' b' = true) (e : actF k a b = actF k' a' b') : k = k' ∧ a = a' ∧ b = b' := by
  have wd : ∀ {x y : ByteArray} {l m : List Bs}, x.data.toList :: l = y.data.toList :: m → x.data.toList = y.data.toList := fun e => (List.cons.inj e).1
  rcases actOk_cases h with ⟨rfl, q1, q2, q3, q4⟩ | ⟨rfl, q1, q2, rfl⟩ | ⟨rfl, q1, q2, rfl⟩ | ⟨rfl, rfl, rfl⟩ | ⟨rfl, rfl, rfl⟩ <;>
  rcases actOk_cases h' with ⟨rfl, p1, p2, p3, p4⟩ | ⟨rfl, p1, p2, rfl⟩ | ⟨rfl, p1, p2, rfl⟩ | ⟨rfl, rfl, rfl⟩ | ⟨rfl, rfl, rfl⟩ <;>
  first
    | exact absurd (wd e) (by decide)
    | exact ⟨rfl, rfl, rfl⟩
    | (have e1 := (List.cons.inj e).2
       have e2 := dec_inj (List.cons.inj e1).1
       have e3 := dec_inj (List.cons.inj (List.cons.inj e1).2).1
       exact ⟨rfl, by omega, by omega⟩)
    | (have e1 := (List.cons.inj e).2
       have e2 := dec_inj (List.cons.inj e1).1
       exact ⟨rfl, by omega, rfl⟩)
end Go.Proofs.YtklgbjgjojelbaaDoor
