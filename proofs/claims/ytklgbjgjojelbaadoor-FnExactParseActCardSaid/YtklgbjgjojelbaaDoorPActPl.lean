/- The act that a line's words are the text of: plain laws. No program in sight. -/
import Derived.Test.YtklgbjgjojelbaaDoorPUint
import Derived.Test.YtklgbjgjojelbaaDoorSplit
namespace Go.Proofs.YtklgbjgjojelbaaDoor
open Go.RowKit
set_option linter.unusedVariables false
set_option linter.unusedSimpArgs false

abbrev F3 := Int × Int × Int
def joinB (F : List ByteArray) : ByteArray := toB (Lib.join (F.map fun x => x.data.toList) [32])
def WdOk (F : List ByteArray) : Prop := ∀ x ∈ F.map (fun x => x.data.toList), x ≠ [] ∧ NoSp x
def ActOf (F : List ByteArray) (x : F3) : Prop := actOk x.1 x.2.1 x.2.2 = true ∧ actTx x.1 x.2.1 x.2.2 = joinB F
theorem map_toB (F : List ByteArray) : (F.map fun x => x.data.toList).map toB = F := by
  rw [List.map_map]
  conv => rhs; rw [← List.map_id F]
  exact List.map_congr_left fun x _ => toB_self x
theorem wd_flds (s : ByteArray) : WdOk (flds s) := by
  intro x hx
  have e : (flds s).map (fun x => x.data.toList) = fg [] s.data.toList := by
    unfold flds
    rw [List.map_map]
    conv => rhs; rw [← List.map_id (fg [] s.data.toList)]
    exact List.map_congr_left fun x _ => toB_data x
  rw [e] at hx
  exact fg_all _ _ (fun _ h => by cases h) x hx
theorem actOf_words {F : List ByteArray} {x : F3} (hw : WdOk F) (h : ActOf F x) : F = (actF x.1 x.2.1 x.2.2).map toB := by
  have := words_of h.1 hw h.2
  rw [← this, map_toB]
theorem actOf_one {F : List ByteArray} {x y : F3} (hw : WdOk F) (h : ActOf F x) (h' : ActOf F y) : x = y := by
  have h1 := words_of h.1 hw h.2
  have h2 := words_of h'.1 hw h'.2
  obtain ⟨a, b, c⟩ := actF_inj h.1 h'.1 (h1.symm.trans h2)
  obtain ⟨x1, x2, x3⟩ := x
  obtain ⟨y1, y2, y3⟩ := y
  simp only at a b c
  subst a; subst b; subst c; rfl
open Classical in
/-- The act of a line, and whether it is one. -/
noncomputable def paX (s : ByteArray) : F3 := if h : lineOk s = true ∧ (flds s).length ≤ 3 ∧ ∃ x, ActOf (flds s) x then h.2.2.choose else (0, 0, 0)
open Classical in
noncomputable def paB (s : ByteArray) : Bool := decide (lineOk s = true ∧ (flds s).length ≤ 3 ∧ ∃ x, ActOf (flds s) x)
theorem pa_yes {s : ByteArray} {x : F3} (h1 : lineOk s = true) (h2 : (flds s).length ≤ 3) (h : ActOf (flds s) x) : paX s = x ∧ paB s = true := by
  have hx : lineOk s = true ∧ (flds s).length ≤ 3 ∧ ∃ x, ActOf (flds s) x := ⟨h1, h2, x, h⟩
  refine ⟨?_, ?_⟩
  · unfold paX; rw [dif_pos hx]; exact actOf_one (wd_flds s) hx.2.2.choose_spec h
  · unfold paB; simp only [decide_eq_true_eq]; exact hx
theorem pa_no {s : ByteArray} (h : ¬ (lineOk s = true ∧ (flds s).length ≤ 3 ∧ ∃ x, ActOf (flds s) x)) : paX s = (0, 0, 0) ∧ paB s = false := by
  refine ⟨?_, ?_⟩
  · unfold paX; rw [dif_neg h]
  · unfold paB; simp only [decide_eq_false_iff_not]; exact h
/-- The number of a word. -/
def wKind (x : ByteArray) : Int := if x = wFlip then 1 else if x = wBreak then 2 else if x = wBuy then 3 else if x = wUndo then 4 else if x = wAudit then 5 else 0
def nth (F : List ByteArray) (i : Nat) : ByteArray := F.getD i ByteArray.empty
noncomputable def l40 (s : ByteArray) : Int := if h : 1 < s.size then (if s[0].toNat = 45 then - puN (s.extract 1 s.size) else puN s) else puN s
theorem l40_in (s : ByteArray) : -1000000000 ≤ l40 s ∧ l40 s ≤ 1000000000 := by
  have h1 := pu_in s
  have h2 := pu_in (s.extract 1 s.size)
  unfold l40
  split
  · split <;> omega
  · omega
theorem numB_empty (n : Int) : numB n ≠ ByteArray.empty := by
  intro h
  have := congrArg (fun x : ByteArray => x.data.toList) h
  exact dec_ne n.toNat (by simpa [numB] using this)
theorem pu_empty : puN ByteArray.empty = 0 ∧ puB ByteArray.empty = false := pu_no fun n _ _ e => numB_empty n e
theorem l40_empty : l40 ByteArray.empty = 0 := by
  unfold l40
  rw [dif_neg (by decide)]
  exact pu_empty.1
theorem pu_num {a : Int} (h0 : 0 ≤ a) (h1 : a ≤ 1000000000) : puN (toB (Lib.decDigits a.toNat)) = a ∧ puB (toB (Lib.decDigits a.toNat)) = true := pu_yes h0 h1 rfl
theorem l40_num {a : Int} (h0 : 0 ≤ a) (h1 : a ≤ 1000000000) : l40 (toB (Lib.decDigits a.toNat)) = a := by
  unfold l40
  split
  · rename_i h
    have hl : 0 < (Lib.decDigits a.toNat).length := List.length_pos_iff.2 (dec_ne _)
    have h3 := dec_digits a.toNat _ (List.getElem_mem hl)
    have h4 : ¬ ((toB (Lib.decDigits a.toNat))[0].toNat = 45) := by
      have h5 : 48 ≤ (toB (Lib.decDigits a.toNat))[0].toNat := h3.1
      omega
    split
    · rename_i h6; exact absurd h6 h4
    · exact (pu_num h0 h1).1
  · exact (pu_num h0 h1).1
structure Det (F : List ByteArray) (x : F3) : Prop where
  kd : wKind (nth F 0) = x.1
  ka : puN (nth F 1) = x.2.1
  kb : puN (nth F 2) = x.2.2
  ha : l40 (nth F 1) = x.2.1
  hb : l40 (nth F 2) = x.2.2
  al : ∀ i, 0 < i → i < F.length → puB (nth F i) = true
  in1 : 1 ≤ x.1 ∧ x.1 ≤ 5
theorem toB_w1 : toB wFlip.data.toList = wFlip := rfl
theorem toB_w2 : toB wBreak.data.toList = wBreak := rfl
theorem toB_w3 : toB wBuy.data.toList = wBuy := rfl
theorem toB_w4 : toB wUndo.data.toList = wUndo := rfl
theorem toB_w5 : toB wAudit.data.toList = wAudit := rfl
theorem wKind_2 : wKind wBreak = 2 := by
  unfold wKind
  rw [if_neg (by intro h; have := congrArg ByteArray.size h; exact absurd this (by decide)), if_pos rfl]
theorem wKind_3 : wKind wBuy = 3 := by
  unfold wKind
  rw [if_neg (by intro h; have := congrArg ByteArray.size h; exact absurd this (by decide)), if_neg (by intro h; have := congrArg ByteArray.size h; exact absurd this (by decide)), if_pos rfl]
theorem ne_w {x y : ByteArray} (h : x.data.toList ≠ y.data.toList) : x ≠ y := fun e => h (by rw [e])
theorem wKind_4 : wKind wUndo = 4 := by
  unfold wKind
  rw [if_neg (ne_w (by decide)), if_neg (ne_w (by decide)), if_neg (ne_w (by decide)), if_pos rfl]
theorem wKind_5 : wKind wAudit = 5 := by
  unfold wKind
  rw [if_neg (ne_w (by decide)), if_neg (ne_w (by decide)), if_neg (ne_w (by decide)), if_neg (ne_w (by decide)), if_pos rfl]
theorem act_det {F : List ByteArray} {x : F3} (hw : WdOk F) (h : ActOf F x) : Det F x := by
  have hF := actOf_words hw h
  obtain ⟨k, a, b⟩ := x
  have hok := h.1
  simp only at hok hF
  have two : ∀ i : Nat, 0 < i → i < 3 → i = 1 ∨ i = 2 := by omega
  rcases actOk_cases hok with ⟨rfl, q1, q2, q3, q4⟩ | ⟨rfl, q1, q2, rfl⟩ | ⟨rfl, q1, q2, rfl⟩ | ⟨rfl, rfl, rfl⟩ | ⟨rfl, rfl, rfl⟩
  · have e : F = [wFlip, toB (Lib.decDigits a.toNat), toB (Lib.decDigits b.toNat)] := hF
    subst e
    have pa := pu_num q1 (by omega)
    have pb := pu_num q3 (by omega)
    refine ⟨by show wKind wFlip = 1; unfold wKind; rw [if_pos rfl], pa.1, pb.1, l40_num q1 (by omega), l40_num q3 (by omega), fun i h0 h1 => ?_, ⟨by show (1 : Int) ≤ _; omega, by show _ ≤ (5 : Int); omega⟩⟩
    rcases two i h0 h1 with rfl | rfl
    · exact pa.2
    · exact pb.2
  · have e : F = [wBreak, toB (Lib.decDigits a.toNat)] := hF
    subst e
    have pa := pu_num q1 (by omega)
    refine ⟨wKind_2, pa.1, pu_empty.1, l40_num q1 (by omega), l40_empty, fun i h0 h1 => ?_, ⟨by show (1 : Int) ≤ _; omega, by show _ ≤ (5 : Int); omega⟩⟩
    obtain rfl : i = 1 := by simp at h1; omega
    exact pa.2
  · have e : F = [wBuy, toB (Lib.decDigits a.toNat)] := hF
    subst e
    have pa := pu_num (a := a) (by omega) (by omega)
    refine ⟨wKind_3, pa.1, pu_empty.1, l40_num (by omega) (by omega), l40_empty, fun i h0 h1 => ?_, ⟨by show (1 : Int) ≤ _; omega, by show _ ≤ (5 : Int); omega⟩⟩
    obtain rfl : i = 1 := by simp at h1; omega
    exact pa.2
  · have e : F = [wUndo] := hF
    subst e
    exact ⟨wKind_4, pu_empty.1, pu_empty.1, l40_empty, l40_empty, fun i h0 h1 => by simp at h1; omega, by decide⟩
  · have e : F = [wAudit] := hF
    subst e
    exact ⟨wKind_5, pu_empty.1, pu_empty.1, l40_empty, l40_empty, fun i h0 h1 => by simp at h1; omega, by decide⟩
end Go.Proofs.YtklgbjgjojelbaaDoor
