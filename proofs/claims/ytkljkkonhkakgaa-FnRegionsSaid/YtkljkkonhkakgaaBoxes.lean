/- The walks of BoxesOk, of the program and of the reference. No conditions. -/
import Derived.Test.YtkljkkonhkakgaaBase
namespace Go.Proofs.Ytkljkkonhkakgaa
open Go.RowKit
set_option linter.unusedVariables false

def inB (n a b : Int) : Bool := decide (a ≤ n) && decide (n ≤ b)

theorem within_any (n a b : Int) (w : World) :
    Calls Try.prog 97 #[.int .i64 n, .int .i64 a, .int .i64 b] w (Pure (.bool (inB n a b)) w) := by
  go_enter Try.func97, Try.ntmps97
  go_wp2
  all_goals go_ret
  all_goals exact ⟨by simp_all [inB] <;> omega, rfl⟩

theorem in_any (n a b : Int) (w : World) :
    Calls Try.prog 99 #[.int .i64 n, .int .i64 a, .int .i64 b] w (Pure (.bool (inB n a b)) w) := by
  go_enter Try.func99, Try.ntmps99
  go_wp2
  all_goals go_ret
  all_goals exact ⟨by simp_all [inB] <;> omega, rfl⟩

def boxesOk : List (Int × Int) → Int → Bool
  | [], n => inB n 1 5
  | x :: xs, n => if !inB x.1 1 50 || !inB x.2 1 1000 then false else boxesOk xs n

theorem boxesOkI_any (v : Value) (l : List (Int × Int)) (w : World) (h : Rd 2 RPair w v l) :
    Calls Try.prog 22 #[v] w (Ret (.bool (boxesOk l l.length)) w) := by
  obtain ⟨A, c, rfl, hc, hm⟩ := h.form
  go_enter Try.func22, Try.ntmps22
  go_wp2
  go_loopw [7] (fun i wr => ∃ k : Nat, k ≤ l.length ∧ i = .int .i64 k ∧ Hid (boxesOk (l.drop k) l.length = boxesOk l l.length) ∧ Below w.heap.size w wr) (fun i _ => l.length - (intOf i).toNat)
  case atStart => exact ⟨0, Nat.zero_le _, rfl, Lib.hid rfl, Below.refl _ _⟩
  case round =>
    obtain ⟨k, hk, rfl, Hg, hbel⟩ := hrel
    by_cases hlt : k < l.length
    · obtain ⟨b, off, rfl, hb, h1, h2⟩ := (h.below RE.stays hbel).atPair hlt
      go_wp2_with (go_at_call 97; (with_reducible refine (within_any _ _ _ _).mono ?_); rintro e w' ⟨rfl, rfl⟩)
      all_goals first
        | (go_roundw
           case rel => exact ⟨k + 1, by omega, by go_num, Lib.hid (by rw [← Hg.out, List.drop_eq_getElem_cons hlt]; simp_all [boxesOk]), by exact Below.alloc hbel hbel.size _⟩
           case measure => simp [intOf]; omega)
        | (go_ret
           exact ⟨by congr 2; rw [← Hg.out, List.drop_eq_getElem_cons hlt]; simp_all [boxesOk], Below.alloc hbel hbel.size _⟩)
    · go_wp2_with (go_at_call 97; (with_reducible refine (within_any _ _ _ _).mono ?_); rintro e w' ⟨rfl, rfl⟩)
      go_ret
      have hke : k = l.length := by omega
      exact ⟨by congr 2; rw [← Hg.out, hke, List.drop_length]; rfl, hbel⟩

theorem boxesOkS_any (v : Value) (l : List (Int × Int)) (w : World) (h : Rd 2 RPair w v l) :
    Calls Try.prog 163 #[v] w (Pure (.bool (boxesOk l l.length)) w) := by
  obtain ⟨A, c, rfl, hc, hm⟩ := h.form
  go_enter Try.func163, Try.ntmps163
  go_wp2
  go_loop [3] (fun i => ∃ k : Nat, k ≤ l.length ∧ i = .int .i64 k ∧ Hid (boxesOk (l.drop k) l.length = boxesOk l l.length)) (fun i => l.length - (intOf i).toNat)
  case atStart => exact ⟨0, Nat.zero_le _, rfl, Lib.hid rfl⟩
  case round =>
    obtain ⟨k, hk, rfl, Hg⟩ := hrel
    by_cases hlt : k < l.length
    · obtain ⟨b, off, rfl, hb, h1, h2⟩ := h.atPair hlt
      go_wp2_with (go_at_call 99; (with_reducible refine (in_any _ _ _ _).mono ?_); rintro e w' ⟨rfl, rfl⟩)
      all_goals first
        | (go_round
           case rel => exact ⟨k + 1, by omega, by go_num, Lib.hid (by rw [← Hg.out, List.drop_eq_getElem_cons hlt]; simp_all [boxesOk])⟩
           case measure => simp [intOf]; omega)
        | (go_ret
           exact ⟨retB (by rw [← Hg.out, List.drop_eq_getElem_cons hlt]; simp_all [boxesOk]), rfl⟩)
    · go_wp2_with (go_at_call 99; (with_reducible refine (in_any _ _ _ _).mono ?_); rintro e w' ⟨rfl, rfl⟩)
      go_ret
      have hke : k = l.length := by omega
      exact ⟨retB (by rw [← Hg.out, hke, List.drop_length]; rfl), rfl⟩
end Go.Proofs.Ytkljkkonhkakgaa
