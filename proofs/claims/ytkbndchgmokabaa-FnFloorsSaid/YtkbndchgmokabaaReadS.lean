/- ReadFloor of the reference: the walk. No conditions but sizes. -/
import Derived.Test.YtkbndchgmokabaaReadI
namespace Go.Proofs.Ytkbndchgmokabaa
open Go.ChangeShapes Go.WideShapes Go.ChangeAt Go.RowKit
set_option linter.unusedVariables false
set_option linter.unusedSimpArgs false

section
variable {α β : Type} {E1 E2 : TypeId} {s1 s2 : Nat} {e1 : α → List Value} {e2 : β → List Value} {B1 B2 : Nat} {w w' : World} {v1 v2 : Value} {l1 : List α} {l2 : List β}
/-- Lists of the call's own with elements of different types share no block. -/
theorem OwnL.two (a : OwnL E1 s1 e1 B1 w v1 l1) (b : OwnL E2 s2 e2 B2 w v2 l2) (hne : E1 ≠ E2) {g : Nat} (h1 : v1.ownBlock = some g) : v2.ownBlock ≠ some g := by
  rcases b.2 with ⟨rfl, _⟩ | ⟨g2, cap, cur, rfl, _, hh, _⟩
  · simp [Value.ownBlock]
  · intro he
    have : g2 = g := by simpa [Value.ownBlock] using he
    subst this
    exact (a.apart (g := g2) (t := E2) (cs := cur) hh hne) h1
theorem OwnL.keptE (a : OwnL E1 s1 e1 B1 w v1 l1) (b : OwnL E2 s2 e2 B2 w v2 l2) (hne : E1 ≠ E2) (hg : w.grownBy w' v2.ownBlock) : OwnL E1 s1 e1 B1 w' v1 l1 := by
  refine World.ownsRow.kept a hg ?_
  rcases h1 : v1.ownBlock with _ | g1
  · exact .inl rfl
  · exact .inr fun h => a.two b hne h1 h.symm
end
theorem wrap_pow_i64 {k : Nat} (hk : k < 8) : (2 : Int) ^ k = ((2 ^ k : Nat) : Int) ∧ 2 ^ k ≤ 128 :=
  ⟨by simp, Nat.le_trans (Nat.pow_le_pow_right (by decide) (show k ≤ 7 by omega)) (by decide)⟩

set_option maxHeartbeats 4000000 in
set_option maxRecDepth 100000 in
theorem readS_any (v : Value) (ls : List ByteArray) (w : World) (h : Rd 1 (RE eStr) w v ls) : Calls Try.prog 45 #[v] w (RetRead (readRows ls) (readDoms ls) (readOk ls) w) := by
  obtain ⟨A, c, rfl, hc, hm⟩ := h.form
  have hA := ((Below.refl w.heap.size w).al (.cells #[.slice none 0 0] 31)).al (.cells #[.slice none 0 0] 31)
  have bR := (Blk.new_ w 31 #[.slice none 0 0]).alloc (.cells #[.slice none 0 0] 31)
  have bN := Blk.new2 (w.alloc (.cells #[.slice none 0 0] 31)) 31 #[.slice none 0 0] (w.heap.size + 1) (by simp)
  have own0 := own_mt ((w.alloc (.cells #[.slice none 0 0] 31)).alloc (.cells #[.slice none 0 0] 31)) (E := 73) (size := 3) (enc := eDom) (w.heap.size + 1 + 1) (by simp) (w.alloc (.cells #[.slice none 0 0] 31)).heap.size (by simp)
  have B0 := ((Below.refl (w.alloc (.cells #[.slice none 0 0] 31)).heap.size (w.alloc (.cells #[.slice none 0 0] 31))).al (.cells #[.slice none 0 0] 31)).al (.cells #[] 73)
  have hA1 := ((Below.refl w.heap.size w).al (.cells #[.slice none 0 0] 31))
  have bR1 := Blk.new_ w 31 #[.slice none 0 0]
  have hn0 : w.heap.size ≠ w.heap.size + 1 := by omega
  by_cases h8 : ls.length ≤ 8
  · have h8I : (ls.length : Int) ≤ 8 := by omega
    go_enter Try.func45, Try.ntmps45
    go_wp2
    go_loopw [6, 7] (fun s6 s7 wr => ∃ (y : Nat) (D : Option Addr) (d : Nat) (A1 : Option Addr) (c1 : Nat), y ≤ ls.length ∧ s7 = .int .i64 y ∧ s6 = .slice D (domsTo ls y).length d ∧ OwnL 73 3 eDom (w.alloc (.cells #[.slice none 0 0] 31)).heap.size wr (.slice D (domsTo ls y).length d) (domsTo ls y) ∧ OwnL 3 1 eInt (w.alloc (.cells #[.slice none 0 0] 31)).heap.size wr (.slice A1 y c1) (rowsTo ls y) ∧ Blk wr (w.heap.size + 1) 31 #[.slice A1 y c1] ∧ Below (w.alloc (.cells #[.slice none 0 0] 31)).heap.size (w.alloc (.cells #[.slice none 0 0] 31)) wr) (fun _ i _ => ls.length - (intOf i).toNat)
    case atStart => exact ⟨0, _, _, none, 0, Nat.zero_le _, rfl, rfl, own0, own_nil _, bN.alloc _, B0⟩
    case round =>
      obtain ⟨y, D, d, A1, c1, hy, rfl, rfl, hown, hRo, hbN0, hbel0⟩ := hrel
      clear own0 B0
      have hR := bR1.bl hbel0
      have hbel := hA1.tr hbel0
      by_cases hlt : y < ls.length
      · have hy8 : y < 8 := by omega
        have hlen := domsTo_le ls y
        have hltI : (y : Int) < (ls.length : Int) := by omega
        have hy0 : (0 : Int) ≤ (y : Int) := by omega
        obtain ⟨S, hS⟩ : ∃ S, S = lineAt ls y := ⟨_, rfl⟩
        have HS := Lib.hid hS; clear hS
        by_cases hS8 : S.size = 8
        · have h8S : (S.size : Int) = 8 := by omega
          have h8B : ((S.size : Int) == 8) = true := by simp [hS8]
          have HS8 := Lib.hid hS8
          have hSl : S.size ≤ 8 := by omega
          have hSl2 : 8 ≤ S.size := by omega
          obtain ⟨L, hL⟩ : ∃ L, L = domsTo ls y := ⟨_, rfl⟩
          obtain ⟨R, hR0⟩ : ∃ R, R = rowsTo ls y := ⟨_, rfl⟩
          have hRl : R.length = y := by rw [hR0]; exact rowsTo_len _ _
          rw [← hL] at hown hlen ⊢
          rw [← hR0] at hRo
          have HRl := Lib.hid hRl; clear hRl
          have HL := Lib.hid hL; have HR := Lib.hid hR0; clear hL hS8 hR0 h8S
          go_wp2
          go_loopw [6, 8, 9] (fun s6 s8 s9 wr => ∃ (k : Nat) (D : Option Addr) (d : Nat), k ≤ 8 ∧ s9 = .int .i64 k ∧ s8 = .int .i64 (rowLine S k : Nat) ∧ s6 = .slice D (L ++ domsLine S y k).length d ∧ OwnL 73 3 eDom (w.alloc (.cells #[.slice none 0 0] 31)).heap.size wr (.slice D (L ++ domsLine S y k).length d) (L ++ domsLine S y k) ∧ OwnL 3 1 eInt (w.alloc (.cells #[.slice none 0 0] 31)).heap.size wr (.slice A1 y c1) R ∧ Blk wr (w.heap.size + 1) 31 #[.slice A1 y c1] ∧ Below (w.alloc (.cells #[.slice none 0 0] 31)).heap.size (w.alloc (.cells #[.slice none 0 0] 31)) wr) (fun _ _ i _ => 8 - (intOf i).toNat)
          case atStart => exact ⟨0, D, d, by omega, rfl, rfl, by simp [domsLine], by simpa [domsLine] using hown, hRo, hbN0, hbel0⟩
          case round =>
            obtain ⟨k, Dk, dk, hk, rfl, rfl, rfl, hownk, hRk, hbN, hbk⟩ := hrel
            obtain ⟨b, off, rfl, hb, q1⟩ := (h.below RE.stays (hA1.tr hbk)).atStr hlt
            rw [← lineAt_get ls y hlt, ← HS.out] at q1
            by_cases hk8 : k < 8
            · have hkS : k < S.size := by omega
              have hkI : (k : Int) < (S.size : Int) := by omega
              obtain ⟨t46, t60, t94⟩ := ch_tests hkS
              have hdl := domsLine_le S y k
              have hsu := domsLine_succ S y k
              obtain ⟨e2, e3⟩ := wrap_pow_i64 hk8
              have hrl := rowLine_lt S k
              have hrs : rowLine S (k + 1) = rowLine S k + if chAt S k = 46 then 0 else 2 ^ k := rfl
              have hll : (L ++ domsLine S y k).length ≤ 64 := by rw [List.length_append]; omega
              obtain ⟨p, hp⟩ : ∃ p, p = 2 ^ k := ⟨_, rfl⟩
              obtain ⟨r, hr⟩ : ∃ r, r = rowLine S k := ⟨_, rfl⟩
              obtain ⟨M, hM⟩ : ∃ M, M = L ++ domsLine S y k := ⟨_, rfl⟩
              rw [← hp] at hrl hrs e2 e3
              rw [← hr] at hrl hrs ⊢
              rw [← hM] at hll hownk ⊢
              have hsu2 : L ++ domsLine S y (k + 1) = M ++ domAtCh S y k := by rw [hsu, ← List.append_assoc, hM]
              have H8 : Hid ((M.length + 1) * 24 ≤ 140737488355328) := Lib.hid (by omega)
              have HM : Hid (M.length + 1 ≤ maxLen) := Lib.hid (by unfold maxLen; omega)
              have Hsu := Lib.hid hsu2; have Hr := Lib.hid hr; have HMM := Lib.hid hM; have Hp := Lib.hid hp
              clear hsu2 hsu hr hM hp
              have z1 := hbN.c1
              by_cases h46 : chAt S k = 46
              · rw [decide_eq_true h46] at t46
                rw [h46] at t60 t94
                rw [if_pos h46] at hrs
                have e : domAtCh S y k = [] := by unfold domAtCh; rw [h46]; rfl
                have E := Lib.hid e; have Hrs := Lib.hid hrs; clear e h46 hrs
                go_wp2
                go_roundw
                case rel => exact ⟨k + 1, Dk, dk, by omega, by go_num, by rw [Hrs.out]; rfl, by rw [Hsu.out, E.out, List.append_nil], by rw [Hsu.out, E.out, List.append_nil]; exact hownk, hRk, hbN, hbk⟩
                case measure => simp [intOf]; omega
              · rw [decide_eq_false h46] at t46
                rw [if_neg h46] at hrs
                have Hrs := Lib.hid hrs; clear hrs
                have hrp : (0 : Int) ≤ (r : Int) + (p : Int) := by omega
                by_cases h60 : chAt S k = 60
                · rw [h60] at t60 t94
                  have e : domAtCh S y k = [((k : Int), (y : Int), false)] := by unfold domAtCh; rw [h60]; rfl
                  have E := Lib.hid e; clear e h60 h46
                  go_wp2_with (at_builtin; go_must (refine wpList_app1g (enc := eDom) rowDom lenDom oneDom hbk hownk ((k : Int), (y : Int), false) H8.out HM.out (by simp) rfl _ _ rfl rfl rfl ?_); intro v6 w6 own6 hb6 hg6 hd6; obtain ⟨A6, c6, rfl, hc6, hm6⟩ := own6.form)
                  go_roundw
                  case rel => exact ⟨k + 1, A6, c6, by omega, by go_num, by rw [Hrs.out]; go_num, by rw [Hsu.out, E.out]; simp, by rw [Hsu.out, E.out]; exact own6, (hRk.alloc _).keptE (hownk.alloc _) (by decide) hg6, (hbN.alloc _).grown hg6 (fun e => (hownk.apart hbN (by decide)) e.symm), hb6⟩
                  case measure => simp [intOf]; omega
                · rw [decide_eq_false h60] at t60
                  by_cases h94 : chAt S k = 94
                  · rw [decide_eq_true h94] at t94
                    have e : domAtCh S y k = [((k : Int), (y : Int), true)] := by unfold domAtCh; rw [if_neg h60, if_pos h94]
                    have E := Lib.hid e; clear e h60 h94 h46
                    go_wp2_with (at_builtin; go_must (refine wpList_app1g (enc := eDom) rowDom lenDom oneDom hbk hownk ((k : Int), (y : Int), true) H8.out HM.out (by simp) rfl _ _ rfl rfl rfl ?_); intro v6 w6 own6 hb6 hg6 hd6; obtain ⟨A6, c6, rfl, hc6, hm6⟩ := own6.form)
                    go_roundw
                    case rel => exact ⟨k + 1, A6, c6, by omega, by go_num, by rw [Hrs.out]; go_num, by rw [Hsu.out, E.out]; simp, by rw [Hsu.out, E.out]; exact own6, (hRk.alloc _).keptE (hownk.alloc _) (by decide) hg6, (hbN.alloc _).grown hg6 (fun e => (hownk.apart hbN (by decide)) e.symm), hb6⟩
                    case measure => simp [intOf]; omega
                  · rw [decide_eq_false h94] at t94
                    have e : domAtCh S y k = [] := by unfold domAtCh; rw [if_neg h60, if_neg h94]
                    have E := Lib.hid e; clear e h60 h94 h46
                    go_wp2
                    go_roundw
                    case rel => exact ⟨k + 1, Dk, dk, by omega, by go_num, by rw [Hrs.out]; go_num, by rw [Hsu.out, E.out, List.append_nil], by rw [Hsu.out, E.out, List.append_nil]; exact hownk, hRk, hbN, hbk⟩
                    case measure => simp [intOf]; omega
            · obtain rfl : k = 8 := by omega
              have e1 : domsTo ls (y + 1) = L ++ domsLine S y 8 := by rw [domsTo_succ, ← HL.out]; unfold lineDoms; rw [← HS.out, if_pos HS8.out]
              have E1 := Lib.hid e1; clear e1
              have Hrow : Hid ((rowOf ls y : Int) = (rowLine S 8 : Nat)) := Lib.hid (by unfold rowOf; rw [← HS.out, if_pos HS8.out])
              have hrl := rowLine_lt S 8
              obtain ⟨r, hr⟩ : ∃ r, r = rowLine S 8 := ⟨_, rfl⟩
              rw [← hr] at hrl Hrow ⊢
              clear hr
              have HR8 : Hid ((R.length + 1) * 8 ≤ 140737488355328) := Lib.hid (by rw [HRl.out]; omega)
              have HRM : Hid (R.length + 1 ≤ maxLen) := Lib.hid (by rw [HRl.out]; unfold maxLen; omega)
              have z1 := hbN.c1
              go_wp2_with (at_builtin; go_must (refine wpList_app1g (enc := eInt) rowInt lenInt oneInt hbk hRk ((r : Nat) : Int) HR8.out HRM.out (by simp) rfl _ _ rfl rfl rfl ?_); intro v6 w6 own6 hb6 hg6 hd6; obtain ⟨A6, c6, rfl, hc6, hm6⟩ := own6.form; have bN6 := (hbN.alloc (.cells #[.int .i64 ((r : Nat) : Int)] 3)).grown hg6 (fun e => (hRk.apart hbN (by decide)) e.symm); have zz1 := bN6.c1; have zz2 := bN6.frozen 0; have zz3 := bN6.lt)
              have ownD6 := (hownk.alloc (.cells #[.int .i64 ((r : Nat) : Int)] 3)).keptE (hRk.alloc (.cells #[.int .i64 ((r : Nat) : Int)] 3)) (by decide) hg6
              have own6' : OwnL 3 1 eInt (w.alloc (.cells #[.slice none 0 0] 31)).heap.size w6 (.slice A6 (y + 1) c6) (rowsTo ls (y + 1)) := by
                have e : (R ++ [((r : Nat) : Int)]).length = y + 1 := (by rw [List.length_append, HRl.out]; rfl)
                rw [rowsTo_succ, ← HR.out, Hrow.out, ← e]; exact own6
              have eL : (R ++ [((r : Nat) : Int)]).length = y + 1 := (by rw [List.length_append, HRl.out]; rfl)
              go_roundw
              case rel => exact ⟨y + 1, Dk, dk, A6, c6, by omega, by go_num, by rw [E1.out, List.length_append], by rw [E1.out]; exact ownD6.far (ownD6.apart bN6 (by decide)) _, own6'.far (own6'.apart bN6 (by decide)) _, by have q := bN6.set1 (.slice A6 (R.length + 1) c6); rw [HRl.out] at q ⊢; exact q, hb6.st _ _ (by simp)⟩
              case measure => simp [intOf]; omega
        · have h8B : ((S.size : Int) == 8) = false := by simp; omega
          have h8N : ¬ S.size = 8 := hS8
          have hd0 : lineDoms ls y = [] := by unfold lineDoms; rw [← HS.out, if_neg hS8]
          have e1 : domsTo ls (y + 1) = domsTo ls y := by rw [domsTo_succ, hd0, List.append_nil]
          have Hrow : Hid ((rowOf ls y : Int) = 0) := Lib.hid (by unfold rowOf; rw [← HS.out, if_neg hS8]; rfl)
          obtain ⟨L, hL⟩ : ∃ L, L = domsTo ls y := ⟨_, rfl⟩
          obtain ⟨R, hR0⟩ : ∃ R, R = rowsTo ls y := ⟨_, rfl⟩
          have hRl : R.length = y := by rw [hR0]; exact rowsTo_len _ _
          rw [← hL] at hown hlen e1 ⊢
          rw [← hR0] at hRo
          have HL := Lib.hid hL; have HR := Lib.hid hR0; have E1 := Lib.hid e1; have HRl := Lib.hid hRl; have H8N := Lib.hid h8N
          obtain ⟨b, off, rfl, hb, q1⟩ := (h.below RE.stays hbel).atStr hlt
          rw [← lineAt_get ls y hlt, ← HS.out] at q1
          clear hL hS8 hR0 hd0 e1 hRl h8N
          go_wp2
          refine wp_loop_rounds 1 ?_
          rw [rounds_succ]
          by_cases hS0 : (0 : Int) < (S.size : Int)
          · skip
            have HR8 : Hid ((R.length + 1) * 8 ≤ 140737488355328) := Lib.hid (by rw [HRl.out]; omega)
            have HRM : Hid (R.length + 1 ≤ maxLen) := Lib.hid (by rw [HRl.out]; unfold maxLen; omega)
            have z1 := hbN0.c1
            go_wp2_with (at_builtin; go_must (refine wpList_app1g (enc := eInt) rowInt lenInt oneInt hbel0 hRo (0 : Int) HR8.out HRM.out (by simp) rfl _ _ rfl rfl rfl ?_); intro v6 w6 own6 hb6 hg6 hd6; obtain ⟨A6, c6, rfl, hc6, hm6⟩ := own6.form; have bN6 := (hbN0.alloc (.cells #[.int .i64 (0 : Int)] 3)).grown hg6 (fun e => (hRo.apart hbN0 (by decide)) e.symm); have zz1 := bN6.c1; have zz2 := bN6.frozen 0; have zz3 := bN6.lt)
            have ownD6 := (hown.alloc (.cells #[.int .i64 (0 : Int)] 3)).keptE (hRo.alloc (.cells #[.int .i64 (0 : Int)] 3)) (by decide) hg6
            have own6' : OwnL 3 1 eInt (w.alloc (.cells #[.slice none 0 0] 31)).heap.size w6 (.slice A6 (y + 1) c6) (rowsTo ls (y + 1)) := by
              have e : (R ++ [(0 : Int)]).length = y + 1 := (by rw [List.length_append, HRl.out]; rfl)
              rw [rowsTo_succ, ← HR.out, Hrow.out, ← e]; exact own6
            have eL : (R ++ [(0 : Int)]).length = y + 1 := (by rw [List.length_append, HRl.out]; rfl)
            go_roundw
            case rel => exact ⟨y + 1, D, d, A6, c6, by omega, by go_num, by rw [E1.out], by rw [E1.out]; exact ownD6.far (ownD6.apart bN6 (by decide)) _, own6'.far (own6'.apart bN6 (by decide)) _, by have q := bN6.set1 (.slice A6 (R.length + 1) c6); rw [HRl.out] at q ⊢; exact q, hb6.st _ _ (by simp)⟩
            case measure => simp [intOf]; omega
          · skip
            have HR8 : Hid ((R.length + 1) * 8 ≤ 140737488355328) := Lib.hid (by rw [HRl.out]; omega)
            have HRM : Hid (R.length + 1 ≤ maxLen) := Lib.hid (by rw [HRl.out]; unfold maxLen; omega)
            have z1 := hbN0.c1
            go_wp2_with (at_builtin; go_must (refine wpList_app1g (enc := eInt) rowInt lenInt oneInt hbel0 hRo (0 : Int) HR8.out HRM.out (by simp) rfl _ _ rfl rfl rfl ?_); intro v6 w6 own6 hb6 hg6 hd6; obtain ⟨A6, c6, rfl, hc6, hm6⟩ := own6.form; have bN6 := (hbN0.alloc (.cells #[.int .i64 (0 : Int)] 3)).grown hg6 (fun e => (hRo.apart hbN0 (by decide)) e.symm); have zz1 := bN6.c1; have zz2 := bN6.frozen 0; have zz3 := bN6.lt)
            have ownD6 := (hown.alloc (.cells #[.int .i64 (0 : Int)] 3)).keptE (hRo.alloc (.cells #[.int .i64 (0 : Int)] 3)) (by decide) hg6
            have own6' : OwnL 3 1 eInt (w.alloc (.cells #[.slice none 0 0] 31)).heap.size w6 (.slice A6 (y + 1) c6) (rowsTo ls (y + 1)) := by
              have e : (R ++ [(0 : Int)]).length = y + 1 := (by rw [List.length_append, HRl.out]; rfl)
              rw [rowsTo_succ, ← HR.out, Hrow.out, ← e]; exact own6
            have eL : (R ++ [(0 : Int)]).length = y + 1 := (by rw [List.length_append, HRl.out]; rfl)
            go_roundw
            case rel => exact ⟨y + 1, D, d, A6, c6, by omega, by go_num, by rw [E1.out], by rw [E1.out]; exact ownD6.far (ownD6.apart bN6 (by decide)) _, own6'.far (own6'.apart bN6 (by decide)) _, by have q := bN6.set1 (.slice A6 (R.length + 1) c6); rw [HRl.out] at q ⊢; exact q, hb6.st _ _ (by simp)⟩
            case measure => simp [intOf]; omega
      · obtain rfl : y = ls.length := by omega
        have hokE : readOk ls = (isPartial (rowsTo ls ls.length) (domsTo ls ls.length) && decide (floorLines (rowsTo ls ls.length) (domsTo ls ls.length) = ls)) := by unfold readOk; rw [decide_eq_true h8, Bool.true_and]
        have hrl := rowsTo_len ls ls.length
        have hr1 : readOk ls = true → readRows ls = rowsTo ls ls.length := fun e => by unfold readRows; rw [e]; rfl
        have hd1 : readOk ls = true → readDoms ls = domsTo ls ls.length := fun e => by unfold readDoms; rw [e]; rfl
        obtain ⟨L, hL⟩ : ∃ L, L = domsTo ls ls.length := ⟨_, rfl⟩
        obtain ⟨R, hR0⟩ : ∃ R, R = rowsTo ls ls.length := ⟨_, rfl⟩
        rw [← hL] at hokE hown hd1 ⊢
        rw [← hR0] at hRo hokE hrl hr1
        have hRo2 : OwnL 3 1 eInt (w.alloc (.cells #[.slice none 0 0] 31)).heap.size wr (.slice A1 R.length c1) R := by rw [hrl]; exact hRo
        have hbN2 : Blk wr (w.heap.size + 1) 31 #[.slice A1 R.length c1] := by rw [hrl]; exact hbN0
        have HokE := Lib.hid hokE; have Hr1 := Lib.hid hr1; have Hd1 := Lib.hid hd1; have Hrl := Lib.hid hrl
        have hrdR : Rd 1 RInt wr (.slice A1 ls.length c1) R := by have := hRo2.rd lenInt (by decide); rw [hrl] at this; exact this
        clear hokE hr1 hd1 hL hR0 hrl
        have hlow : w.heap.size < (w.alloc (.cells #[.slice none 0 0] 31)).heap.size := by simp
        have z1 := hbN0.c1
        go_wp2_with fail
        refine (partS_any _ _ R L _ hrdR (hown.rd lenDom (by decide))).mono ?_
        rintro e w2 ⟨rfl, hb2⟩
        have hR2 := hR.bl hb2
        have bN2 := hbN0.bl hb2
        have B2 := hbel.tr hb2
        have own12 := hRo2.below hb2
        have ownL2 := hown.below hb2
        clear z1
        rcases hp : isPartial R L with _ | _
        · have Hok : Hid (readOk ls = false) := Lib.hid (by rw [HokE.out, hp]; rfl)
          clear hp
          have h1 : readRows ls = [] := by unfold readRows; rw [Hok.out]; rfl
          have h2 : readDoms ls = [] := by unfold readDoms; rw [Hok.out]; rfl
          have z1 := hR2.c1
          have z2 := hR2.frozen 0
          have zlt := hR2.lt
          have z5 := ((hR2.set1 (.slice none 0 0)).alloc (.cells #[] 73)).c1
          have ownE := own_mt (w2.setCell ⟨w.heap.size, 0, none⟩ (.slice none 0 0)) (E := 73) (size := 3) (enc := eDom) w2.heap.size (by simp) w.heap.size (by simp; exact B2.size)
          have H1 := Lib.hid h1; have H2 := Lib.hid h2
          clear h1 h2
          go_wp2
          rw [Hok.out, H1.out, H2.out]
          refine bodyPost_ret (v := .tuple #[.agg #[.slice none 0 0], .slice (some ⟨w2.heap.size, 0, none⟩) 0 0, .bool false]) (by simp [results, Try.results45, go_sem, z5]) rfl ⟨none, 0, some ⟨w2.heap.size, 0, none⟩, 0, rfl, own_nil _, ownE, (B2.st _ _ (Nat.le_refl _)).al _⟩
        · have zN := bN2.c1
          go_wp2_with fail
          refine (floorLinesS_any _ _ R L _ (hrdR.below RE.stays hb2) (ownL2.rd lenDom (by decide))).mono ?_
          rintro e w3 ⟨A3, c3, rfl, own3, hb3⟩
          have B3 := B2.tr hb3
          obtain ⟨F, hF⟩ : ∃ F, F = floorLines R L := ⟨_, rfl⟩
          rw [← hF] at own3 ⊢
          have HF := Lib.hid hF; clear hF zN
          go_wp2_with fail
          refine (sameFloorS_any _ _ F ls _ (own3.rd lenStr (by decide)) (h.below RE.stays B3)).mono ?_
          rintro e w4 ⟨rfl, hb4⟩
          have hR4 := (hR2.bl hb3).bl hb4
          have bN4 := (bN2.bl hb3).bl hb4
          have B4 := B3.tr hb4
          have own14 := (own12.below hb3).below hb4
          have ownL4 := (ownL2.below hb3).below hb4
          rcases hs : decide (F = ls) with _ | _
          · have Hok : Hid (readOk ls = false) := Lib.hid (by rw [HokE.out, hp, ← HF.out, hs]; rfl)
            clear hp hs
            have h1 : readRows ls = [] := by unfold readRows; rw [Hok.out]; rfl
            have h2 : readDoms ls = [] := by unfold readDoms; rw [Hok.out]; rfl
            have z1 := hR4.c1
            have z2 := hR4.frozen 0
            have zlt := hR4.lt
            have z5 := ((hR4.set1 (.slice none 0 0)).alloc (.cells #[] 73)).c1
            have ownE := own_mt (w4.setCell ⟨w.heap.size, 0, none⟩ (.slice none 0 0)) (E := 73) (size := 3) (enc := eDom) w4.heap.size (by simp) w.heap.size (by simp; exact B4.size)
            have H1 := Lib.hid h1; have H2 := Lib.hid h2
            clear h1 h2
            go_wp2
            rw [Hok.out, H1.out, H2.out]
            refine bodyPost_ret (v := .tuple #[.agg #[.slice none 0 0], .slice (some ⟨w4.heap.size, 0, none⟩) 0 0, .bool false]) (by simp [results, Try.results45, go_sem, z5]) rfl ⟨none, 0, some ⟨w4.heap.size, 0, none⟩, 0, rfl, own_nil _, ownE, (B4.st _ _ (Nat.le_refl _)).al _⟩
          · have hok : readOk ls = true := by rw [HokE.out, hp, ← HF.out, hs]; rfl
            have h1 := Hr1.out hok
            have h2 := Hd1.out hok
            have Hok := Lib.hid hok; have H1 := Lib.hid h1; have H2 := Lib.hid h2
            have zN := bN4.c1
            have z1 := hR4.c1
            have z2 := hR4.frozen 0
            have z3 := (hR4.set1 (.slice A1 ls.length c1)).c1
            clear hok h1 h2 hp hs
            go_wp2
            rw [Hok.out, H1.out, H2.out]
            refine bodyPost_ret (v := .tuple #[.agg #[.slice A1 ls.length c1], .slice D L.length d, .bool true]) (by simp [results, Try.results45, go_sem, z3]) rfl ⟨A1, c1, D, d, by rw [Hrl.out], (own14.low hlow _).mono hA1.size, (ownL4.low hlow _).mono hA1.size, B4.st _ _ (Nat.le_refl _)⟩
  · have hok : readOk ls = false := by unfold readOk; rw [decide_eq_false h8]; rfl
    have Hok := Lib.hid hok; clear hok
    have h8I : ¬ ((ls.length : Int) ≤ 8) := by omega
    have hl0 : 0 < ls.length := by omega
    go_enter Try.func45, Try.ntmps45
    go_wp2
    refine wp_loop_rounds 1 ?_
    rw [rounds_succ]
    have h1 : readRows ls = [] := by unfold readRows; rw [Hok.out]; rfl
    have h2 : readDoms ls = [] := by unfold readDoms; rw [Hok.out]; rfl
    have z1 := (bR.alloc (.cells #[] 73)).c1
    have z2 := (bR.alloc (.cells #[] 73)).frozen 0
    have ownE := own_mt (((w.alloc (.cells #[.slice none 0 0] 31)).alloc (.cells #[.slice none 0 0] 31)).alloc (.cells #[] 73)) (E := 73) (size := 3) (enc := eDom) (w.heap.size + 1 + 1 + 1) (by simp) w.heap.size (by simp; omega)
    have H1 := Lib.hid h1; have H2 := Lib.hid h2
    clear h1 h2
    go_wp2
    rw [Hok.out, H1.out, H2.out]
    refine bodyPost_ret (v := .tuple #[.agg #[.slice none 0 0], .slice (some ⟨w.heap.size + 1 + 1 + 1, 0, none⟩) 0 0, .bool false]) (by simp [results, Try.results45, go_sem, z1]) rfl ⟨none, 0, some ⟨w.heap.size + 1 + 1 + 1, 0, none⟩, 0, rfl, own_nil _, ownE, (hA.al _).al _⟩
end Go.Proofs.Ytkbndchgmokabaa
