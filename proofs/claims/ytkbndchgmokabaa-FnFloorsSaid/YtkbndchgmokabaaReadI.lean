/- ReadFloor of the program: the walk. No conditions but sizes. -/
import Derived.Test.YtkbndchgmokabaaFloorS
import Derived.Test.YtkbndchgmokabaaReadPl
import Derived.Test.YtkbndchgmokabaaStrLaws
namespace Go.Proofs.Ytkbndchgmokabaa
open Go.ChangeShapes Go.WideShapes Go.ChangeAt Go.RowKit
set_option linter.unusedVariables false
set_option linter.unusedSimpArgs false

def RetRead (rows : List Int) (l : List Dm) (b : Bool) (w : World) (e : Ending) (w' : World) : Prop := ∃ A c A2 c2, e = .returned (.tuple #[.agg #[.slice A rows.length c], .slice A2 l.length c2, .bool b]) ∧ OwnL 3 1 eInt w.heap.size w' (.slice A rows.length c) rows ∧ OwnL 73 3 eDom w.heap.size w' (.slice A2 l.length c2) l ∧ Below w.heap.size w w'
theorem ch_tests {S : ByteArray} {k : Nat} (h : k < S.size) : ((((S[k].toNat : Nat) : Int) != 46) = !decide (chAt S k = 46)) ∧ ((((S[k].toNat : Nat) : Int) == 60) = decide (chAt S k = 60)) ∧ ((((S[k].toNat : Nat) : Int) == 94) = decide (chAt S k = 94)) := by
  rw [chAt_get S k h]
  generalize chAt S k = b
  have key : ∀ c : UInt8, (((b.toNat : Nat) : Int) == ((c.toNat : Nat) : Int)) = decide (b = c) := fun c => by
    rw [Bool.eq_iff_iff, beq_iff_eq, decide_eq_true_iff]
    exact ⟨fun h => UInt8.toNat_inj.1 (by omega), fun h => by rw [h]⟩
  refine ⟨?_, key 60, key 94⟩
  have := key 46
  rw [← this]; rfl

set_option maxHeartbeats 4000000 in
set_option maxRecDepth 100000 in
theorem readI_any (v : Value) (ls : List ByteArray) (w : World) (h : Rd 1 (RE eStr) w v ls) : Calls Try.prog 24 #[v] w (RetRead (readRows ls) (readDoms ls) (readOk ls) w) := by
  obtain ⟨A, c, rfl, hc, hm⟩ := h.form
  have hA := ((Below.refl w.heap.size w).al (.cells #[.slice none 0 0] 31))
  have bR := Blk.new_ w 31 #[.slice none 0 0]
  by_cases h8 : ls.length ≤ 8
  · go_enter Try.func24, Try.ntmps24
    go_wp2
    have own0 := own_mt (w.alloc (.cells #[.slice none 0 0] 31)) (E := 73) (size := 3) (enc := eDom) (w.heap.size + 1) (by simp) (w.alloc (.cells #[.slice none 0 0] 31)).heap.size (Nat.le_refl _)
    have B0 := (Below.refl (w.alloc (.cells #[.slice none 0 0] 31)).heap.size (w.alloc (.cells #[.slice none 0 0] 31))).al (.cells #[] 73)
    go_loopw [5, 6, 19] (fun s5 s6 s19 wr => ∃ (y : Nat) (D : Option Addr) (d : Nat), y ≤ ls.length ∧ s19 = .int .i64 y ∧ s5 = .int .u64 (setTo ls y : Nat) ∧ s6 = .slice D (domsTo ls y).length d ∧ OwnL 73 3 eDom (w.alloc (.cells #[.slice none 0 0] 31)).heap.size wr (.slice D (domsTo ls y).length d) (domsTo ls y) ∧ Hid (∀ z, z < y → (lineAt ls z).size = 8) ∧ Below (w.alloc (.cells #[.slice none 0 0] 31)).heap.size (w.alloc (.cells #[.slice none 0 0] 31)) wr) (fun _ _ i _ => ls.length - (intOf i).toNat)
    case atStart => exact ⟨0, _, _, Nat.zero_le _, rfl, rfl, rfl, own0, Lib.hid (fun z hz => by omega), B0⟩
    case round =>
      obtain ⟨y, D, d, hy, rfl, rfl, rfl, hown, Hall, hbel0⟩ := hrel
      clear own0 B0
      have hR := bR.bl hbel0
      have hbel := hA.tr hbel0
      by_cases hlt : y < ls.length
      · have hy8 : y < 8 := by omega
        obtain ⟨b, off, rfl, hb, q1⟩ := (h.below RE.stays hbel).atStr hlt
        rw [← lineAt_get ls y hlt] at q1
        have hlen := domsTo_le ls y
        obtain ⟨S, hS⟩ : ∃ S, S = lineAt ls y := ⟨_, rfl⟩
        rw [← hS] at q1
        have HS := Lib.hid hS; clear hS
        by_cases hS8 : S.size = 8
        · have hne : ((S.size : Int) != 8) = false := by simp [hS8]
          have HS8 := Lib.hid hS8
          have hSl : S.size ≤ 8 := by omega
          have hSl2 : 8 ≤ S.size := by omega
          obtain ⟨L, hL⟩ : ∃ L, L = domsTo ls y := ⟨_, rfl⟩
          obtain ⟨Q, hQ⟩ : ∃ Q, Q = setTo ls y := ⟨_, rfl⟩
          have hQ64 := setTo_lt ls y (by omega)
          rw [← hL] at hown hlen ⊢
          rw [← hQ] at hQ64 ⊢
          have HL := Lib.hid hL; have HQ := Lib.hid hQ; clear hL hQ hS8
          go_wp2
          clear q1
          go_loopw [5, 6, 28] (fun s5 s6 s28 wr => ∃ (k : Nat) (D : Option Addr) (d : Nat), k ≤ 8 ∧ s28 = .int .i64 k ∧ s5 = .int .u64 (setLine Q S y k : Nat) ∧ s6 = .slice D (L ++ domsLine S y k).length d ∧ OwnL 73 3 eDom (w.alloc (.cells #[.slice none 0 0] 31)).heap.size wr (.slice D (L ++ domsLine S y k).length d) (L ++ domsLine S y k) ∧ Below (w.alloc (.cells #[.slice none 0 0] 31)).heap.size (w.alloc (.cells #[.slice none 0 0] 31)) wr) (fun _ _ i _ => 8 - (intOf i).toNat)
          case atStart => exact ⟨0, D, d, by omega, rfl, rfl, by simp [domsLine], by simpa [domsLine] using hown, hbel0⟩
          case round =>
            obtain ⟨k, Dk, dk, hk, rfl, rfl, rfl, hownk, hbk⟩ := hrel
            by_cases hk8 : k < 8
            · obtain ⟨hck, hix⟩ := ix_xy hk8 hy8
              have hkS : k < S.size := by omega
              have hkI : (k : Int) < (S.size : Int) := by omega
              obtain ⟨t46, t60, t94⟩ := ch_tests hkS
              have hq64 := setLine_lt S hQ64 hy8 k (by omega)
              have hdl := domsLine_le S y k
              have hsu := domsLine_succ S y k
              have hse : setLine Q S y (k + 1) = if chAt S k = 46 then setLine Q S y k else sWith (setLine Q S y k) (8 * y + k) := rfl
              have hll : (L ++ domsLine S y k).length ≤ 64 := by rw [List.length_append]; omega
              obtain ⟨q, hq⟩ : ∃ q, q = setLine Q S y k := ⟨_, rfl⟩
              obtain ⟨M, hM⟩ : ∃ M, M = L ++ domsLine S y k := ⟨_, rfl⟩
              rw [← hq] at hq64 hse ⊢
              rw [← hM] at hll hownk ⊢
              have hsu2 : L ++ domsLine S y (k + 1) = M ++ domAtCh S y k := by rw [hsu, ← List.append_assoc, hM]
              have H8 : Hid ((M.length + 1) * 24 ≤ 140737488355328) := Lib.hid (by omega)
              have HM : Hid (M.length + 1 ≤ maxLen) := Lib.hid (by unfold maxLen; omega)
              have Hck := Lib.hid hck; have Hix := Lib.hid hix; have Hse := Lib.hid hse; have Hsu := Lib.hid hsu2; have Hq := Lib.hid hq; have HMM := Lib.hid hM
              clear hck hix hse hsu2 hsu hq hM
              by_cases h46 : chAt S k = 46
              · rw [decide_eq_true h46] at t46
                rw [h46] at t60 t94
                have e : domAtCh S y k = [] := by unfold domAtCh; rw [h46]; rfl
                have E := Lib.hid e; have H46 := Lib.hid h46; clear e h46
                go_wp2
                go_roundw
                case rel => exact ⟨k + 1, Dk, dk, by omega, by go_num, by rw [Hse.out, if_pos H46.out], by rw [Hsu.out, E.out, List.append_nil], by rw [Hsu.out, E.out, List.append_nil]; exact hownk.alloc _, hbk.al _⟩
                case measure => simp [intOf]; omega
              · rw [decide_eq_false h46] at t46
                have H46 := Lib.hid h46; clear h46
                by_cases h60 : chAt S k = 60
                · rw [h60] at t60 t94
                  have e : domAtCh S y k = [((k : Int), (y : Int), false)] := by unfold domAtCh; rw [h60]; rfl
                  have E := Lib.hid e; clear e h60
                  go_wp2_with fail
                  refine (withI_any q k y _ hq64 Hck.out).mono ?_
                  rintro e w4 ⟨rfl, hb4⟩
                  rw [Hix.out]
                  have own4 := (hownk.alloc (.cells #[.int .i64 k, .int .i64 y] 70)).below hb4
                  have B1e := (hbk.al (.cells #[.int .i64 k, .int .i64 y] 70)).tr hb4
                  go_wp2_with (at_builtin; go_must (refine wpList_app1g (enc := eDom) rowDom lenDom oneDom B1e own4 ((k : Int), (y : Int), false) H8.out HM.out (by simp) rfl _ _ rfl rfl rfl ?_); intro v6 w6 own6 hb6 hg6 hd6; obtain ⟨A6, c6, rfl, hc6, hm6⟩ := own6.form)
                  go_roundw
                  case rel => exact ⟨k + 1, A6, c6, by omega, by go_num, by rw [Hse.out, if_neg H46.out], by rw [Hsu.out, E.out]; simp, by rw [Hsu.out, E.out]; exact own6, hb6⟩
                  case measure => simp [intOf]; omega
                · rw [decide_eq_false h60] at t60
                  by_cases h94 : chAt S k = 94
                  · rw [decide_eq_true h94] at t94
                    have e : domAtCh S y k = [((k : Int), (y : Int), true)] := by unfold domAtCh; rw [if_neg h60, if_pos h94]
                    have E := Lib.hid e; clear e h60 h94
                    go_wp2_with fail
                    refine (withI_any q k y _ hq64 Hck.out).mono ?_
                    rintro e w4 ⟨rfl, hb4⟩
                    rw [Hix.out]
                    have own4 := (hownk.alloc (.cells #[.int .i64 k, .int .i64 y] 70)).below hb4
                    have B1e := (hbk.al (.cells #[.int .i64 k, .int .i64 y] 70)).tr hb4
                    go_wp2_with (at_builtin; go_must (refine wpList_app1g (enc := eDom) rowDom lenDom oneDom B1e own4 ((k : Int), (y : Int), true) H8.out HM.out (by simp) rfl _ _ rfl rfl rfl ?_); intro v6 w6 own6 hb6 hg6 hd6; obtain ⟨A6, c6, rfl, hc6, hm6⟩ := own6.form)
                    go_roundw
                    case rel => exact ⟨k + 1, A6, c6, by omega, by go_num, by rw [Hse.out, if_neg H46.out], by rw [Hsu.out, E.out]; simp, by rw [Hsu.out, E.out]; exact own6, hb6⟩
                    case measure => simp [intOf]; omega
                  · rw [decide_eq_false h94] at t94
                    have e : domAtCh S y k = [] := by unfold domAtCh; rw [if_neg h60, if_neg h94]
                    have E := Lib.hid e; clear e h60 h94
                    go_wp2_with fail
                    refine (withI_any q k y _ hq64 Hck.out).mono ?_
                    rintro e w4 ⟨rfl, hb4⟩
                    rw [Hix.out]
                    have own4 := (hownk.alloc (.cells #[.int .i64 k, .int .i64 y] 70)).below hb4
                    have B1e := (hbk.al (.cells #[.int .i64 k, .int .i64 y] 70)).tr hb4
                    go_wp2
                    go_roundw
                    case rel => exact ⟨k + 1, Dk, dk, by omega, by go_num, by rw [Hse.out, if_neg H46.out], by rw [Hsu.out, E.out, List.append_nil], by rw [Hsu.out, E.out, List.append_nil]; exact own4, B1e⟩
                    case measure => simp [intOf]; omega
            · obtain rfl : k = 8 := by omega
              have e1 : domsTo ls (y + 1) = L ++ domsLine S y 8 := by rw [domsTo_succ, ← HL.out]; unfold lineDoms; rw [← HS.out, if_pos HS8.out]
              have e2 : setTo ls (y + 1) = setLine Q S y 8 := by show setLine (setTo ls y) (lineAt ls y) y 8 = _; rw [← HQ.out, ← HS.out]
              have E1 := Lib.hid e1; have E2 := Lib.hid e2; clear e1 e2
              have Hall2 : Hid (∀ z, z < y + 1 → (lineAt ls z).size = 8) := Lib.hid (fun z hz => by
                rcases Nat.lt_or_ge z y with h | h
                · exact Hall.out z h
                · rw [show z = y by omega, ← HS.out]; exact HS8.out)
              go_wp2
              go_roundw
              case rel => exact ⟨y + 1, Dk, dk, by omega, by go_num, by rw [E2.out], by rw [E1.out], by rw [E1.out]; exact hownk, Hall2, hbk⟩
              case measure => simp [intOf]; omega
        · have hok : readOk ls = false := readOk_no hlt (by rw [← HS.out]; exact hS8)
          have hne : ((S.size : Int) != 8) = true := by simp; omega
          have h1 : readRows ls = [] := by unfold readRows; rw [hok]; rfl
          have h2 : readDoms ls = [] := by unfold readDoms; rw [hok]; rfl
          rw [hok, h1, h2]
          have z1 := hR.c1
          have z2 := hR.frozen 0
          clear h1 h2 hok hS8
          go_wp2
          refine bodyPost_ret (v := .tuple #[.agg #[.slice none 0 0], .slice none 0 0, .bool false]) (by simp [results, Try.results24, go_sem, z1]) rfl ⟨none, 0, none, 0, rfl, own_nil _, own_nil _, hbel.st _ _ (Nat.le_refl _)⟩
      · obtain rfl : y = ls.length := by omega
        have er := rowsOf_setTo h8 Hall.out
        have h64 := setTo_lt ls ls.length h8
        have hokE : readOk ls = (isPartial (rowsTo ls ls.length) (domsTo ls ls.length) && decide (floorLines (rowsTo ls ls.length) (domsTo ls ls.length) = ls)) := by unfold readOk; rw [decide_eq_true h8, Bool.true_and]
        have hrl := rowsTo_len ls ls.length
        have hr1 : readOk ls = true → readRows ls = rowsTo ls ls.length := fun e => by unfold readRows; rw [e]; rfl
        have hd1 : readOk ls = true → readDoms ls = domsTo ls ls.length := fun e => by unfold readDoms; rw [e]; rfl
        obtain ⟨Q, hQ⟩ : ∃ Q, Q = setTo ls ls.length := ⟨_, rfl⟩
        obtain ⟨L, hL⟩ : ∃ L, L = domsTo ls ls.length := ⟨_, rfl⟩
        obtain ⟨R, hR0⟩ : ∃ R, R = rowsTo ls ls.length := ⟨_, rfl⟩
        rw [← hQ] at er h64 ⊢
        rw [← hL] at hokE hown hd1 ⊢
        rw [← hR0] at er hokE hrl hr1
        have HokE := Lib.hid hokE; have Hr1 := Lib.hid hr1; have Hd1 := Lib.hid hd1; have Her := Lib.hid er; have Hrl := Lib.hid hrl
        clear hokE hr1 hd1 hQ hL hR0 er hrl
        go_wp2_with fail
        refine (regionOf_any Q ls.length _ h64 h8).mono ?_
        rintro e w1 ⟨A1, c1, rfl, own1, hb1⟩
        rw [Her.out] at own1 ⊢
        have B1 := (hbel.tr hb1).al (.cells #[.slice A1 R.length c1] 31)
        have ownL1 := (hown.below hb1).alloc (.cells #[.slice A1 R.length c1] 31)
        have own1a := own1.alloc (.cells #[.slice A1 R.length c1] 31)
        have hR1 := (hR.bl hb1).alloc (.cells #[.slice A1 R.length c1] 31)
        have bN1 := Blk.new_ w1 31 #[.slice A1 R.length c1]
        have hlow : w.heap.size < wr.heap.size := hR.lt
        have hlow0 : w.heap.size < (w.alloc (.cells #[.slice none 0 0] 31)).heap.size := by simp
        go_wp2_with fail
        refine (partI_any _ _ R L _ (own1a.rd lenInt (by decide)) (ownL1.rd lenDom (by decide))).mono ?_
        rintro e w2 ⟨rfl, hb2⟩
        have hR2 := hR1.bl hb2
        have bN2 := bN1.bl hb2
        have B2 := B1.tr hb2
        have own12 := own1a.below hb2
        have ownL2 := ownL1.below hb2
        rcases hp : isPartial R L with _ | _
        · have Hok : Hid (readOk ls = false) := Lib.hid (by rw [HokE.out, hp]; rfl)
          clear hp
          have h1 : readRows ls = [] := by unfold readRows; rw [Hok.out]; rfl
          have h2 : readDoms ls = [] := by unfold readDoms; rw [Hok.out]; rfl
          have z1 := hR2.c1
          have z2 := hR2.frozen 0
          have H1 := Lib.hid h1; have H2 := Lib.hid h2
          clear h1 h2
          go_wp2
          rw [Hok.out, H1.out, H2.out]
          refine bodyPost_ret (v := .tuple #[.agg #[.slice none 0 0], .slice none 0 0, .bool false]) (by simp [results, Try.results24, go_sem, z1]) rfl ⟨none, 0, none, 0, rfl, own_nil _, own_nil _, B2.st _ _ (Nat.le_refl _)⟩
        · have zN := bN2.c1
          go_wp2_with fail
          refine (floorLinesI_any _ _ R L _ (own12.rd lenInt (by decide)) (ownL2.rd lenDom (by decide))).mono ?_
          rintro e w3 ⟨A3, c3, rfl, own3, hb3⟩
          have B3 := B2.tr hb3
          obtain ⟨F, hF⟩ : ∃ F, F = floorLines R L := ⟨_, rfl⟩
          rw [← hF] at own3 ⊢
          have HF := Lib.hid hF; clear hF zN
          go_wp2_with fail
          refine (sameFloorI_any _ _ F ls _ (own3.rd lenStr (by decide)) (h.below RE.stays B3)).mono ?_
          rintro e w4 ⟨rfl, hb4⟩
          have hR4 := (hR2.bl hb3).bl hb4
          have bN4 := (bN2.bl hb3).bl hb4
          have B4 := B3.tr hb4
          have own14 := (own12.below hb3).below hb4
          have ownL4 := (ownL2.below hb3).below hb4
          rcases hs : decide (F = ls) with _ | _
          · have Hok : Hid (readOk ls = false) := Lib.hid (by rw [HokE.out, hp, ← HF.out, hs]; rfl)
            clear hp hs
            have h1 : readRows ls = [] := by unfold readRows; rw [Hok.out]; rfl
            have h2 : readDoms ls = [] := by unfold readDoms; rw [Hok.out]; rfl
            have z1 := hR4.c1
            have z2 := hR4.frozen 0
            have H1 := Lib.hid h1; have H2 := Lib.hid h2
            clear h1 h2
            go_wp2
            rw [Hok.out, H1.out, H2.out]
            refine bodyPost_ret (v := .tuple #[.agg #[.slice none 0 0], .slice none 0 0, .bool false]) (by simp [results, Try.results24, go_sem, z1]) rfl ⟨none, 0, none, 0, rfl, own_nil _, own_nil _, B4.st _ _ (Nat.le_refl _)⟩
          · have hok : readOk ls = true := by rw [HokE.out, hp, ← HF.out, hs]; rfl
            have h1 := Hr1.out hok
            have h2 := Hd1.out hok
            have Hok := Lib.hid hok; have H1 := Lib.hid h1; have H2 := Lib.hid h2
            have zN := bN4.c1
            have z1 := hR4.c1
            have z2 := hR4.frozen 0
            have z3 := (hR4.set1 (.slice A1 R.length c1)).c1
            clear hok h1 h2 hp hs
            go_wp2
            rw [Hok.out, H1.out, H2.out]
            refine bodyPost_ret (v := .tuple #[.agg #[.slice A1 R.length c1], .slice D L.length d, .bool true]) (by simp [results, Try.results24, go_sem, z3]) rfl ⟨A1, c1, D, d, rfl, (own14.low hlow _).mono hbel.size, (ownL4.low hlow0 _).mono hA.size, B4.st _ _ (Nat.le_refl _)⟩
  · have hok : readOk ls = false := by unfold readOk; rw [decide_eq_false h8]; rfl
    have h1 : readRows ls = [] := by unfold readRows; rw [hok]; rfl
    have h2 : readDoms ls = [] := by unfold readDoms; rw [hok]; rfl
    rw [hok, h1, h2]
    have hgt : (8 : Int) < (ls.length : Int) := by omega
    have z1 := bR.c1
    have z2 := bR.frozen 0
    go_enter Try.func24, Try.ntmps24
    go_wp2
    refine bodyPost_ret (v := .tuple #[.agg #[.slice none 0 0], .slice none 0 0, .bool false]) (by simp [results, Try.results24, go_sem, z1]) rfl ⟨none, 0, none, 0, rfl, own_nil _, own_nil _, hA⟩
end Go.Proofs.Ytkbndchgmokabaa
