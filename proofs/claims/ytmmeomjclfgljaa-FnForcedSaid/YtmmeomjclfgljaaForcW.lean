/- Small walks for FnForced: a domino in a list, changes, possible dominoes, dominoes over a cell, shares. No conditions but sizes. -/
import Derived.Test.YtmmeomjclfgljaaForcPl
import Derived.Test.YtmmeomjclfgljaaFreeI
import Derived.Test.YtmmeomjclfgljaaTilDraw
namespace Go.Proofs.Ytmmeomjclfgljaa
open Go.ChangeShapes Go.WideShapes Go.ChangeAt Go.RowKit
set_option linter.unusedVariables false
set_option linter.unusedSimpArgs false

def ixGq (d : Dm) : List Dm → Nat → Int
  | [], _ => -1
  | e :: r, k => if e = d then (k : Int) else ixGq d r (k + 1)
theorem ixGq_cons (d e : Dm) (r : List Dm) (k : Nat) : ixGq d (e :: r) k = if e = d then (k : Int) else ixGq d r (k + 1) := rfl
theorem ixGq_has (d : Dm) : ∀ (l : List Dm) (k : Nat), (l.contains d = true → 0 ≤ ixGq d l k) ∧ (l.contains d = false → ixGq d l k = -1)
  | [], k => by simp [ixGq]
  | e :: r, k => by
    have := ixGq_has d r (k + 1)
    unfold ixGq
    by_cases h : e = d
    · subst h; simp
    · rw [if_neg h, List.contains_cons, show (d == e) = false by rw [beq_eq_false_iff_ne]; exact fun q => h q.symm, Bool.false_or]; exact this
set_option maxHeartbeats 1000000 in
set_option maxRecDepth 100000 in
theorem hasQ_any (v : Value) (l : List Dm) (x y : Int) (d : Bool) (w : World) (h : Rd 3 RDom w v l) : Calls Try.prog 79 #[v, .agg #[.int .i64 x, .int .i64 y, .bool d]] w (Ret (.int .i64 (ixGq (x, y, d) l 0)) w) := by
  obtain ⟨A, c, rfl, hc, hm⟩ := h.form
  have hA := ((Below.refl w.heap.size w).al (.cells #[.int .i64 x, .int .i64 y, .bool d] 66))
  have hx := Blk.new_ w 66 #[.int .i64 x, .int .i64 y, .bool d]
  obtain ⟨R, hR⟩ : ∃ R, R = ixGq (x, y, d) l 0 := ⟨_, rfl⟩
  rw [← hR]
  have HR := Lib.hid hR; clear hR
  go_enter Try.func79, Try.ntmps79
  go_wp2
  go_loopw [5] (fun s9 wr => ∃ k : Nat, k ≤ l.length ∧ s9 = .int .i64 k ∧ Hid (ixGq (x, y, d) (l.drop k) k = R) ∧ Below (w.alloc (.cells #[.int .i64 x, .int .i64 y, .bool d] 66)).heap.size (w.alloc (.cells #[.int .i64 x, .int .i64 y, .bool d] 66)) wr) (fun i _ => l.length - (intOf i).toNat)
  case atStart => exact ⟨0, Nat.zero_le _, rfl, Lib.hid HR.out.symm, Below.refl _ _⟩
  case round =>
    obtain ⟨k, hk, rfl, Hg, hbel⟩ := hrel
    have z := hx.bl hbel
    have z_0 := z.cell 0
    have z_1 := z.cell 1
    have z_2 := z.cell 2
    simp only [List.getElem?_toArray, List.getElem?_cons_zero, List.getElem?_cons_succ] at z_0 z_1 z_2
    have hwl := z.lt
    by_cases hlt : k < l.length
    · obtain ⟨b, off, rfl, hb, q1, q2, q3⟩ := ((h.below RE.stays hA).below RE.stays hbel).atDom hlt
      have hltI : (k : Int) < (l.length : Int) := by omega
      have hg := Hg.out
      rw [List.drop_eq_getElem_cons hlt] at hg
      obtain ⟨e, he⟩ : ∃ e, e = l[k] := ⟨_, rfl⟩
      rw [← he] at q1 q2 q3 hg
      obtain ⟨ex, ey, ed⟩ := e
      simp only at q1 q2 q3
      have Hg2 := Lib.hid hg; clear hg he
      by_cases h1 : x = ex
      · obtain rfl : x = ex := h1
        by_cases h2 : y = ey
        · obtain rfl : y = ey := h2
          by_cases h3 : d = ed
          · obtain rfl : d = ed := h3
            have HG := Lib.hid (show (k : Int) = R by rw [← Hg2.out, ixGq_cons, if_pos rfl])
            go_wp2_with fail
            go_quiet (fail)
            go_wp2
            go_ret
            exact ⟨retI HG.out, hA.tr (below_drewN hbel _)⟩
          · have h3' : ¬ ed = d := fun q => h3 q.symm
            have HG := Lib.hid (show ixGq (x, y, d) (l.drop (k + 1)) (k + 1) = R by rw [← Hg2.out, ixGq_cons, if_neg (by simp [*])])
            go_wp2_with fail
            go_quiet (fail)
            go_wp2
            go_roundw
            case rel => exact ⟨k + 1, by omega, by go_num, HG, below_drewN hbel _⟩
            case measure => simp [intOf]; omega
        · have h2' : ¬ ey = y := fun q => h2 q.symm
          have HG := Lib.hid (show ixGq (x, y, d) (l.drop (k + 1)) (k + 1) = R by rw [← Hg2.out, ixGq_cons, if_neg (by simp [*])])
          go_wp2_with fail
          go_quiet (fail)
          go_wp2
          go_roundw
          case rel => exact ⟨k + 1, by omega, by go_num, HG, below_drewN hbel _⟩
          case measure => simp [intOf]; omega
      · have h1' : ¬ ex = x := fun q => h1 q.symm
        have HG := Lib.hid (show ixGq (x, y, d) (l.drop (k + 1)) (k + 1) = R by rw [← Hg2.out, ixGq_cons, if_neg (by simp [*])])
        go_wp2_with fail
        go_quiet (fail)
        go_wp2
        go_roundw
        case rel => exact ⟨k + 1, by omega, by go_num, HG, below_drewN hbel _⟩
        case measure => simp [intOf]; omega
    · obtain rfl : k = l.length := by omega
      have hg := Hg.out
      rw [List.drop_of_length_le (Nat.le_refl _)] at hg
      have hg2 : (-1 : Int) = R := hg
      have HG := Lib.hid hg2; clear hg hg2
      go_wp2
      go_ret
      exact ⟨retI HG.out, hA.tr hbel⟩
theorem hasQ_yes (v : Value) (l : List Dm) (x y : Int) (d : Bool) (w : World) (h : Rd 3 RDom w v l) (hc : l.contains (x, y, d) = true) : ∃ r : Int, 0 ≤ r ∧ Calls Try.prog 79 #[v, .agg #[.int .i64 x, .int .i64 y, .bool d]] w (Ret (.int .i64 r) w) :=
  ⟨_, (ixGq_has (x, y, d) l 0).1 hc, hasQ_any v l x y d w h⟩
theorem hasQ_no (v : Value) (l : List Dm) (x y : Int) (d : Bool) (w : World) (h : Rd 3 RDom w v l) (hc : l.contains (x, y, d) = false) : Calls Try.prog 79 #[v, .agg #[.int .i64 x, .int .i64 y, .bool d]] w (Ret (.int .i64 (-1)) w) := by
  have := hasQ_any v l x y d w h
  rw [(ixGq_has (x, y, d) l 0).2 hc] at this; exact this
/-- A number from the bytes. -/
def AtPostQ (w : World) (e : Ending) (w' : World) : Prop := ∃ x, 0 ≤ x ∧ x ≤ 255 ∧ e = .returned (.int .i64 x) ∧ w = w'
set_option maxRecDepth 100000 in
theorem atQ_any (v : Value) (l : List Int) (i : Int) (w : World) (h : Rd 1 RByte w v l) (ok : AllOk (fun x => 0 ≤ x ∧ x ≤ 255) l) (hl : l.length ≤ 1048576) (hi0 : 0 ≤ i) (hi : i ≤ 1000) :
    Calls Try.prog 35 #[v, .int .i64 i] w (AtPostQ w) := by
  obtain ⟨A, c, rfl, hc, hm⟩ := h.form
  rcases Classical.em (l.length = 0) with h0 | h0
  · have t1 : ((l.length : Int) == 0) = true := by simpa using h0
    clear h0
    go_enter Try.func35, Try.ntmps35
    go_wp2
    go_ret
    exact ⟨0, by omega, by omega, rfl, rfl⟩
  · have t1 : ((l.length : Int) == 0) = false := by simpa using h0
    obtain ⟨j, hj⟩ : ∃ j : Nat, (j : Int) = (i * 5 + 1) % l.length := ⟨((i * 5 + 1) % l.length).toNat, Int.toNat_of_nonneg (Int.emod_nonneg _ (by omega))⟩
    have hjl : (j : Int) < l.length := by rw [hj]; exact Int.emod_lt_of_pos _ (by omega)
    have hjn : j < l.length := by omega
    obtain ⟨b, off, rfl, hb, h1⟩ := h.atByte hjn
    have hbyte := ok l[j] (List.getElem_mem hjn)
    obtain ⟨y, hy⟩ : ∃ y, y = l[j] := ⟨_, rfl⟩
    rw [← hy] at h1 hbyte
    have hy1 := hbyte.1
    have hy2 := hbyte.2
    have e1 : (i * 5 + 1) % l.length = j := hj.symm
    have e2 : ((i * 5 + 1) % (l.length : Int)).toNat = j := by omega
    have hlp : (1 : Int) ≤ l.length := by omega
    have Hy := Lib.hid hy; clear hy hj hbyte h0
    go_enter Try.func35, Try.ntmps35
    go_wp2
    go_ret
    exact ⟨y, hy1, hy2, rfl, rfl⟩

set_option maxHeartbeats 1000000 in
set_option maxRecDepth 100000 in
theorem noChange_any (u v : Value) (l m : List Dm) (w : World) (h : Rd 3 RDom w u l) (h2 : Rd 3 RDom w v m) (hall : ∀ d ∈ l, d ∈ m) : Calls Try.prog 31 #[u, v] w (Ret (.int .i64 0) w) := by
  obtain ⟨A, c, rfl, hc, hm⟩ := h.form
  obtain ⟨A2, c2, rfl, hc2, hm2⟩ := h2.form
  have Hall := Lib.hid hall; clear hall
  go_enter Try.func31, Try.ntmps31
  go_wp2
  go_loopw [5, 6] (fun s5 s6 wr => ∃ k : Nat, k ≤ l.length ∧ s6 = .int .i64 k ∧ s5 = .int .i64 0 ∧ Below w.heap.size w wr) (fun _ i _ => l.length - (intOf i).toNat)
  case atStart => exact ⟨0, Nat.zero_le _, rfl, rfl, Below.refl _ _⟩
  case round =>
    obtain ⟨k, hk, rfl, rfl, hb⟩ := hrel
    by_cases hlt : k < l.length
    · obtain ⟨b, off, rfl, hbl, q1, q2, q3⟩ := (h.below RE.stays hb).atDom hlt
      have hltI : (k : Int) < (l.length : Int) := by omega
      have hmem := Hall.out l[k] (List.getElem_mem hlt)
      obtain ⟨e, he⟩ : ∃ e, e = l[k] := ⟨_, rfl⟩
      rw [← he] at q1 q2 q3 hmem
      obtain ⟨x, y, d⟩ := e
      simp only at q1 q2 q3
      obtain ⟨r, hr, CR⟩ := hasQ_yes _ m x y d wr (h2.below RE.stays hb) (by simpa using hmem)
      have hr1 : ¬ r < 0 := by omega
      have hr2 : decide (r < 0) = false := decide_eq_false hr1
      clear he hmem
      go_wp2_with fail
      refine (CR).mono ?_
      rintro e w2 ⟨rfl, hb2⟩
      go_wp2
      go_roundw
      case rel => exact ⟨k + 1, by omega, by go_num, rfl, hb.tr hb2⟩
      case measure => simp [intOf]; omega
    · obtain rfl : k = l.length := by omega
      go_wp2
      go_ret
      exact ⟨rfl, hb⟩
theorem posC_any (n : Int) (q : Bool) (w : World) (hq : decide (n > 0) = q) : Calls Try.prog 72 #[.int .i64 n] w (Pure (.bool q) w) := by
  have hq' : decide (0 < n) = q := hq
  go_enter Try.func72, Try.ntmps72
  go_wp2
  go_ret
  exact ⟨rfl, rfl⟩
set_option maxHeartbeats 4000000 in
set_option maxRecDepth 100000 in
theorem whereP_any (v : Value) (rows : List Int)  (w : World) (h : Rd 1 RInt w v rows)  : Calls Try.prog 69 #[.agg #[v], .func (.func 72) #[] #[]] w (RetOwn 66 3 eDom (whereL rows (fun n => decide (n > 0))) w) := by
  obtain ⟨A, c, rfl, hc, hm⟩ := h.form
  have CC : ∀ (n : Int) (q : Bool) (w' : World), Below w.heap.size w w' → ((fun n => decide (n > 0)) n = q) → Calls Try.prog 72 #[.int .i64 n] w' (Pure (.bool q) w') := fun n q w' hb hq => posC_any n q w' hq
  obtain ⟨R, hR⟩ : ∃ R, R = whereL rows (fun n => decide (n > 0)) := ⟨_, rfl⟩
  have hRl : R.length ≤ 128 := by rw [hR]; exact whereL_len rows (fun n => decide (n > 0))
  obtain ⟨P, hP⟩ : ∃ P : Dm → Bool, P = whereD rows (fun n => decide (n > 0)) := ⟨_, rfl⟩
  have hPd : ∀ d, P d = (domOk d && (fun n => decide (n > 0)) (cntWith rows d)) := fun d => by rw [hP]; rfl
  have hR' : [] ++ (((List.range 64).drop 0).flatMap twoD).filter P = R := by rw [hR, hP]; rfl
  rw [← hR]
  have HR := Lib.hid hR'; have HP := Lib.hid hPd; clear hR hP hR' hPd
  have hA := (Below.refl w.heap.size w).al (.cells #[.slice A rows.length c] 26)
  have hA2 := hA.al (.cells #[] 66)
  have bX := (Blk.new_ w 26 #[.slice A rows.length c]).alloc (.cells #[] 66)
  have ownE : OwnL 66 3 eDom w.heap.size ((w.alloc (.cells #[.slice A rows.length c] 26)).alloc (.cells #[] 66)) (.slice (some ⟨w.heap.size + 1, 0, none⟩) ([] : List Dm).length 0) [] := by
    have := (own_empty (w.alloc (.cells #[.slice A rows.length c] 26)) (E := 66) (size := 3) (enc := eDom)).mono (show w.heap.size ≤ _ from hA.size)
    simpa using this
  go_enter Try.func69, Try.ntmps69
  go_wp2_with fail
  go_loopw [5, 12] (fun s5 s12 wr => ∃ (i : Nat) (out : List Dm) (A1 : Option Addr) (c1 : Nat), i ≤ 64 ∧ s12 = .int .i64 i ∧ s5 = .slice A1 out.length c1 ∧ OwnL 66 3 eDom w.heap.size wr (.slice A1 out.length c1) out ∧ Below w.heap.size w wr ∧ Blk wr w.heap.size 26 #[.slice A rows.length c] ∧ Hid (out ++ (((List.range 64).drop i).flatMap twoD).filter P = R)) (fun _ i _ => 64 - (intOf i).toNat)
  case atStart => exact ⟨0, [], _, _, by omega, rfl, rfl, ownE, hA2, bX, HR⟩
  case round =>
    obtain ⟨i, out, A1, c1, hi, rfl, rfl, own, B, bX, HR⟩ := hrel
    clear hA hA2 ownE
    by_cases hlt : i < 64
    · obtain ⟨x, hx⟩ : ∃ x, x = i % 8 := ⟨_, rfl⟩
      obtain ⟨y, hy⟩ : ∃ y, y = i / 8 := ⟨_, rfl⟩
      have hx8 : x < 8 := by omega
      have hy8 : y < 8 := by omega
      have hlen : out.length ≤ 128 := by have := congrArg List.length HR.out; rw [List.length_append] at this; omega
      have Hx := Lib.hid hx; have Hy := Lib.hid hy; clear hx hy
      have Hrt : Hid (domRt i = ((x : Int), (y : Int), false)) := Lib.hid (by unfold domRt; rw [← Hx.out, ← Hy.out])
      have Hdn : Hid (domDn i = ((x : Int), (y : Int), true)) := Lib.hid (by unfold domDn; rw [← Hx.out, ← Hy.out])
      have hdrop : (List.range 64).drop i = i :: (List.range 64).drop (i + 1) := by rw [List.drop_eq_getElem_cons (by simpa using hlt), List.getElem_range]
      have HR2 : Hid ((out ++ (twoD i).filter P) ++ (((List.range 64).drop (i + 1)).flatMap twoD).filter P = R) := Lib.hid (by
        rw [← HR.out, hdrop, List.flatMap_cons, List.filter_append, List.append_assoc])
      clear hdrop
      have bB := Blk.new_ wr 4 #[.bool false, .bool true]
      have own2 := own.alloc (.cells #[.bool false, .bool true] 4)
      have B2 := B.al (.cells #[.bool false, .bool true] 4)
      have bX2 := bX.alloc (.cells #[.bool false, .bool true] 4)
      obtain ⟨gB, hgB⟩ : ∃ g, g = wr.heap.size := ⟨_, rfl⟩
      rw [← hgB] at bB
      have hltB : decide ((i : Int) < 64) = true := decide_eq_true (by omega)
      go_wp2_with fail
      rw [← hgB]
      clear hgB HR
      go_loopw [5, 17] (fun s5 s17 wq => ∃ (J : Int) (o2 : List Dm) (A2 : Option Addr) (c2 : Nat), s17 = .int .i64 J ∧ s5 = .slice A2 o2.length c2 ∧ OwnL 66 3 eDom w.heap.size wq (.slice A2 o2.length c2) o2 ∧ Below w.heap.size w wq ∧ Blk wq w.heap.size 26 #[.slice A rows.length c] ∧ Blk wq gB 4 #[.bool false, .bool true] ∧ Hid ((J = 0 ∧ o2 = out) ∨ (J = 1 ∧ o2 = out ++ [domRt i].filter P) ∨ (J = 2 ∧ o2 = out ++ (twoD i).filter P))) (fun _ i _ => 2 - (intOf i).toNat)
      case atStart => exact ⟨0, out, _, _, rfl, rfl, own2, B2, bX2, bB, Lib.hid (.inl ⟨rfl, rfl⟩)⟩
      case round =>
        obtain ⟨J, o2, A2, c2, rfl, rfl, own3, B3, bX3, bB3, HJ⟩ := hrel
        clear own own2 B B2 bX bX2 bB
        have zB0 := bB3.cell 0
        have zB1 := bB3.cell 1
        simp only [List.getElem?_toArray, List.getElem?_cons_zero, List.getElem?_cons_succ] at zB0 zB1
        have hBl := bB3.lt
        have hXl := bX3.lt
        rcases HJ.out with ⟨rfl, ho⟩ | ⟨rfl, ho⟩ | ⟨rfl, ho⟩
        · subst ho
          clear HJ
          have Hn1 : Hid (P (domRt i) = false → o2 = o2 ++ [domRt i].filter P) := Lib.hid fun q => by rw [List.filter_cons, q]; simp
          have Hn2 : Hid (P (domRt i) = true → o2 ++ [((x : Int), (y : Int), false)] = o2 ++ [domRt i].filter P) := Lib.hid fun q => by rw [List.filter_cons, q, ← Hrt.out]; simp
          have hlo : o2.length ≤ 129 := by omega
          obtain ⟨n, hn⟩ : ∃ n, n = cntWith rows ((x : Int), (y : Int), false) := ⟨_, rfl⟩
          obtain ⟨q, hq⟩ : ∃ q, q = domOk ((x : Int), (y : Int), false) := ⟨_, rfl⟩
          have CW : ∀ (u : Value) (w : World), Rd 1 RInt w u rows → Calls Try.prog 87 #[.agg #[u], .agg #[.int .i64 x, .int .i64 y, .bool false]] w (Ret (.int .i64 n) w) := fun u w k1 => by rw [hn]; exact cntWithI_any u rows x y false w k1
          have CD : ∀ w, Calls Try.prog 98 #[.agg #[.int .i64 x, .int .i64 y, .bool false]] w (Ret (.bool q) w) := fun w => by rw [hq]; exact domOkI_any x y false w
          have hPn := HP.out (domRt i)
          rw [Hrt.out, ← hq, ← hn, ← Hrt.out] at hPn
          have HPn := Lib.hid hPn; clear hPn hq hn
          go_wp2_with fail
          refine (cellAtI_nat i x y _ (by omega) Hx.out Hy.out).mono ?_
          rintro e w3 ⟨rfl, hb3⟩
          have own4 := ((own3.below hb3).alloc (.cells #[.int .i64 x, .int .i64 y] 63)).alloc (.cells #[.int .i64 x, .int .i64 y, .bool false] 66)
          have B4 := ((B3.tr hb3).al (.cells #[.int .i64 x, .int .i64 y] 63)).al (.cells #[.int .i64 x, .int .i64 y, .bool false] 66)
          have bX4 := ((bX3.bl hb3).alloc (.cells #[.int .i64 x, .int .i64 y] 63)).alloc (.cells #[.int .i64 x, .int .i64 y, .bool false] 66)
          have bB4 := ((bB3.bl hb3).alloc (.cells #[.int .i64 x, .int .i64 y] 63)).alloc (.cells #[.int .i64 x, .int .i64 y, .bool false] 66)
          have bD4 := Blk.new2 (w3.alloc (.cells #[.int .i64 x, .int .i64 y] 63)) 66 #[.int .i64 x, .int .i64 y, .bool false] (w3.heap.size + 1) (by simp)
          go_wp2_with fail
          refine (CD _).mono ?_
          rintro e w5 ⟨rfl, hb5⟩
          have own5 := own4.below hb5
          have B5 := B4.tr hb5
          have bX5 := bX4.bl hb5
          have bB5 := bB4.bl hb5
          have bD5 := bD4.bl hb5
          clear own3 B3 bX3 bB3 hb3 own4 B4 bX4 bB4 bD4 hb5 zB0 zB1
          cases q
          · have Hp : Hid (P (domRt i) = false) := Lib.hid (by rw [HPn.out, Bool.false_and])
            go_wp2
            go_roundw
            case rel => exact ⟨_, o2, _, _, rfl, rfl, own5, B5, bX5, bB5, Lib.hid (.inr (.inl ⟨rfl, Hn1.out Hp.out⟩))⟩
            case measure => simp [intOf]
          · have zx := bX5.c1
            have d_0 := bD5.cell 0
            have d_1 := bD5.cell 1
            have d_2 := bD5.cell 2
            simp only [List.getElem?_toArray, List.getElem?_cons_zero, List.getElem?_cons_succ] at d_0 d_1 d_2
            go_wp2_with fail
            refine (CW _ _ (h.below RE.stays B5)).mono ?_
            rintro e w6 ⟨rfl, hb6⟩
            have own6 := own5.below hb6
            have B6 := B5.tr hb6
            have bX6 := bX5.bl hb6
            have bB6 := bB5.bl hb6
            have bD6 := bD5.bl hb6
            clear zx d_0 d_1 d_2 own5 B5 bX5 bB5 bD5 hb6
            obtain ⟨gD, hgD⟩ : ∃ g, g = w3.heap.size + 1 := ⟨_, rfl⟩
            rw [← hgD] at bD6 ⊢
            clear hgD
            rcases hp : (fun n => decide (n > 0)) n with _ | _
            · have Hp : Hid (P (domRt i) = false) := Lib.hid (by rw [HPn.out, Bool.true_and]; exact hp)
              go_wp2_with fail
              refine (CC n false _ B6 hp).mono ?_
              rintro e w7 ⟨rfl, rfl⟩
              clear hp
              go_wp2
              go_roundw
              case rel => exact ⟨_, o2, _, _, rfl, rfl, own6, B6, bX6, bB6, Lib.hid (.inr (.inl ⟨rfl, Hn1.out Hp.out⟩))⟩
              case measure => simp [intOf]
            · have Hp : Hid (P (domRt i) = true) := Lib.hid (by rw [HPn.out, Bool.true_and]; exact hp)
              go_wp2_with fail
              refine (CC n true _ B6 hp).mono ?_
              rintro e w7 ⟨rfl, rfl⟩
              clear hp
              have d_0 := bD6.cell 0
              have d_1 := bD6.cell 1
              have d_2 := bD6.cell 2
              simp only [List.getElem?_toArray, List.getElem?_cons_zero, List.getElem?_cons_succ] at d_0 d_1 d_2
              have hDl := bD6.lt
              have H8 : Hid ((o2.length + 1) * 24 ≤ 140737488355328) := Lib.hid (by omega)
              have HM : Hid (o2.length + 1 ≤ maxLen) := Lib.hid (by unfold maxLen; omega)
              go_wp2_with (at_builtin; go_must (refine wpList_app1 (enc := eDom) rowDom lenDom oneDom B6 own6 (((x : Int), (y : Int), false) : Dm) H8.out HM.out rfl _ _ rfl rfl rfl ?_); intro v8 w8 own8 hb8 hg8 hd8; obtain ⟨A8, c8, rfl, hc8, hm8⟩ := own8.form; have bX8 := (bX6.alloc (.cells (eDom ((x : Int), (y : Int), false)).toArray 66)).grown hg8 (fun e => (own6.apart bX6 (by decide)) e.symm); have bB8 := (bB6.alloc (.cells (eDom ((x : Int), (y : Int), false)).toArray 66)).grown hg8 (fun e => (own6.apart bB6 (by decide)) e.symm))
              go_roundw
              case rel => exact ⟨_, _, _, _, rfl, by simp, own8, hb8, bX8, bB8, Lib.hid (.inr (.inl ⟨rfl, Hn2.out Hp.out⟩))⟩
              case measure => simp [intOf]
        · have hlo : o2.length ≤ 129 := by rw [ho, List.length_append]; have := List.length_filter_le P [domRt i]; simp only [List.length_cons, List.length_nil] at this; omega
          have htw : out ++ (twoD i).filter P = o2 ++ [domDn i].filter P := by rw [ho, List.append_assoc, ← List.filter_append]; rfl
          have Hn1 : Hid (P (domDn i) = false → o2 = out ++ (twoD i).filter P) := Lib.hid fun q => by rw [htw, List.filter_cons, q]; simp
          have Hn2 : Hid (P (domDn i) = true → o2 ++ [((x : Int), (y : Int), true)] = out ++ (twoD i).filter P) := Lib.hid fun q => by rw [htw, List.filter_cons, q, ← Hdn.out]; simp
          clear ho HJ htw
          obtain ⟨n, hn⟩ : ∃ n, n = cntWith rows ((x : Int), (y : Int), true) := ⟨_, rfl⟩
          obtain ⟨q, hq⟩ : ∃ q, q = domOk ((x : Int), (y : Int), true) := ⟨_, rfl⟩
          have CW : ∀ (u : Value) (w : World), Rd 1 RInt w u rows → Calls Try.prog 87 #[.agg #[u], .agg #[.int .i64 x, .int .i64 y, .bool true]] w (Ret (.int .i64 n) w) := fun u w k1 => by rw [hn]; exact cntWithI_any u rows x y true w k1
          have CD : ∀ w, Calls Try.prog 98 #[.agg #[.int .i64 x, .int .i64 y, .bool true]] w (Ret (.bool q) w) := fun w => by rw [hq]; exact domOkI_any x y true w
          have hPn := HP.out (domDn i)
          rw [Hdn.out, ← hq, ← hn, ← Hdn.out] at hPn
          have HPn := Lib.hid hPn; clear hPn hq hn
          go_wp2_with fail
          refine (cellAtI_nat i x y _ (by omega) Hx.out Hy.out).mono ?_
          rintro e w3 ⟨rfl, hb3⟩
          have own4 := ((own3.below hb3).alloc (.cells #[.int .i64 x, .int .i64 y] 63)).alloc (.cells #[.int .i64 x, .int .i64 y, .bool true] 66)
          have B4 := ((B3.tr hb3).al (.cells #[.int .i64 x, .int .i64 y] 63)).al (.cells #[.int .i64 x, .int .i64 y, .bool true] 66)
          have bX4 := ((bX3.bl hb3).alloc (.cells #[.int .i64 x, .int .i64 y] 63)).alloc (.cells #[.int .i64 x, .int .i64 y, .bool true] 66)
          have bB4 := ((bB3.bl hb3).alloc (.cells #[.int .i64 x, .int .i64 y] 63)).alloc (.cells #[.int .i64 x, .int .i64 y, .bool true] 66)
          have bD4 := Blk.new2 (w3.alloc (.cells #[.int .i64 x, .int .i64 y] 63)) 66 #[.int .i64 x, .int .i64 y, .bool true] (w3.heap.size + 1) (by simp)
          go_wp2_with fail
          refine (CD _).mono ?_
          rintro e w5 ⟨rfl, hb5⟩
          have own5 := own4.below hb5
          have B5 := B4.tr hb5
          have bX5 := bX4.bl hb5
          have bB5 := bB4.bl hb5
          have bD5 := bD4.bl hb5
          clear own3 B3 bX3 bB3 hb3 own4 B4 bX4 bB4 bD4 hb5 zB0 zB1
          cases q
          · have Hp : Hid (P (domDn i) = false) := Lib.hid (by rw [HPn.out, Bool.false_and])
            go_wp2
            go_roundw
            case rel => exact ⟨_, o2, _, _, rfl, rfl, own5, B5, bX5, bB5, Lib.hid (.inr (.inr ⟨rfl, Hn1.out Hp.out⟩))⟩
            case measure => simp [intOf]
          · have zx := bX5.c1
            have d_0 := bD5.cell 0
            have d_1 := bD5.cell 1
            have d_2 := bD5.cell 2
            simp only [List.getElem?_toArray, List.getElem?_cons_zero, List.getElem?_cons_succ] at d_0 d_1 d_2
            go_wp2_with fail
            refine (CW _ _ (h.below RE.stays B5)).mono ?_
            rintro e w6 ⟨rfl, hb6⟩
            have own6 := own5.below hb6
            have B6 := B5.tr hb6
            have bX6 := bX5.bl hb6
            have bB6 := bB5.bl hb6
            have bD6 := bD5.bl hb6
            clear zx d_0 d_1 d_2 own5 B5 bX5 bB5 bD5 hb6
            obtain ⟨gD, hgD⟩ : ∃ g, g = w3.heap.size + 1 := ⟨_, rfl⟩
            rw [← hgD] at bD6 ⊢
            clear hgD
            rcases hp : (fun n => decide (n > 0)) n with _ | _
            · have Hp : Hid (P (domDn i) = false) := Lib.hid (by rw [HPn.out, Bool.true_and]; exact hp)
              go_wp2_with fail
              refine (CC n false _ B6 hp).mono ?_
              rintro e w7 ⟨rfl, rfl⟩
              clear hp
              go_wp2
              go_roundw
              case rel => exact ⟨_, o2, _, _, rfl, rfl, own6, B6, bX6, bB6, Lib.hid (.inr (.inr ⟨rfl, Hn1.out Hp.out⟩))⟩
              case measure => simp [intOf]
            · have Hp : Hid (P (domDn i) = true) := Lib.hid (by rw [HPn.out, Bool.true_and]; exact hp)
              go_wp2_with fail
              refine (CC n true _ B6 hp).mono ?_
              rintro e w7 ⟨rfl, rfl⟩
              clear hp
              have d_0 := bD6.cell 0
              have d_1 := bD6.cell 1
              have d_2 := bD6.cell 2
              simp only [List.getElem?_toArray, List.getElem?_cons_zero, List.getElem?_cons_succ] at d_0 d_1 d_2
              have hDl := bD6.lt
              have H8 : Hid ((o2.length + 1) * 24 ≤ 140737488355328) := Lib.hid (by omega)
              have HM : Hid (o2.length + 1 ≤ maxLen) := Lib.hid (by unfold maxLen; omega)
              go_wp2_with (at_builtin; go_must (refine wpList_app1 (enc := eDom) rowDom lenDom oneDom B6 own6 (((x : Int), (y : Int), true) : Dm) H8.out HM.out rfl _ _ rfl rfl rfl ?_); intro v8 w8 own8 hb8 hg8 hd8; obtain ⟨A8, c8, rfl, hc8, hm8⟩ := own8.form; have bX8 := (bX6.alloc (.cells (eDom ((x : Int), (y : Int), true)).toArray 66)).grown hg8 (fun e => (own6.apart bX6 (by decide)) e.symm); have bB8 := (bB6.alloc (.cells (eDom ((x : Int), (y : Int), true)).toArray 66)).grown hg8 (fun e => (own6.apart bB6 (by decide)) e.symm))
              go_roundw
              case rel => exact ⟨_, _, _, _, rfl, by simp, own8, hb8, bX8, bB8, Lib.hid (.inr (.inr ⟨rfl, Hn2.out Hp.out⟩))⟩
              case measure => simp [intOf]
        · clear HJ
          have Ho := Lib.hid ho; clear ho
          go_wp2
          go_roundw
          case rel => exact ⟨i + 1, o2, _, _, by omega, by go_num, rfl, own3, B3, bX3, by rw [Ho.out]; exact HR2⟩
          case measure => simp [intOf]; omega
    · obtain rfl : i = 64 := by omega
      have ho : out = R := by
        rw [← HR.out, List.drop_of_length_le (by simp)]; simp
      subst ho
      clear HR
      go_wp2
      go_ret
      exact ⟨_, _, rfl, own, B⟩
theorem possibleI_any (v : Value) (rows : List Int) (w : World) (h : Rd 1 RInt w v rows) (hr : RowsOk rows) : Calls Try.prog 28 #[.agg #[v]] w (RetOwn 66 3 eDom (possible rows) w) := by
  obtain ⟨A, c, rfl, hc, hm⟩ := h.form
  have hA := (Below.refl w.heap.size w).al (.cells #[.slice A rows.length c] 26)
  have bX := Blk.new_ w 26 #[.slice A rows.length c]
  have CO : ∀ (u : Value) (w : World), Rd 1 RInt w u rows → Calls Try.prog 71 #[.agg #[u]] w (Ret (.bool true) w) := fun u w k1 => by have := regionOkI_any u rows w k1; rw [regionOk_iff.2 hr] at this; exact this
  go_enter Try.func28, Try.ntmps28
  go_wp2_with fail
  refine (CO _ _ (h.below RE.stays hA)).mono ?_
  rintro e w1 ⟨rfl, hb1⟩
  have z0 := (bX.bl hb1).c1
  go_wp2_with fail
  refine (whereP_any _ rows _ (h.below RE.stays (hA.tr hb1))).mono ?_
  rintro e w2 ⟨D, d, rfl, own, hb2⟩
  go_wp2
  go_ret
  exact ⟨D, d, rfl, own.mono (hA.tr hb1).size, (hA.tr hb1).tr hb2⟩
abbrev oForcW0 : Oper := { dst := some 15, op := Go.Op.load 66 (Go.Operand.tmp 7), type := 66, pos := "l15_forced.go:64", after := #[], guard := none }
abbrev oForcW1 : Oper := { dst := some 17, op := Go.Op.load 63 (Go.Operand.tmp 3), type := 63, pos := "l15_forced.go:64", after := #[], guard := none }
abbrev oForcW2 : Oper := { dst := some 16, op := Go.Op.call { callee := Go.Callee.value (Go.Operand.func 83), args := #[Go.Operand.tmp 15], argTypes := #[66] }, type := 101, pos := "l15_forced.go:64", after := #[{ on := 0, ground := Go.Ground.data }], guard := none }
abbrev oForcW3 : Oper := { dst := some 18, op := Go.Op.call { callee := Go.Callee.value (Go.Operand.func 84), args := #[Go.Operand.tmp 16, Go.Operand.tmp 17], argTypes := #[101, 63] }, type := 4, pos := "l15_forced.go:64", after := #[{ on := 1, ground := Go.Ground.data }, { on := 2, ground := Go.Ground.data }, { on := 1, ground := Go.Ground.chain }], guard := none }
set_option maxHeartbeats 1000000 in
set_option maxRecDepth 100000 in
theorem overI_any (v : Value) (rows : List Int) (x y : Int) (w : World) (h : Rd 1 RInt w v rows) (hr : RowsOk rows) : Calls Try.prog 33 #[.agg #[v], .agg #[.int .i64 x, .int .i64 y]] w (Ret (.int .i64 (overC rows (x, y)).length) w) := by
  obtain ⟨A, c, rfl, hc, hm⟩ := h.form
  have hA := ((Below.refl w.heap.size w).al (.cells #[.slice A rows.length c] 26)).al (.cells #[.int .i64 x, .int .i64 y] 63)
  have bX := (Blk.new_ w 26 #[.slice A rows.length c]).alloc (.cells #[.int .i64 x, .int .i64 y] 63)
  have bC := Blk.new2 (w.alloc (.cells #[.slice A rows.length c] 26)) 63 #[.int .i64 x, .int .i64 y] (w.heap.size + 1) (by simp)
  have hlen : (possible rows).length ≤ 128 := whereL_len _ _
  have hdo : ∀ d ∈ possible rows, domOk d = true := fun d hd => (mem_whereL.1 hd).1
  have hov : overC rows (x, y) = (possible rows).filter (fun d => domHas d (x, y)) := rfl
  obtain ⟨L, hL⟩ : ∃ L, L = possible rows := ⟨_, rfl⟩
  have CP : ∀ (u : Value) (w : World), Rd 1 RInt w u rows → Calls Try.prog 28 #[.agg #[u]] w (RetOwn 66 3 eDom L w) := fun u w k1 => by rw [hL]; exact possibleI_any u rows w k1 hr
  rw [hov, ← hL]
  rw [← hL] at hlen hdo
  have Hdo := Lib.hid hdo
  clear hL hov hdo
  go_enter Try.func33, Try.ntmps33
  go_wp2_with fail
  refine (CP _ _ (h.below RE.stays hA)).mono ?_
  rintro e w1 ⟨AL, cL, rfl, own, hb1⟩
  have B1 := hA.tr hb1
  have bC1 := bC.bl hb1
  have own1 := own.mono hA.size
  clear own hb1 hA bX bC
  obtain ⟨gC, hgC⟩ : ∃ g, g = w.heap.size + 1 := ⟨_, rfl⟩
  rw [← hgC] at bC1
  go_wp2_with fail
  rw [← hgC]
  clear hgC
  go_loopw [5, 11] (fun s5 s11 wr => ∃ k : Nat, k ≤ L.length ∧ s11 = .int .i64 k ∧ s5 = .int .i64 ((L.take k).filter (fun d => domHas d (x, y))).length ∧ OwnL 66 3 eDom w.heap.size wr (.slice AL L.length cL) L ∧ Below w.heap.size w wr ∧ Blk wr gC 63 #[.int .i64 x, .int .i64 y]) (fun _ i _ => L.length - (intOf i).toNat)
  case atStart => exact ⟨0, Nat.zero_le _, rfl, rfl, own1, B1, bC1⟩
  case round =>
    obtain ⟨k, hk, rfl, rfl, own2, B2, bC2⟩ := hrel
    clear own1 B1 bC1
    by_cases hlt : k < L.length
    · obtain ⟨b, off, rfl, hbl, q1, q2, q3⟩ := (own2.rd lenDom (by decide)).atDom hlt
      have hltI : (k : Int) < (L.length : Int) := by omega
      have hd0 := Hdo.out L[k] (List.getElem_mem hlt)
      have hst : ((L.take (k + 1)).filter (fun d => domHas d (x, y))).length = ((L.take k).filter (fun d => domHas d (x, y))).length + if domHas L[k] (x, y) then 1 else 0 := by
        rw [List.take_succ_eq_append_getElem hlt, List.filter_append, List.length_append]
        congr 1
        rcases q : domHas L[k] (x, y) with _ | _ <;> simp [q]
      have hle : ((L.take k).filter (fun d => domHas d (x, y))).length ≤ 128 := Nat.le_trans (List.length_filter_le _ _) (by rw [List.length_take]; omega)
      obtain ⟨e, he⟩ : ∃ e, e = L[k] := ⟨_, rfl⟩
      rw [← he] at q1 q2 q3 hd0 hst
      obtain ⟨ex, ey, ed⟩ := e
      simp only at q1 q2 q3
      obtain ⟨D, hD⟩ : ∃ D, D = domSet (ex, ey, ed) := ⟨_, rfl⟩
      have hDl : D < U64 := by rw [hD]; exact domSet_lt hd0
      have CD : ∀ w, Calls Try.prog 83 #[.agg #[.int .i64 ex, .int .i64 ey, .bool ed]] w (Ret (.int .u64 (D : Nat)) w) := fun w => by rw [hD]; exact domSetI_yes ex ey ed w hd0
      have hhas := domHas_bit hd0 (x, y)
      rw [← hD] at hhas
      obtain ⟨q, hq⟩ : ∃ q, q = domHas (ex, ey, ed) (x, y) := ⟨_, rfl⟩
      have CH : ∀ w, Calls Try.prog 84 #[.int .u64 D, .agg #[.int .i64 x, .int .i64 y]] w (Ret (.bool q) w) := fun w => by have := hasI_any D x y w hDl; rw [hhas, ← hq] at this; exact this
      rw [← hq] at hst
      obtain ⟨n, hn⟩ : ∃ n, n = ((L.take k).filter (fun d => domHas d (x, y))).length := ⟨_, rfl⟩
      obtain ⟨n2, hn2⟩ : ∃ n, n = ((L.take (k + 1)).filter (fun d => domHas d (x, y))).length := ⟨_, rfl⟩
      rw [← hn] at hst hle ⊢
      rw [← hn2] at hst
      have Hn2 := Lib.hid hn2
      clear hn hn2 he hD hhas hq hd0 hDl
      have own3 := own2.alloc (.cells #[.int .i64 ex, .int .i64 ey, .bool ed] 66)
      have B3 := B2.al (.cells #[.int .i64 ex, .int .i64 ey, .bool ed] 66)
      have bC3 := bC2.alloc (.cells #[.int .i64 ex, .int .i64 ey, .bool ed] 66)
      have bD3 := Blk.new_ wr 66 #[.int .i64 ex, .int .i64 ey, .bool ed]
      go_upto_region 5 with (fail)
      obtain ⟨W, hW⟩ : ∃ W, W = wr.alloc (.cells #[.int .i64 ex, .int .i64 ey, .bool ed] 66) := ⟨_, rfl⟩
      obtain ⟨gD, hgD⟩ : ∃ g, g = wr.heap.size := ⟨_, rfl⟩
      rw [← hW] at own3 B3 bC3 bD3 ⊢
      rw [← hgD] at bD3 ⊢
      clear hW hgD own2 B2 bC2
      have d_0 := bD3.cell 0
      have d_1 := bD3.cell 1
      have d_2 := bD3.cell 2
      simp only [List.getElem?_toArray, List.getElem?_cons_zero, List.getElem?_cons_succ] at d_0 d_1 d_2
      have c_0 := bC3.cell 0
      have c_1 := bC3.cell 1
      simp only [List.getElem?_toArray, List.getElem?_cons_zero, List.getElem?_cons_succ] at c_0 c_1
      have hDl := bD3.lt
      have hCl := bC3.lt
      have Bw : Below W.heap.size W W.drew := (Below.refl _ _).drew
      have hz : W.heap.size ≤ W.drew.heap.size := by simp
      refine wp_region_held_drew (S := (fun w' => w'.cell? ⟨gD, 0, none⟩ = some (.int .i64 ex) ∧ w'.cell? ⟨gD, 1, none⟩ = some (.int .i64 ey) ∧ w'.cell? ⟨gD, 2, none⟩ = some (.bool ed) ∧ w'.cell? ⟨gC, 0, none⟩ = some (.int .i64 x) ∧ w'.cell? ⟨gC, 1, none⟩ = some (.int .i64 y))) (by kernel_rfl) ?_ (fun hHeld => ?_)
      · (try dsimp only); (try go_keep)
      refine tk 0 oForcW0 rfl (by kernel_rfl) (v := ?_) (fun _ _ _ h => h) (Or.inl ⟨by rfl, ?_⟩) (by assumption) ?_
      rotate_left 1
      · (intro wS hSw; (try dsimp only at hSw); dsimp only [oForcW0]; go_simp; (all_goals with_reducible rfl))
      simp only [oForcW0, putL, List.set]
      refine tk 2 oForcW1 rfl (by kernel_rfl) (v := ?_) (fun _ _ _ h => h) (Or.inl ⟨by rfl, ?_⟩) (by assumption) ?_
      rotate_left 1
      · (intro wS hSw; (try dsimp only at hSw); dsimp only [oForcW1]; go_simp; (all_goals with_reducible rfl))
      simp only [oForcW1, putL, List.set]
      refine wpAnyH_ready (rs := [1]) (by kernel_rfl) (by simp) ?_
      refine AllReadyH.cons (o := oForcW2) rfl (fun K hK => ?_) AllReadyH.nil
      dsimp only [oForcW2]
      go_simp
      (first | (go_at_call 83; go_must (refine (CD _).mono ?_; rintro e wX ⟨rfl, hbX⟩; obtain ⟨hcX, hfX, hzX⟩ := bkn hbX W.heap.size hz; have hz := hzX; have Bw := Bw.tr hbX); (try go_wp2_with fail)) | (go_at_call 84; go_must (refine (CH _).mono ?_; rintro e wX ⟨rfl, hbX⟩; obtain ⟨hcX, hfX, hzX⟩ := bkn hbX W.heap.size hz; have hz := hzX; have Bw := Bw.tr hbX); (try go_wp2_with fail)))
      refine hK.out _ _ ?_ (fun hHeld => ?_)
      · (try dsimp only); (try go_keep)
      clear hK K
      (try simp only [Act.put, List.setIfInBounds_toArray, List.set_cons_zero, List.set_cons_succ])
      refine wpAnyH_ready (rs := [3]) (by kernel_rfl) (by simp) ?_
      refine AllReadyH.cons (o := oForcW3) rfl (fun K hK => ?_) AllReadyH.nil
      dsimp only [oForcW3]
      go_simp
      (first | (go_at_call 83; go_must (refine (CD _).mono ?_; rintro e wX ⟨rfl, hbX⟩; obtain ⟨hcX, hfX, hzX⟩ := bkn hbX W.heap.size hz; have hz := hzX; have Bw := Bw.tr hbX); (try go_wp2_with fail)) | (go_at_call 84; go_must (refine (CH _).mono ?_; rintro e wX ⟨rfl, hbX⟩; obtain ⟨hcX, hfX, hzX⟩ := bkn hbX W.heap.size hz; have hz := hzX; have Bw := Bw.tr hbX); (try go_wp2_with fail)))
      refine hK.out _ _ ?_ (fun hHeld => ?_)
      · (try dsimp only); (try go_keep)
      clear hK K
      (try simp only [Act.put, List.setIfInBounds_toArray, List.set_cons_zero, List.set_cons_succ])
      refine wpAnyH_done (by kernel_rfl) ?_ _
      cases q
      · have hn3 : n = n2 := by rw [hst]; rfl
        subst hn3
        go_wp2
        go_roundw
        case rel => exact ⟨k + 1, by omega, by go_num, by rw [← Hn2.out], own3.below Bw, B3.tr Bw, bC3.bl Bw⟩
        case measure => simp [intOf]; omega
      · have hn3 : n2 = n + 1 := hst
        subst hn3
        go_wp2
        go_roundw
        case rel => exact ⟨k + 1, by omega, by go_num, by rw [← Hn2.out]; go_num, own3.below Bw, B3.tr Bw, bC3.bl Bw⟩
        case measure => simp [intOf]; omega
    · obtain rfl : k = L.length := by omega
      rw [List.take_of_length_le (Nat.le_refl L.length)]
      go_wp2
      go_ret
      exact ⟨rfl, B2⟩
end Go.Proofs.Ytmmeomjclfgljaa
