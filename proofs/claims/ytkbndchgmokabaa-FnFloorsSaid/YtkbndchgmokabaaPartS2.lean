/- CellIndex, HasCell, IsDominoBefore, DominoAt of the reference: the walks. No conditions but sizes and validity where said. -/
import Derived.Test.YtkbndchgmokabaaPartS
namespace Go.Proofs.Ytkbndchgmokabaa
open Go.ChangeShapes Go.WideShapes Go.ChangeAt Go.RowKit
set_option linter.unusedVariables false
set_option linter.unusedSimpArgs false

theorem cellIndexS_yes (x y : Int) (w : World) (hc : cellOk (x, y) = true) : Calls Try.prog 164 #[.agg #[.int .i64 x, .int .i64 y]] w (Ret (.int .i64 (cellIx (x, y))) w) := by
  obtain ⟨⟨x1, x2⟩, y1, y2⟩ := cellOk_iff.1 hc
  have e := (cellIx_in hc).1
  simp only at e x1 x2 y1 y2
  have He := Lib.hid e; have Hc := Lib.hid hc; clear e hc
  go_enter Try.func164, Try.ntmps164
  go_wp2_with fail
  refine (cellOkS_cl x y _).mono ?_
  rintro e w1 ⟨rfl, hb1⟩
  obtain ⟨hc1, hf1, hz1⟩ := bk hb1
  (try simp at hz1)
  have hy1_0 : w.heap.size < w1.heap.size := by omega
  rw [Hc.out]
  go_wp2
  go_ret
  exact ⟨retI (by rw [He.out]), ((Below.refl _ _).al _).tr hb1⟩
def hasCellP (rows : List Int) (c : Cl) : Bool := regionOk rows && (cellOk c && (setOf rows).testBit (cellIx c).toNat)
set_option maxRecDepth 100000 in
theorem hasCellS_any (v : Value) (rows : List Int) (x y : Int) (w : World) (h : Rd 1 RInt w v rows) (hc : cellOk (x, y) = true) : Calls Try.prog 134 #[.agg #[v], .agg #[.int .i64 x, .int .i64 y]] w (Ret (.bool (hasCellP rows (x, y))) w) := by
  obtain ⟨A, c, rfl, hc', hm⟩ := h.form
  have hA := ((Below.refl w.heap.size w).al (.cells #[.slice A rows.length c] 31)).al (.cells #[.int .i64 x, .int .i64 y] 70)
  rcases hr : regionOk rows with _ | _
  · have e : hasCellP rows (x, y) = false := by unfold hasCellP; rw [hr]; rfl
    rw [e]
    go_enter Try.func134, Try.ntmps134
    go_wp2_with fail
    refine (regionOkS_any _ rows _ (h.below RE.stays hA)).mono ?_
    rintro e w1 ⟨rfl, hb1⟩
    obtain ⟨hc1, hf1, hz1⟩ := bk hb1
    (try simp at hz1)
    have hy1_0 : w.heap.size < w1.heap.size := by omega
    have hy1_1 : w.heap.size + 1 < w1.heap.size := by omega
    rw [hr]
    go_wp2
    go_ret
    exact ⟨rfl, hA.tr hb1⟩
  · have hok := regionOk_iff.1 hr
    obtain ⟨⟨x1, x2⟩, y1, y2⟩ := cellOk_iff.1 hc
    simp only at x1 x2 y1 y2
    have e : hasCellP rows (x, y) = (setOf rows).testBit (cellIx (x, y)).toNat := by unfold hasCellP; rw [hr, hc]; simp
    rw [(cellIx_in hc).1] at e
    obtain ⟨x, rfl⟩ := Int.eq_ofNat_of_zero_le x1
    obtain ⟨y, rfl⟩ := Int.eq_ofNat_of_zero_le y1
    rw [show ((y : Int) * 8 + (x : Int)).toNat = 8 * y + x by omega] at e
    rw [e]
    have Hok := Lib.hid hok; have Hc := Lib.hid hc; clear hok e hc
    go_enter Try.func134, Try.ntmps134
    go_wp2_with fail
    refine (regionOkS_any _ rows _ (h.below RE.stays hA)).mono ?_
    rintro e w1 ⟨rfl, hb1⟩
    obtain ⟨hc1, hf1, hz1⟩ := bk hb1
    (try simp at hz1)
    have hy1_0 : w.heap.size < w1.heap.size := by omega
    have hy1_1 : w.heap.size + 1 < w1.heap.size := by omega
    rw [hr]
    go_wp2_with fail
    refine (cellOkS_cl x y _).mono ?_
    rintro e w2 ⟨rfl, hb2⟩
    obtain ⟨hc2, hf2, hz2⟩ := bk hb2
    (try simp at hz2)
    have hy2_0 : w.heap.size < w2.heap.size := by omega
    have hy2_1 : w.heap.size + 1 < w2.heap.size := by omega
    rw [Hc.out]
    have B2 := (hA.tr hb1).tr hb2
    go_wp2_with fail
    refine (l03HasS_yes _ rows x y _ (h.below RE.stays B2) Hok (by omega) (by omega)).mono ?_
    rintro e w3 ⟨rfl, hb3⟩
    go_wp2
    go_ret
    exact ⟨rfl, B2.tr hb3⟩
set_option maxHeartbeats 2000000 in
set_option maxRecDepth 100000 in
theorem beforeS_yes (x y : Int) (d : Bool) (x' y' : Int) (d' : Bool) (w : World) (hd : domOk (x, y, d) = true) (hd' : domOk (x', y', d') = true) :
    Calls Try.prog 163 #[.agg #[.int .i64 x, .int .i64 y, .bool d], .agg #[.int .i64 x', .int .i64 y', .bool d']] w (Ret (.bool (decide (domOrd (x, y, d) < domOrd (x', y', d')))) w) := by
  have D1 := domOk_fst hd
  have D2 := domOk_fst hd'
  simp only at D1 D2
  obtain ⟨⟨x1, x2⟩, y1, y2⟩ := D1
  obtain ⟨⟨u1, u2⟩, v1, v2⟩ := D2
  have hA := ((Below.refl w.heap.size w).al (.cells #[.int .i64 x, .int .i64 y, .bool d] 73)).al (.cells #[.int .i64 x', .int .i64 y', .bool d'] 73)
  obtain ⟨B, hB⟩ : ∃ B, B = decide (domOrd (x, y, d) < domOrd (x', y', d')) := ⟨_, rfl⟩
  rw [← hB]
  have HB := Lib.hid hB; have Hd := Lib.hid hd; have Hd' := Lib.hid hd'; clear hB hd hd'
  rcases d with _ | _ <;> rcases d' with _ | _
  all_goals
    go_enter Try.func163, Try.ntmps163
    go_wp2_with fail
    refine (domOkS_any x y _ _).mono ?_
    rintro e w1 ⟨rfl, hb1⟩
    obtain ⟨hc1, hf1, hz1⟩ := bk hb1
    (try simp at hz1)
    have hy1_0 : w.heap.size < w1.heap.size := by omega
    have hy1_1 : w.heap.size + 1 < w1.heap.size := by omega
    rw [Hd.out]
    go_wp2_with fail
    refine (domOkS_any x' y' _ _).mono ?_
    rintro e w2 ⟨rfl, hb2⟩
    obtain ⟨hc2, hf2, hz2⟩ := bk hb2
    (try simp at hz2)
    have hy2_0 : w.heap.size < w2.heap.size := by omega
    have hy2_1 : w.heap.size + 1 < w2.heap.size := by omega
    rw [Hd'.out]
    go_wp2
    all_goals
      go_ret
      refine ⟨retB ?_, (hA.tr hb1).tr hb2⟩
      rw [HB.out, Bool.eq_iff_iff]
      simp [domOrd]
      try omega

set_option maxHeartbeats 1000000 in
set_option maxRecDepth 100000 in
theorem domAtS_any (v : Value) (l : List Dm) (x y : Int) (w : World) (h : Rd 3 RDom w v l) : Calls Try.prog 55 #[v, .agg #[.int .i64 x, .int .i64 y]] w (Ret (.int .i64 (domAt l (x, y))) w) := by
  obtain ⟨A, c, rfl, hc, hm⟩ := h.form
  have hA := ((Below.refl w.heap.size w).al (.cells #[.int .i64 x, .int .i64 y] 70))
  have hx := Blk.new_ w 70 #[.int .i64 x, .int .i64 y]
  have hD : domAt l (x, y) = domAtGo (x, y) l 0 := rfl
  obtain ⟨D, hDD⟩ : ∃ D, D = domAt l (x, y) := ⟨_, rfl⟩
  rw [← hDD] at hD ⊢
  have HD := Lib.hid hD; clear hD hDD
  go_enter Try.func55, Try.ntmps55
  go_wp2
  go_loopw [5] (fun s9 wr => ∃ k : Nat, k ≤ l.length ∧ s9 = .int .i64 k ∧ Hid (domAtGo (x, y) (l.drop k) k = D) ∧ wr.cell? ⟨w.heap.size, 0, none⟩ = some (.int .i64 x) ∧ wr.cell? ⟨w.heap.size, 1, none⟩ = some (.int .i64 y) ∧ w.heap.size < wr.heap.size ∧ Below w.heap.size w wr) (fun i _ => l.length - (intOf i).toNat)
  case atStart => exact ⟨0, Nat.zero_le _, rfl, Lib.hid HD.out.symm, hx.cell 0, hx.cell 1, hx.lt, hA⟩
  case round =>
    obtain ⟨k, hk, rfl, Hg, z1, z2, hwl, hbel⟩ := hrel
    clear hx hA
    by_cases hlt : k < l.length
    · obtain ⟨b, off, rfl, hb, q1, q2, q3⟩ := (h.below RE.stays hbel).atDom hlt
      have hg := Hg.out
      rw [List.drop_eq_getElem_cons hlt] at hg
      obtain ⟨d, hd⟩ : ∃ d, d = l[k] := ⟨_, rfl⟩
      rw [← hd] at q1 q2 q3 hg
      obtain ⟨dx, dy, dn⟩ := d
      simp only at q1 q2 q3
      rcases hok : domOk (dx, dy, dn) with _ | _
      · have hg2 : domAtGo (x, y) (l.drop (k + 1)) (k + 1) = D := by rw [← hg]; simp only [domAtGo]; rw [if_neg (by rw [domHas_no hok]; simp)]
        have HG := Lib.hid hg2; have Hok2 := Lib.hid hok; have Hdd := Lib.hid hd; clear hg hg2 hok hd
        go_wp2_with fail
        refine (domOkS_any dx dy dn _).mono ?_
        rintro e w1 ⟨rfl, hb1⟩
        obtain ⟨hc1, hf1, hz1⟩ := bk hb1
        (try simp at hz1)
        have hy1_0 : w.heap.size < w1.heap.size := by omega
        rw [Hok2.out]
        go_wp2
        go_roundw
        case rel => exact ⟨k + 1, by omega, by go_num, HG, by rw [hc1 _ _ (by omega)]; exact z1, by rw [hc1 _ _ (by omega)]; exact z2, by omega, hbel.tr hb1⟩
        case measure => simp [intOf]; omega
      · obtain ⟨sx, sy, hs⟩ : ∃ sx sy, sec (dx, dy, dn) = (sx, sy) := ⟨_, _, rfl⟩
        have hh : domHas (dx, dy, dn) (x, y) = (decide ((dx, dy) = (x, y)) || decide ((sx, sy) = (x, y))) := by unfold domHas; rw [hok, hs]; rfl
        have Hok2 := Lib.hid hok; have Hdd := Lib.hid hd; have Hs := Lib.hid hs; have Hh := Lib.hid hh; have HG := Lib.hid hg; clear hok hd hs hh hg
        go_wp2_with fail
        refine (domOkS_any dx dy dn _).mono ?_
        rintro e w1 ⟨rfl, hb1⟩
        obtain ⟨hc1, hf1, hz1⟩ := bk hb1
        (try simp at hz1)
        have hy1_0 : w.heap.size < w1.heap.size := by omega
        have hy1_1 : b < w1.heap.size := by omega
        rw [Hok2.out]
        go_wp2_with fail
        refine (underS_any dx dy dn _ Hok2.out).mono ?_
        rintro e w2 ⟨rfl, hb2⟩
        obtain ⟨hc2, hf2, hz2⟩ := bk hb2
        (try simp at hz2)
        have hy2_0 : w.heap.size < w2.heap.size := by omega
        rw [Hs.out]
        go_wp2
        all_goals
          have B2 := (hbel.tr hb1).tr hb2
          have zz1 : w2.cell? ⟨w.heap.size, 0, none⟩ = some (.int .i64 x) := by rw [hc2 _ _ (by omega), hc1 _ _ (by omega)]; exact z1
          have zz2 : w2.cell? ⟨w.heap.size, 1, none⟩ = some (.int .i64 y) := by rw [hc2 _ _ (by omega), hc1 _ _ (by omega)]; exact z2
          have hgo : domAtGo (x, y) ((dx, dy, dn) :: List.drop (k + 1) l) k = if domHas (dx, dy, dn) (x, y) = true then (k : Int) else domAtGo (x, y) (l.drop (k + 1)) (k + 1) := rfl
          rw [HG.out] at hgo
          have hn1 : w.heap.size ≠ w2.heap.size := by omega
          have hn2 : w.heap.size ≠ w2.heap.size + 1 := by omega
          clear hc1 hf1 hc2 hf2 z1 z2 q1 q2 q3 HD Hg
          first
            | (go_ret
               rw [if_pos (by rw [Hh.out]; simp [*])] at hgo
               exact ⟨retI hgo.symm, (B2.al _).al _⟩)
            | (rw [if_neg (by rw [Hh.out]; simp [*])] at hgo
               go_roundw
               case rel => exact ⟨k + 1, by omega, by go_num, Lib.hid hgo.symm, by go_simp, by go_simp, by simp; omega, (B2.al _).al _⟩
               case measure => simp [intOf]; omega)
    · obtain rfl : k = l.length := by omega
      have hg := Hg.out
      rw [List.drop_of_length_le (Nat.le_refl _)] at hg
      have HG : Hid ((-1 : Int) = D) := Lib.hid hg
      clear hg
      go_wp2
      go_ret
      exact ⟨retI HG.out, hbel⟩
end Go.Proofs.Ytkbndchgmokabaa
