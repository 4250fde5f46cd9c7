/- FnFloors: for all bytes the law returns true. No conditions. -/
import Derived.Test.YtkbndchgmokabaaFloors2
import Derived.Test.YtkbndchgmokabaaReadI
namespace Go.Proofs.Ytkbndchgmokabaa
open Go.ChangeShapes Go.WideShapes Go.ChangeAt Go.RowKit
set_option linter.unusedVariables false
set_option linter.unusedSimpArgs false

theorem Kept.blk {w0 w : World} {g b : Nat} {t : TypeId} {cs : Array Value} (k : Kept w0 g w) (h : Blk w0 b t cs) (hne : b ≠ g) : Blk w b t cs := (k.2 b h.lt hne).trans h
theorem Cur.grow {w w' : World} {g n : Nat} {u : Value} {row : Option Nat} (hc : Cur w g u n) (hg : w.grownBy w' row) (hne : some g ≠ row) : Cur w' g u n := by
  obtain ⟨i, x, hi, hk⟩ := hc
  exact ⟨i, x, hi, hk.grown hg hne⟩
/-- A valid region and a partial covering of it, both of the call's own. -/
def DrawnPart (w : World) (e : Ending) (w' : World) : Prop := ∃ (rows : List Int) (out : List Dm) (A1 : Option Addr) (c1 : Nat) (A2 : Option Addr) (c2 : Nat), e = .returned (.tuple #[.agg #[.slice A1 rows.length c1], .slice A2 out.length c2]) ∧ RowsOk rows ∧ PartOk (setOf rows) out ∧
  OwnL 3 1 eInt w.heap.size w' (.slice A1 rows.length c1) rows ∧ OwnL 73 3 eDom w.heap.size w' (.slice A2 out.length c2) out ∧ Below w.heap.size w w'
set_option maxHeartbeats 2000000 in
set_option maxRecDepth 100000 in
theorem drawPartial_any (v : Value) (l : List Int) (w : World) (h : Rd 1 RByte w v l) (ok : AllOk (fun x => 0 ≤ x ∧ x ≤ 255) l) (hl : l.length ≤ 1048576) : Calls Try.prog 22 #[v] w (DrawnPart w) := by
  have Hok := Lib.hid ok
  have hx0 := Blk.new_ w 31 #[.slice none 0 0]
  have hA := (Below.refl w.heap.size w).al (.cells #[.slice none 0 0] 31)
  go_enter Try.func22, Try.ntmps22
  go_wp2_with fail
  refine (new_any _ l _ (h.below RE.stays hA) ok hl).mono ?_
  rintro e w1 ⟨g, rfl, hg, hcur, hb1⟩
  have hx1 := hx0.below hb1 hx0.lt
  go_wp2_with fail
  refine (regionDraw_any _ g _ l _ (h.below RE.stays hA) Hok hg hb1 hcur).mono ?_
  rintro e w2 ⟨rows, A, c, rfl, hown, h1, h5, hr, hcur2, hb2⟩
  have hx2 := hx0.below hb2 hx0.lt
  have Hrows : Hid (RowsOk rows) := Lib.hid ⟨by omega, hr⟩
  have B3 := hb2.al (.cells #[.slice A rows.length c] 31)
  have hx3 := hx2.alloc (.cells #[.slice A rows.length c] 31)
  have bY3 := Blk.new_ w2 31 #[.slice A rows.length c]
  have own3 := hown.alloc (.cells #[.slice A rows.length c] 31)
  have cur3 := hcur2.alloc (.cells #[.slice A rows.length c] 31)
  have hgW : w.heap.size ≠ g := by simp at hg; omega
  clear hr hown hcur2 hx1 hx2 hx0 hcur hb1
  go_wp2_with fail
  obtain ⟨W3, hW3⟩ : ∃ W3, W3 = w2.alloc (.cells #[.slice A rows.length c] 31) := ⟨_, rfl⟩
  obtain ⟨gY, hgY⟩ : ∃ g, g = w2.heap.size := ⟨_, rfl⟩
  rw [← hW3] at B3 hx3 bY3 own3 cur3 ⊢
  rw [← hgY] at bY3 ⊢
  have hgYg : gY ≠ g := cur3.ne bY3 (by decide)
  have hgYw : w.heap.size ≠ gY := by have := hb2.size; simp at this; omega
  have hgYw' := hgYw.symm
  clear hW3 hgY
  have BBd : Below w.heap.size w W3.drew := (hA.tr B3).drew
  have cud := cur3.bl ((Below.refl _ _).drew)
  have owd := (own3.mono (show w.heap.size ≤ _ by simp)).below ((Below.refl _ _).drew)
  have hxd : Blk W3.drew w.heap.size 31 #[.slice none 0 0] := hx3
  have bYd : Blk W3.drew gY 31 #[.slice A rows.length c] := bY3
  have zY := bYd.c1
  have hgw : w.heap.size ≤ g := by simp at hg; omega
  have hl0 := hxd.lt
  clear B3 cur3 own3 hx3 bY3
  refine wp_region_held_drew (S := (fun w' => w'.cell? ⟨gY, 0, none⟩ = some (.slice A rows.length c))) (by kernel_rfl) ?_ (fun hHeld => ?_)
  · (try dsimp only); (try go_keep)
  refine wpAnyH_take (i := 0) (oi := { dst := some 10, op := Go.Op.load 31 (Go.Operand.tmp 5), type := 31, pos := "l06_tiling.go:156", after := #[], guard := none }) (v := ?_) rfl (by kernel_rfl) (by kernel_rfl) (by kernel_rfl) (fun _ _ _ h => h) (Or.inl ⟨by rfl, ?_⟩) (by assumption) ?_
  rotate_left 1
  · (intro wS hSw; (try dsimp only at hSw); go_simp; (all_goals with_reducible rfl))
  simp only [Act.put, List.setIfInBounds_toArray, List.set_cons_zero, List.set_cons_succ]
  refine wpAnyH_take (i := 1) (oi := { dst := some 11, op := Go.Op.move (Go.Operand.tmp 4), type := 124, pos := "l06_tiling.go:156", after := #[], guard := none }) (v := ?_) rfl (by kernel_rfl) (by kernel_rfl) (by kernel_rfl) (fun _ _ _ h => h) (Or.inl ⟨by rfl, ?_⟩) (by assumption) ?_
  rotate_left 1
  · (intro wS hSw; (try dsimp only at hSw); go_simp; (all_goals with_reducible rfl))
  simp only [Act.put, List.setIfInBounds_toArray, List.set_cons_zero, List.set_cons_succ]
  refine wpAnyH_take (i := 2) (oi := { dst := some 12, op := Go.Op.load 31 (Go.Operand.tmp 5), type := 31, pos := "l06_tiling.go:156", after := #[], guard := none }) (v := ?_) rfl (by kernel_rfl) (by kernel_rfl) (by kernel_rfl) (fun _ _ _ h => h) (Or.inl ⟨by rfl, ?_⟩) (by assumption) ?_
  rotate_left 1
  · (intro wS hSw; (try dsimp only at hSw); go_simp; (all_goals with_reducible rfl))
  simp only [Act.put, List.setIfInBounds_toArray, List.set_cons_zero, List.set_cons_succ]
  refine wpAnyH_ready (rs := [3]) (by kernel_rfl) (by simp) ?_
  refine AllReadyH.cons (o := { dst := some 13, op := Go.Op.call { callee := Go.Callee.value (Go.Operand.func 100), args := #[Go.Operand.tmp 11, Go.Operand.tmp 12], argTypes := #[124, 31] }, type := 37, pos := "l06_tiling.go:156", after := #[{ on := 1, ground := Go.Ground.data }, { on := 2, ground := Go.Ground.data }], guard := none }) rfl (fun K hK => ?_) AllReadyH.nil
  go_simp
  (go_at_call 100; go_must (refine (greedyS_any w g _ l _ h Hok hgw BBd cud A c rows owd Hrows).mono ?_; rintro e wX ⟨out, A2, c2, rfl, hP, ownO, ownR, curX, BX, kX⟩; have bYX := kX.blk bYd hgYg; have zY := bYX.c1; have hxX := kX.blk hxd hgW; have ownO := ownO.mono BBd.size); (try go_wp2_with fail))
  refine hK.out _ _ ?_ (fun hHeld => ?_)
  · (try dsimp only); (try go_keep)
  clear hK K
  (try simp only [Act.put, List.setIfInBounds_toArray, List.set_cons_zero, List.set_cons_succ])
  refine wpAnyH_ready (rs := [4]) (by kernel_rfl) (by simp) ?_
  refine AllReadyH.cons (o := { dst := none, op := Go.Op.store 31 (Go.Operand.tmp 2) (Go.Operand.tmp 10), type := 0, pos := "l06_tiling.go:156", after := #[{ on := 0, ground := Go.Ground.data }, { on := 3, ground := Go.Ground.chain }, { on := 0, ground := Go.Ground.phase }, { on := 1, ground := Go.Ground.textOnly Go.Departure.lateStores }, { on := 2, ground := Go.Ground.textOnly Go.Departure.lateStores }, { on := 3, ground := Go.Ground.textOnly Go.Departure.lateStoresUnsure }], guard := none }) rfl (fun K hK => ?_) AllReadyH.nil
  (first | (refine step_storeRow rfl 31 _ _ rfl w.heap.size #[.slice A rows.length c] rfl rfl _ _ hxX (by kernel_rfl) rfl (by simp [Value.oneCell']) ?_; intro wS hbS hgS; have ownO := World.ownsRow.kept ownO hgS (.inr (ownO.apart hxX (by decide))); have ownR := World.ownsRow.kept ownR hgS (.inr (ownR.apart hxX (by decide))); have BX := BX.grown hgS BX.size (fun k hk => by injection hk with hk; omega); have bYX := bYX.grown hgS (by simp; omega); have zY := bYX.c1) | (refine step_storeRow rfl 31 _ _ rfl w.heap.size #[.slice A rows.length c] rfl rfl _ _ hxd (by kernel_rfl) rfl (by simp [Value.oneCell']) ?_; intro wS hbS hgS; have owd := World.ownsRow.kept owd hgS (.inr (owd.apart hxd (by decide))); have cud := cud.grow hgS (by simp; omega); have BBd := BBd.grown hgS BBd.size (fun k hk => by injection hk with hk; omega); have bYd := bYd.grown hgS (by simp; omega); have zY := bYd.c1; have hxd := hbS))
  refine hK.out _ _ ?_ (fun hHeld => ?_)
  · (try dsimp only); (try go_keep)
  clear hK K
  (try simp only [Act.put, List.setIfInBounds_toArray, List.set_cons_zero, List.set_cons_succ])
  refine wpAnyH_take (i := 5) (oi := { dst := some 3, op := Go.Op.assign (Go.Operand.tmp 13), type := 37, pos := "l06_tiling.go:156", after := #[{ on := 3, ground := Go.Ground.data }, { on := 4, ground := Go.Ground.chain }, { on := 0, ground := Go.Ground.phase }, { on := 1, ground := Go.Ground.phase }, { on := 2, ground := Go.Ground.phase }, { on := 3, ground := Go.Ground.phase }, { on := 4, ground := Go.Ground.phase }], guard := none }) (v := ?_) rfl (by kernel_rfl) (by kernel_rfl) (by kernel_rfl) (fun _ _ _ h => h) (Or.inl ⟨by rfl, ?_⟩) (by assumption) ?_
  rotate_left 1
  · (intro wS hSw; (try dsimp only at hSw); go_simp; (all_goals with_reducible rfl))
  simp only [Act.put, List.setIfInBounds_toArray, List.set_cons_zero, List.set_cons_succ]
  refine wpAnyH_done (by kernel_rfl) ?_ _
  all_goals
    go_wp2_with fail
    first
      | (have q := hbS.c1; refine bodyPost_ret (v := .tuple #[.agg #[.slice A rows.length c], .slice A2 out.length c2]) (by simp [results, Try.results22, go_sem, q]) rfl ⟨rows, out, A, c, A2, c2, rfl, Hrows.out, hP, ownR, ownO, BX⟩)
      | (have q := hxX.c1; refine bodyPost_ret (v := .tuple #[.agg #[.slice A rows.length c], .slice A2 out.length c2]) (by simp [results, Try.results22, go_sem, q]) rfl ⟨rows, out, A, c, A2, c2, rfl, Hrows.out, hP, ownR, ownO, BX⟩)
theorem bigF_any (v : Value) (l : List Int) (w : World) (h : Rd 1 RByte w v l) : Calls Try.prog 21 #[v] w (Pure (.bool (decide (1048576 < l.length))) w) := by
  obtain ⟨A, c, rfl, hc, hm⟩ := h.form
  go_enter Try.func21, Try.ntmps21
  go_wp2
  go_ret
  exact ⟨by simp; omega, rfl⟩
theorem ne_ways {a b : Int} {c : Bool} {x y : Int} {d : Bool} (h : ¬ ((a, b, c) : Dm) = (x, y, d)) : (¬ a = x) ∨ (x = a ∧ ¬ b = y) ∨ (x = a ∧ y = b ∧ ¬ c = d) := by
  by_cases h1 : a = x
  · by_cases h2 : b = y
    · exact .inr (.inr ⟨h1.symm, h2.symm, fun h3 => h (by rw [h1, h2, h3])⟩)
    · exact .inr (.inl ⟨h1.symm, h2⟩)
  · exact .inl h1
set_option maxHeartbeats 1000000 in
set_option maxRecDepth 100000 in
theorem sameDomQ (u v : Value) (l m : List Dm) (w : World) (h : Rd 3 RDom w u l) (h' : Rd 3 RDom w v m) : Calls Try.prog 26 #[u, v] w (Ret (.bool (decide (l = m))) w) := by
  obtain ⟨A, c, rfl, hc, hm⟩ := h.form
  obtain ⟨A', c', rfl, hc', hm'⟩ := h'.form
  by_cases hlen : l.length = m.length
  · have hne : ((l.length : Int) != (m.length : Int)) = false := by simp [hlen]
    have Hlen := Lib.hid hlen; clear hlen
    go_enter Try.func26, Try.ntmps26
    go_wp2
    go_loopw [5] (fun i wr => ∃ k : Nat, k ≤ l.length ∧ i = .int .i64 k ∧ Hid (decide (l.drop k = m.drop k) = decide (l = m)) ∧ Below w.heap.size w wr) (fun i _ => l.length - (intOf i).toNat)
    case atStart => exact ⟨0, Nat.zero_le _, rfl, Lib.hid rfl, Below.refl _ _⟩
    case round =>
      obtain ⟨k, hk, rfl, Hg, hbel⟩ := hrel
      by_cases hlt : k < l.length
      · have hlm : k < m.length := by have := Hlen.out; omega
        obtain ⟨b, off, rfl, hb, q1, q2, q3⟩ := (h.below RE.stays hbel).atDom hlt
        obtain ⟨b', off', rfl, hb', p1, p2, p3⟩ := (h'.below RE.stays hbel).atDom hlm
        have hlt' : (k : Int) < (m.length : Int) := by omega
        obtain ⟨d, hd⟩ : ∃ d, d = l[k] := ⟨_, rfl⟩
        obtain ⟨e, he⟩ : ∃ e, e = m[k] := ⟨_, rfl⟩
        rw [← hd] at q1 q2 q3
        rw [← he] at p1 p2 p3
        obtain ⟨dx, dy, dd⟩ := d
        obtain ⟨ex, ey, ed⟩ := e
        simp only at q1 q2 q3 p1 p2 p3
        by_cases hde : ((dx, dy, dd) : Dm) = (ex, ey, ed)
        · have Hg2 := eqd_go Hg hlt hlm (by rw [← hd, ← he]; exact hde)
          simp only [Prod.mk.injEq] at hde
          obtain ⟨rfl, rfl, rfl⟩ := hde
          clear hd he
          go_wp2_with fail
          go_quiet (fail)
          go_wp2
          go_roundw
          case rel => exact ⟨k + 1, by omega, by go_num, Hg2, below_drewN hbel _⟩
          case measure => simp [intOf]; omega
        · have HR := Lib.hid (eqd_no Hg hlt hlm (by rw [← hd, ← he]; exact hde)).symm
          clear hd he
          rcases ne_ways hde with p | ⟨rfl, p⟩ | ⟨rfl, rfl, p⟩
          all_goals
            clear hde
            go_wp2_with fail
            go_quiet (fail)
            go_wp2
            go_ret
            exact ⟨retB HR.out, below_drewN hbel _⟩
      · go_wp2
        go_ret
        exact ⟨retB (eqd_end Hg (by omega) (by have := Hlen.out; omega)).symm, hbel⟩
  · have hne : ((l.length : Int) != (m.length : Int)) = true := by simp; omega
    go_enter Try.func26, Try.ntmps26
    go_wp2
    go_ret
    exact ⟨retB (by rw [eq_comm, decide_eq_false_iff_not]; exact fun e => hlen (by rw [e])), Below.refl _ _⟩
theorem sum_lines (s : Nat) (l : List Dm) : ∀ n, ((fText s l n).map (·.size)).sum = 8 * n
  | 0 => rfl
  | n + 1 => by
    rw [fText_succ, List.map_append, List.sum_append, sum_lines s l n]
    simp [fStr_size]; omega
theorem countQ (v : Value) (L : List ByteArray) (c : UInt8) (w : World) (h : Rd 1 (RE eStr) w v L) (hsum : (L.map (·.size)).sum ≤ 1048576) : Calls Try.prog 27 #[v, .string ⟨#[c]⟩] w (Ret (.int .i64 (cntAll L c)) w) :=
  countI_any v L ⟨#[c]⟩ w h (by show 0 < 1; decide) (Lib.hid rfl) c (Lib.hid rfl) hsum
theorem countN (v : Value) (L : List ByteArray) (c : UInt8) (n : Nat) (w : World) (h : Rd 1 (RE eStr) w v L) (hsum : (L.map (·.size)).sum ≤ 1048576) (hn : cntAll L c = n) : Calls Try.prog 27 #[v, .string ⟨#[c]⟩] w (Ret (.int .i64 n) w) := by
  have := countQ v L c w h hsum; rw [hn] at this; exact this
theorem sameDomQ_same (u v : Value) (l : List Dm) (w : World) (h : Rd 3 RDom w u l) (h' : Rd 3 RDom w v l) : Calls Try.prog 26 #[u, v] w (Ret (.bool true) w) := by
  have := sameDomQ u v l l w h h'; rw [decide_eq_true (rfl : l = l)] at this; exact this
theorem sameFloorQ (u v : Value) (l : List ByteArray) (w : World) (h : Rd 1 (RE eStr) w u l) (h' : Rd 1 (RE eStr) w v l) : Calls Try.prog 29 #[u, v] w (Ret (.bool true) w) := by
  have := sameFloorI_any u v l l w h h'; rw [decide_eq_true (rfl : l = l)] at this; exact this
theorem floorLinesQ (v u : Value) (rows : List Int) (l : List Dm) (L : List ByteArray) (w : World) (h : Rd 1 RInt w v rows) (h2 : Rd 3 RDom w u l) (hL : L = floorLines rows l) : Calls Try.prog 23 #[.agg #[v], u] w (RetOwn 9 1 eStr L w) := by
  rw [hL]; exact floorLinesI_any v u rows l w h h2
theorem readQ (v : Value) (L : List ByteArray) (rows : List Int) (l : List Dm) (w : World) (h : Rd 1 (RE eStr) w v L) (h1 : readRows L = rows) (h2 : readDoms L = l) (h3 : readOk L = true) : Calls Try.prog 24 #[v] w (RetRead rows l true w) := by
  have := readI_any v L w h; rw [h1, h2, h3] at this; exact this

set_option maxHeartbeats 16000000 in
set_option maxRecDepth 100000 in
theorem FnFloors_walk (w : World) (v : Value) (l : List Int) (h : Rd 1 RByte w v l) (ok : AllOk (fun x => 0 ≤ x ∧ x ≤ 255) l) : Calls Try.prog 4 #[v] w (Ret (.bool true) w) := by
  by_cases hsz : 1048576 < l.length
  · have hd : decide (1048576 < l.length) = true := by simpa using hsz
    have Hd := Lib.hid hd; clear hd
    go_enter Try.func4, Try.ntmps4
    go_wp2_with fail
    refine (bigF_any _ l _ h).mono ?_
    rintro e w0 ⟨rfl, rfl⟩
    rw [Hd.out]
    go_wp2
    go_ret
    exact ⟨rfl, Below.refl _ _⟩
  · have hd : decide (1048576 < l.length) = false := by simpa using hsz
    have Hd := Lib.hid hd; clear hd
    have hl : l.length ≤ 1048576 := by omega
    have Hok := Lib.hid ok; clear ok
    go_enter Try.func4, Try.ntmps4
    go_wp2_with fail
    refine (bigF_any _ l _ h).mono ?_
    rintro e w0 ⟨rfl, rfl⟩
    rw [Hd.out]
    go_wp2_with fail
    refine (drawPartial_any _ l _ h Hok.out hl).mono ?_
    rintro e w1 ⟨rows, out, A1, c1, A2, c2, rfl, hro, hP, o1, o2, hb1⟩
    have hpt : isPartial rows out = true := isPartial_iff.2 ⟨hro, hP⟩
    obtain ⟨rd1, rd2, rd3⟩ := read_back hpt
    obtain ⟨n1, n2, n3⟩ := cnt_signs hpt
    have n4 := cnt_63 hpt
    have hol : out.length ≤ 128 := sorted_len hP.sorted
    have hr8 := hro.1
    have hLl : (floorLines rows out).length = rows.length := by unfold floorLines; rw [if_pos hpt, fText_len]
    have hLs : ((floorLines rows out).map (·.size)).sum ≤ 1048576 := by unfold floorLines; rw [if_pos hpt, sum_lines]; omega
    have hun : (uncov rows out).length ≤ 64 := Nat.le_trans (List.length_filter_le _ _) (regCells_le rows)
    obtain ⟨L, hL⟩ : ∃ L, L = floorLines rows out := ⟨_, rfl⟩
    rw [← hL] at rd1 rd2 rd3 n1 n2 n3 n4 hLl hLs
    have HL := Lib.hid hL; have Hr1 := Lib.hid rd1; have Hr2 := Lib.hid rd2; have Hr3 := Lib.hid rd3; have HLs := Lib.hid hLs; have Hrows := Lib.hid hro; have HLl := Lib.hid hLl
    obtain ⟨a, ha⟩ : ∃ a, a = cntAll L 60 := ⟨_, rfl⟩
    obtain ⟨b, hb⟩ : ∃ b, b = cntAll L 94 := ⟨_, rfl⟩
    rw [← ha, ← hb] at n3
    rw [← ha] at n1
    rw [← hb] at n2
    have N60 := Lib.hid ha.symm; have N62 := Lib.hid n1.symm; have N94 := Lib.hid hb.symm; have N118 := Lib.hid n2.symm; have N63 := Lib.hid n4
    have hab : IntKind.i64.wrap ((a : Int) + (b : Int)) = (out.length : Int) := by rw [IntWalk.i64_in _ (by omega)]; omega
    have hab2 : (a : Int) + (b : Int) = (out.length : Int) := by omega
    have HAB := Lib.hid hab; have HAB2 := Lib.hid hab2
    clear hL rd1 rd2 rd3 hLs hro hP hpt hLl ha hb n1 n2 n3 n4 hab hab2
    have B1 := hb1.al (.cells #[.slice A1 rows.length c1] 31)
    have bR := Blk.new_ w1 31 #[.slice A1 rows.length c1]
    have p1 := o1.alloc (.cells #[.slice A1 rows.length c1] 31)
    have p2 := o2.alloc (.cells #[.slice A1 rows.length c1] 31)
    clear o1 o2
    go_wp2_with fail
    refine (floorLinesQ _ _ rows out L _ (p1.rd lenInt (by decide)) (p2.rd lenDom (by decide)) HL.out).mono ?_
    rintro e w2 ⟨A3, c3, rfl, o3, hb2⟩
    rw [HLl.out] at o3 ⊢
    have B2 := B1.tr hb2
    have bR2 := bR.bl hb2
    have p1 := p1.below hb2
    have p2 := p2.below hb2
    go_wp2_with fail
    refine (readQ _ L rows out _ (o3.rd lenStr (by decide)) Hr2.out Hr3.out Hr1.out).mono ?_
    rintro e w3 ⟨A4, c4, A5, c5, rfl, o4, o5, hb3⟩
    have B3 := (B2.tr hb3).al (.cells #[.slice A4 rows.length c4] 31)
    have bR3 := (bR2.bl hb3).alloc (.cells #[.slice A4 rows.length c4] 31)
    have bS3 := Blk.new_ w3 31 #[.slice A4 rows.length c4]
    have p1 := (p1.below hb3).alloc (.cells #[.slice A4 rows.length c4] 31)
    have p2 := (p2.below hb3).alloc (.cells #[.slice A4 rows.length c4] 31)
    have o3 := (o3.below hb3).alloc (.cells #[.slice A4 rows.length c4] 31)
    have o4 := o4.alloc (.cells #[.slice A4 rows.length c4] 31)
    have o5 := o5.alloc (.cells #[.slice A4 rows.length c4] 31)
    go_wp2_with fail
    obtain ⟨W4, hW4⟩ : ∃ W4, W4 = w3.alloc (.cells #[.slice A4 rows.length c4] 31) := ⟨_, rfl⟩
    obtain ⟨gS, hgS⟩ : ∃ g, g = w3.heap.size := ⟨_, rfl⟩
    obtain ⟨gR, hgR⟩ : ∃ g, g = w1.heap.size := ⟨_, rfl⟩
    rw [← hW4] at B3 bR3 bS3 p1 p2 o3 o4 o5 ⊢
    rw [← hgS] at bS3 ⊢
    rw [← hgR] at bR3 ⊢
    clear hW4 hgS hgR bR bR2 B1 B2 hb1 hb2 hb3
    have zR := bR3.c1
    have zS := bS3.c1
    have hp0 := bR3.lt
    have hp1 := bS3.lt
    have hab := HAB.out
    have Bw : Below W4.heap.size W4 W4.drew := (Below.refl _ _).drew
    have hz : W4.heap.size ≤ W4.drew.heap.size := by simp
    refine wp_region_held_drew (S := (fun w' => w'.cell? ⟨gR, 0, none⟩ = some (.slice A1 rows.length c1) ∧ w'.cell? ⟨gS, 0, none⟩ = some (.slice A4 rows.length c4))) (by kernel_rfl) ?_ (fun hHeld => ?_)
    · (try dsimp only); (try go_keep)
    refine wpAnyH_take (i := 0) (oi := { dst := some 25, op := Go.Op.move (Go.Operand.tmp 8), type := 4, pos := "laws.go:908", after := #[], guard := none }) (v := ?_) rfl (by kernel_rfl) (by kernel_rfl) (by kernel_rfl) (fun _ _ _ h => h) (Or.inl ⟨by rfl, ?_⟩) (by assumption) ?_
    rotate_left 1
    · (intro wS hSw; (try dsimp only at hSw); go_simp; (all_goals with_reducible rfl))
    simp only [Act.put, List.setIfInBounds_toArray, List.set_cons_zero, List.set_cons_succ]
    refine wpAnyH_take (i := 1) (oi := { dst := some 26, op := Go.Op.move (Go.Operand.tmp 25), type := 4, pos := "laws.go:908", after := #[{ on := 0, ground := Go.Ground.data }], guard := none }) (v := ?_) rfl (by kernel_rfl) (by kernel_rfl) (by kernel_rfl) (fun _ _ _ h => h) (Or.inl ⟨by rfl, ?_⟩) (by assumption) ?_
    rotate_left 1
    · (intro wS hSw; (try dsimp only at hSw); go_simp; (all_goals with_reducible rfl))
    simp only [Act.put, List.setIfInBounds_toArray, List.set_cons_zero, List.set_cons_succ]
    refine wpAnyH_take (i := 2) (oi := { dst := some 27, op := Go.Op.load 31 (Go.Operand.tmp 3), type := 31, pos := "laws.go:908", after := #[{ on := 1, ground := Go.Ground.guard }], guard := some (1, true) }) (v := ?_) rfl (by kernel_rfl) (by kernel_rfl) (by kernel_rfl) (fun _ _ _ h => h) (Or.inl ⟨by rfl, ?_⟩) (by assumption) ?_
    rotate_left 1
    · (intro wS hSw; (try dsimp only at hSw); go_simp; (all_goals with_reducible rfl))
    simp only [Act.put, List.setIfInBounds_toArray, List.set_cons_zero, List.set_cons_succ]
    refine wpAnyH_take (i := 3) (oi := { dst := some 28, op := Go.Op.load 31 (Go.Operand.tmp 6), type := 31, pos := "laws.go:908", after := #[{ on := 1, ground := Go.Ground.guard }], guard := some (1, true) }) (v := ?_) rfl (by kernel_rfl) (by kernel_rfl) (by kernel_rfl) (fun _ _ _ h => h) (Or.inl ⟨by rfl, ?_⟩) (by assumption) ?_
    rotate_left 1
    · (intro wS hSw; (try dsimp only at hSw); go_simp; (all_goals with_reducible rfl))
    simp only [Act.put, List.setIfInBounds_toArray, List.set_cons_zero, List.set_cons_succ]
    refine wpAnyH_ready (rs := [4]) (by kernel_rfl) (by simp) ?_
    refine AllReadyH.cons (o := { dst := some 29, op := Go.Op.call { callee := Go.Callee.value (Go.Operand.func 25), args := #[Go.Operand.tmp 27, Go.Operand.tmp 28], argTypes := #[31, 31] }, type := 4, pos := "laws.go:908", after := #[{ on := 2, ground := Go.Ground.data }, { on := 3, ground := Go.Ground.data }, { on := 1, ground := Go.Ground.chain }, { on := 1, ground := Go.Ground.guard }], guard := some (1, true) }) rfl (fun K hK => ?_) AllReadyH.nil
    go_simp
    (first | (go_at_call 25; go_must (refine (sameCellsS_same _ _ rows _ ((p1.below Bw).rd lenInt (by decide)) ((o4.below Bw).rd lenInt (by decide)) Hrows).mono ?_; rintro e wX ⟨rfl, hbX⟩; obtain ⟨hcX, hfX, hzX⟩ := bkn hbX W4.heap.size hz; have hz := hzX; have Bw := Bw.tr hbX); (try go_wp2_with fail)) | (go_at_call 26; go_must (refine (sameDomQ_same _ _ out _ ((o5.below Bw).rd lenDom (by decide)) ((p2.below Bw).rd lenDom (by decide))).mono ?_; rintro e wX ⟨rfl, hbX⟩; obtain ⟨hcX, hfX, hzX⟩ := bkn hbX W4.heap.size hz; have hz := hzX; have Bw := Bw.tr hbX); (try go_wp2_with fail)) | (go_at_call 27; go_must (refine (countN _ L _ _ _ ((o3.below Bw).rd lenStr (by decide)) HLs.out (by first | exact N60.out | exact N62.out | exact N94.out | exact N118.out | exact N63.out)).mono ?_; rintro e wX ⟨rfl, hbX⟩; obtain ⟨hcX, hfX, hzX⟩ := bkn hbX W4.heap.size hz; have hz := hzX; have Bw := Bw.tr hbX); (try go_wp2_with fail)) | (go_at_call 28; go_must (refine (uncovS_any _ _ rows out _ ((p1.below Bw).rd lenInt (by decide)) ((p2.below Bw).rd lenDom (by decide))).mono ?_; rintro e wX ⟨A7, c7, rfl, o7, hbX⟩; obtain ⟨hcX, hfX, hzX⟩ := bkn hbX W4.heap.size hz; have hz := hzX; have Bw := Bw.tr hbX); (try go_wp2_with fail)) | (go_at_call 23; go_must (refine (floorLinesQ _ _ rows out L _ ((o4.below Bw).rd lenInt (by decide)) ((o5.below Bw).rd lenDom (by decide)) HL.out).mono ?_; rintro e wX ⟨A8, c8, rfl, o8, hbX⟩; obtain ⟨hcX, hfX, hzX⟩ := bkn hbX W4.heap.size hz; have hz := hzX; have Bw := Bw.tr hbX); (try go_wp2_with fail)) | (go_at_call 29; go_must (refine (sameFloorQ _ _ L _ ((o3.below Bw).rd lenStr (by decide)) (o8.rd lenStr (by decide))).mono ?_; rintro e wX ⟨rfl, hbX⟩; obtain ⟨hcX, hfX, hzX⟩ := bkn hbX W4.heap.size hz; have hz := hzX; have Bw := Bw.tr hbX); (try go_wp2_with fail)))
    refine hK.out _ _ ?_ (fun hHeld => ?_)
    · (try dsimp only); (try go_keep)
    clear hK K
    (try simp only [Act.put, List.setIfInBounds_toArray, List.set_cons_zero, List.set_cons_succ])
    refine wpAnyH_take (i := 5) (oi := { dst := some 30, op := Go.Op.pick (Go.Operand.tmp 26) (Go.Operand.tmp 29) (Go.Operand.const (Go.Value.bool false)), type := 4, pos := "laws.go:908", after := #[{ on := 1, ground := Go.Ground.data }, { on := 4, ground := Go.Ground.data }], guard := none }) (v := ?_) rfl (by kernel_rfl) (by kernel_rfl) (by kernel_rfl) (fun _ _ _ h => h) (Or.inl ⟨by rfl, ?_⟩) (by assumption) ?_
    rotate_left 1
    · (intro wS hSw; (try dsimp only at hSw); go_simp; (all_goals with_reducible rfl))
    simp only [Act.put, List.setIfInBounds_toArray, List.set_cons_zero, List.set_cons_succ]
    refine wpAnyH_take (i := 6) (oi := { dst := some 31, op := Go.Op.move (Go.Operand.tmp 30), type := 4, pos := "laws.go:908", after := #[{ on := 5, ground := Go.Ground.data }, { on := 4, ground := Go.Ground.chain }], guard := none }) (v := ?_) rfl (by kernel_rfl) (by kernel_rfl) (by kernel_rfl) (fun _ _ _ h => h) (Or.inl ⟨by rfl, ?_⟩) (by assumption) ?_
    rotate_left 1
    · (intro wS hSw; (try dsimp only at hSw); go_simp; (all_goals with_reducible rfl))
    simp only [Act.put, List.setIfInBounds_toArray, List.set_cons_zero, List.set_cons_succ]
    refine wpAnyH_take (i := 7) (oi := { dst := some 32, op := Go.Op.move (Go.Operand.tmp 7), type := 37, pos := "laws.go:908", after := #[{ on := 6, ground := Go.Ground.guard }], guard := some (6, true) }) (v := ?_) rfl (by kernel_rfl) (by kernel_rfl) (by kernel_rfl) (fun _ _ _ h => h) (Or.inl ⟨by rfl, ?_⟩) (by assumption) ?_
    rotate_left 1
    · (intro wS hSw; (try dsimp only at hSw); go_simp; (all_goals with_reducible rfl))
    simp only [Act.put, List.setIfInBounds_toArray, List.set_cons_zero, List.set_cons_succ]
    refine wpAnyH_take (i := 8) (oi := { dst := some 33, op := Go.Op.move (Go.Operand.tmp 4), type := 37, pos := "laws.go:908", after := #[{ on := 6, ground := Go.Ground.guard }], guard := some (6, true) }) (v := ?_) rfl (by kernel_rfl) (by kernel_rfl) (by kernel_rfl) (fun _ _ _ h => h) (Or.inl ⟨by rfl, ?_⟩) (by assumption) ?_
    rotate_left 1
    · (intro wS hSw; (try dsimp only at hSw); go_simp; (all_goals with_reducible rfl))
    simp only [Act.put, List.setIfInBounds_toArray, List.set_cons_zero, List.set_cons_succ]
    refine wpAnyH_ready (rs := [9]) (by kernel_rfl) (by simp) ?_
    refine AllReadyH.cons (o := { dst := some 34, op := Go.Op.call { callee := Go.Callee.value (Go.Operand.func 26), args := #[Go.Operand.tmp 32, Go.Operand.tmp 33], argTypes := #[37, 37] }, type := 4, pos := "laws.go:908", after := #[{ on := 7, ground := Go.Ground.data }, { on := 8, ground := Go.Ground.data }, { on := 6, ground := Go.Ground.chain }, { on := 6, ground := Go.Ground.guard }], guard := some (6, true) }) rfl (fun K hK => ?_) AllReadyH.nil
    go_simp
    (first | (go_at_call 25; go_must (refine (sameCellsS_same _ _ rows _ ((p1.below Bw).rd lenInt (by decide)) ((o4.below Bw).rd lenInt (by decide)) Hrows).mono ?_; rintro e wX ⟨rfl, hbX⟩; obtain ⟨hcX, hfX, hzX⟩ := bkn hbX W4.heap.size hz; have hz := hzX; have Bw := Bw.tr hbX); (try go_wp2_with fail)) | (go_at_call 26; go_must (refine (sameDomQ_same _ _ out _ ((o5.below Bw).rd lenDom (by decide)) ((p2.below Bw).rd lenDom (by decide))).mono ?_; rintro e wX ⟨rfl, hbX⟩; obtain ⟨hcX, hfX, hzX⟩ := bkn hbX W4.heap.size hz; have hz := hzX; have Bw := Bw.tr hbX); (try go_wp2_with fail)) | (go_at_call 27; go_must (refine (countN _ L _ _ _ ((o3.below Bw).rd lenStr (by decide)) HLs.out (by first | exact N60.out | exact N62.out | exact N94.out | exact N118.out | exact N63.out)).mono ?_; rintro e wX ⟨rfl, hbX⟩; obtain ⟨hcX, hfX, hzX⟩ := bkn hbX W4.heap.size hz; have hz := hzX; have Bw := Bw.tr hbX); (try go_wp2_with fail)) | (go_at_call 28; go_must (refine (uncovS_any _ _ rows out _ ((p1.below Bw).rd lenInt (by decide)) ((p2.below Bw).rd lenDom (by decide))).mono ?_; rintro e wX ⟨A7, c7, rfl, o7, hbX⟩; obtain ⟨hcX, hfX, hzX⟩ := bkn hbX W4.heap.size hz; have hz := hzX; have Bw := Bw.tr hbX); (try go_wp2_with fail)) | (go_at_call 23; go_must (refine (floorLinesQ _ _ rows out L _ ((o4.below Bw).rd lenInt (by decide)) ((o5.below Bw).rd lenDom (by decide)) HL.out).mono ?_; rintro e wX ⟨A8, c8, rfl, o8, hbX⟩; obtain ⟨hcX, hfX, hzX⟩ := bkn hbX W4.heap.size hz; have hz := hzX; have Bw := Bw.tr hbX); (try go_wp2_with fail)) | (go_at_call 29; go_must (refine (sameFloorQ _ _ L _ ((o3.below Bw).rd lenStr (by decide)) (o8.rd lenStr (by decide))).mono ?_; rintro e wX ⟨rfl, hbX⟩; obtain ⟨hcX, hfX, hzX⟩ := bkn hbX W4.heap.size hz; have hz := hzX; have Bw := Bw.tr hbX); (try go_wp2_with fail)))
    refine hK.out _ _ ?_ (fun hHeld => ?_)
    · (try dsimp only); (try go_keep)
    clear hK K
    (try simp only [Act.put, List.setIfInBounds_toArray, List.set_cons_zero, List.set_cons_succ])
    refine wpAnyH_take (i := 10) (oi := { dst := some 35, op := Go.Op.pick (Go.Operand.tmp 31) (Go.Operand.tmp 34) (Go.Operand.const (Go.Value.bool false)), type := 4, pos := "laws.go:908", after := #[{ on := 6, ground := Go.Ground.data }, { on := 9, ground := Go.Ground.data }], guard := none }) (v := ?_) rfl (by kernel_rfl) (by kernel_rfl) (by kernel_rfl) (fun _ _ _ h => h) (Or.inl ⟨by rfl, ?_⟩) (by assumption) ?_
    rotate_left 1
    · (intro wS hSw; (try dsimp only at hSw); go_simp; (all_goals with_reducible rfl))
    simp only [Act.put, List.setIfInBounds_toArray, List.set_cons_zero, List.set_cons_succ]
    refine wpAnyH_take (i := 11) (oi := { dst := some 36, op := Go.Op.move (Go.Operand.tmp 35), type := 4, pos := "laws.go:908", after := #[{ on := 10, ground := Go.Ground.data }, { on := 9, ground := Go.Ground.chain }], guard := none }) (v := ?_) rfl (by kernel_rfl) (by kernel_rfl) (by kernel_rfl) (fun _ _ _ h => h) (Or.inl ⟨by rfl, ?_⟩) (by assumption) ?_
    rotate_left 1
    · (intro wS hSw; (try dsimp only at hSw); go_simp; (all_goals with_reducible rfl))
    simp only [Act.put, List.setIfInBounds_toArray, List.set_cons_zero, List.set_cons_succ]
    refine wpAnyH_take (i := 12) (oi := { dst := some 37, op := Go.Op.move (Go.Operand.tmp 5), type := 40, pos := "laws.go:908", after := #[{ on := 11, ground := Go.Ground.guard }], guard := some (11, true) }) (v := ?_) rfl (by kernel_rfl) (by kernel_rfl) (by kernel_rfl) (fun _ _ _ h => h) (Or.inl ⟨by rfl, ?_⟩) (by assumption) ?_
    rotate_left 1
    · (intro wS hSw; (try dsimp only at hSw); go_simp; (all_goals with_reducible rfl))
    simp only [Act.put, List.setIfInBounds_toArray, List.set_cons_zero, List.set_cons_succ]
    refine wpAnyH_take (i := 13) (oi := { dst := some 38, op := Go.Op.call { callee := Go.Callee.builtin Go.Builtin.len, args := #[Go.Operand.tmp 37], argTypes := #[40] }, type := 3, pos := "laws.go:908", after := #[{ on := 12, ground := Go.Ground.data }, { on := 11, ground := Go.Ground.guard }], guard := some (11, true) }) (v := ?_) rfl (by kernel_rfl) (by kernel_rfl) (by kernel_rfl) (fun _ _ _ h => h) (Or.inl ⟨by rfl, ?_⟩) (by assumption) ?_
    rotate_left 1
    · (intro wS hSw; (try dsimp only at hSw); go_simp; (all_goals with_reducible rfl))
    simp only [Act.put, List.setIfInBounds_toArray, List.set_cons_zero, List.set_cons_succ]
    refine wpAnyH_take (i := 14) (oi := { dst := some 39, op := Go.Op.fieldAddr 31 (Go.Operand.tmp 3) 0, type := 0, pos := "laws.go:908", after := #[{ on := 11, ground := Go.Ground.guard }], guard := some (11, true) }) (v := ?_) rfl (by kernel_rfl) (by kernel_rfl) (by kernel_rfl) (fun _ _ _ h => h) (Or.inl ⟨by rfl, ?_⟩) (by assumption) ?_
    rotate_left 1
    · (intro wS hSw; (try dsimp only at hSw); go_simp; (all_goals with_reducible rfl))
    simp only [Act.put, List.setIfInBounds_toArray, List.set_cons_zero, List.set_cons_succ]
    refine wpAnyH_take (i := 15) (oi := { dst := some 40, op := Go.Op.load 24 (Go.Operand.tmp 39), type := 24, pos := "laws.go:908", after := #[{ on := 14, ground := Go.Ground.data }, { on := 11, ground := Go.Ground.guard }], guard := some (11, true) }) (v := ?_) rfl (by kernel_rfl) (by kernel_rfl) (by kernel_rfl) (fun _ _ _ h => h) (Or.inl ⟨by rfl, ?_⟩) (by assumption) ?_
    rotate_left 1
    · (intro wS hSw; (try dsimp only at hSw); go_simp; (all_goals with_reducible rfl))
    simp only [Act.put, List.setIfInBounds_toArray, List.set_cons_zero, List.set_cons_succ]
    refine wpAnyH_take (i := 16) (oi := { dst := some 41, op := Go.Op.call { callee := Go.Callee.builtin Go.Builtin.len, args := #[Go.Operand.tmp 40], argTypes := #[24] }, type := 3, pos := "laws.go:908", after := #[{ on := 15, ground := Go.Ground.data }, { on := 11, ground := Go.Ground.guard }], guard := some (11, true) }) (v := ?_) rfl (by kernel_rfl) (by kernel_rfl) (by kernel_rfl) (fun _ _ _ h => h) (Or.inl ⟨by rfl, ?_⟩) (by assumption) ?_
    rotate_left 1
    · (intro wS hSw; (try dsimp only at hSw); go_simp; (all_goals with_reducible rfl))
    simp only [Act.put, List.setIfInBounds_toArray, List.set_cons_zero, List.set_cons_succ]
    refine wpAnyH_take (i := 17) (oi := { dst := some 42, op := Go.Op.binOp Go.BinOp.eql 3 (Go.Operand.tmp 38) (Go.Operand.tmp 41) 3, type := 4, pos := "laws.go:908", after := #[{ on := 13, ground := Go.Ground.data }, { on := 16, ground := Go.Ground.data }, { on := 11, ground := Go.Ground.guard }], guard := some (11, true) }) (v := ?_) rfl (by kernel_rfl) (by kernel_rfl) (by kernel_rfl) (fun _ _ _ h => h) (Or.inl ⟨by rfl, ?_⟩) (by assumption) ?_
    rotate_left 1
    · (intro wS hSw; (try dsimp only at hSw); go_simp; (all_goals with_reducible rfl))
    simp only [Act.put, List.setIfInBounds_toArray, List.set_cons_zero, List.set_cons_succ]
    refine wpAnyH_take (i := 18) (oi := { dst := some 43, op := Go.Op.pick (Go.Operand.tmp 36) (Go.Operand.tmp 42) (Go.Operand.const (Go.Value.bool false)), type := 4, pos := "laws.go:908", after := #[{ on := 11, ground := Go.Ground.data }, { on := 17, ground := Go.Ground.data }], guard := none }) (v := ?_) rfl (by kernel_rfl) (by kernel_rfl) (by kernel_rfl) (fun _ _ _ h => h) (Or.inl ⟨by rfl, ?_⟩) (by assumption) ?_
    rotate_left 1
    · (intro wS hSw; (try dsimp only at hSw); go_simp; (all_goals with_reducible rfl))
    simp only [Act.put, List.setIfInBounds_toArray, List.set_cons_zero, List.set_cons_succ]
    refine wpAnyH_take (i := 19) (oi := { dst := some 44, op := Go.Op.move (Go.Operand.tmp 43), type := 4, pos := "laws.go:908", after := #[{ on := 18, ground := Go.Ground.data }, { on := 11, ground := Go.Ground.chain }], guard := none }) (v := ?_) rfl (by kernel_rfl) (by kernel_rfl) (by kernel_rfl) (fun _ _ _ h => h) (Or.inl ⟨by rfl, ?_⟩) (by assumption) ?_
    rotate_left 1
    · (intro wS hSw; (try dsimp only at hSw); go_simp; (all_goals with_reducible rfl))
    simp only [Act.put, List.setIfInBounds_toArray, List.set_cons_zero, List.set_cons_succ]
    refine wpAnyH_take (i := 20) (oi := { dst := some 45, op := Go.Op.move (Go.Operand.tmp 5), type := 40, pos := "laws.go:908", after := #[{ on := 19, ground := Go.Ground.guard }], guard := some (19, true) }) (v := ?_) rfl (by kernel_rfl) (by kernel_rfl) (by kernel_rfl) (fun _ _ _ h => h) (Or.inl ⟨by rfl, ?_⟩) (by assumption) ?_
    rotate_left 1
    · (intro wS hSw; (try dsimp only at hSw); go_simp; (all_goals with_reducible rfl))
    simp only [Act.put, List.setIfInBounds_toArray, List.set_cons_zero, List.set_cons_succ]
    refine wpAnyH_take (i := 22) (oi := { dst := some 47, op := Go.Op.move (Go.Operand.tmp 5), type := 40, pos := "laws.go:908", after := #[{ on := 19, ground := Go.Ground.guard }], guard := some (19, true) }) (v := ?_) rfl (by kernel_rfl) (by kernel_rfl) (by kernel_rfl) (fun _ _ _ h => h) (Or.inl ⟨by rfl, ?_⟩) (by assumption) ?_
    rotate_left 1
    · (intro wS hSw; (try dsimp only at hSw); go_simp; (all_goals with_reducible rfl))
    simp only [Act.put, List.setIfInBounds_toArray, List.set_cons_zero, List.set_cons_succ]
    refine wpAnyH_ready (rs := [21]) (by kernel_rfl) (by simp) ?_
    refine AllReadyH.cons (o := { dst := some 46, op := Go.Op.call { callee := Go.Callee.value (Go.Operand.func 27), args := #[Go.Operand.tmp 45, Go.Operand.const (Go.Value.string { data := #[60] })], argTypes := #[40, 9] }, type := 3, pos := "laws.go:908", after := #[{ on := 20, ground := Go.Ground.data }, { on := 19, ground := Go.Ground.chain }, { on := 19, ground := Go.Ground.guard }], guard := some (19, true) }) rfl (fun K hK => ?_) AllReadyH.nil
    go_simp
    (first | (go_at_call 25; go_must (refine (sameCellsS_same _ _ rows _ ((p1.below Bw).rd lenInt (by decide)) ((o4.below Bw).rd lenInt (by decide)) Hrows).mono ?_; rintro e wX ⟨rfl, hbX⟩; obtain ⟨hcX, hfX, hzX⟩ := bkn hbX W4.heap.size hz; have hz := hzX; have Bw := Bw.tr hbX); (try go_wp2_with fail)) | (go_at_call 26; go_must (refine (sameDomQ_same _ _ out _ ((o5.below Bw).rd lenDom (by decide)) ((p2.below Bw).rd lenDom (by decide))).mono ?_; rintro e wX ⟨rfl, hbX⟩; obtain ⟨hcX, hfX, hzX⟩ := bkn hbX W4.heap.size hz; have hz := hzX; have Bw := Bw.tr hbX); (try go_wp2_with fail)) | (go_at_call 27; go_must (refine (countN _ L _ _ _ ((o3.below Bw).rd lenStr (by decide)) HLs.out (by first | exact N60.out | exact N62.out | exact N94.out | exact N118.out | exact N63.out)).mono ?_; rintro e wX ⟨rfl, hbX⟩; obtain ⟨hcX, hfX, hzX⟩ := bkn hbX W4.heap.size hz; have hz := hzX; have Bw := Bw.tr hbX); (try go_wp2_with fail)) | (go_at_call 28; go_must (refine (uncovS_any _ _ rows out _ ((p1.below Bw).rd lenInt (by decide)) ((p2.below Bw).rd lenDom (by decide))).mono ?_; rintro e wX ⟨A7, c7, rfl, o7, hbX⟩; obtain ⟨hcX, hfX, hzX⟩ := bkn hbX W4.heap.size hz; have hz := hzX; have Bw := Bw.tr hbX); (try go_wp2_with fail)) | (go_at_call 23; go_must (refine (floorLinesQ _ _ rows out L _ ((o4.below Bw).rd lenInt (by decide)) ((o5.below Bw).rd lenDom (by decide)) HL.out).mono ?_; rintro e wX ⟨A8, c8, rfl, o8, hbX⟩; obtain ⟨hcX, hfX, hzX⟩ := bkn hbX W4.heap.size hz; have hz := hzX; have Bw := Bw.tr hbX); (try go_wp2_with fail)) | (go_at_call 29; go_must (refine (sameFloorQ _ _ L _ ((o3.below Bw).rd lenStr (by decide)) (o8.rd lenStr (by decide))).mono ?_; rintro e wX ⟨rfl, hbX⟩; obtain ⟨hcX, hfX, hzX⟩ := bkn hbX W4.heap.size hz; have hz := hzX; have Bw := Bw.tr hbX); (try go_wp2_with fail)))
    refine hK.out _ _ ?_ (fun hHeld => ?_)
    · (try dsimp only); (try go_keep)
    clear hK K
    (try simp only [Act.put, List.setIfInBounds_toArray, List.set_cons_zero, List.set_cons_succ])
    refine wpAnyH_ready (rs := [23]) (by kernel_rfl) (by simp) ?_
    refine AllReadyH.cons (o := { dst := some 48, op := Go.Op.call { callee := Go.Callee.value (Go.Operand.func 27), args := #[Go.Operand.tmp 47, Go.Operand.const (Go.Value.string { data := #[62] })], argTypes := #[40, 9] }, type := 3, pos := "laws.go:908", after := #[{ on := 22, ground := Go.Ground.data }, { on := 21, ground := Go.Ground.chain }, { on := 19, ground := Go.Ground.guard }], guard := some (19, true) }) rfl (fun K hK => ?_) AllReadyH.nil
    go_simp
    (first | (go_at_call 25; go_must (refine (sameCellsS_same _ _ rows _ ((p1.below Bw).rd lenInt (by decide)) ((o4.below Bw).rd lenInt (by decide)) Hrows).mono ?_; rintro e wX ⟨rfl, hbX⟩; obtain ⟨hcX, hfX, hzX⟩ := bkn hbX W4.heap.size hz; have hz := hzX; have Bw := Bw.tr hbX); (try go_wp2_with fail)) | (go_at_call 26; go_must (refine (sameDomQ_same _ _ out _ ((o5.below Bw).rd lenDom (by decide)) ((p2.below Bw).rd lenDom (by decide))).mono ?_; rintro e wX ⟨rfl, hbX⟩; obtain ⟨hcX, hfX, hzX⟩ := bkn hbX W4.heap.size hz; have hz := hzX; have Bw := Bw.tr hbX); (try go_wp2_with fail)) | (go_at_call 27; go_must (refine (countN _ L _ _ _ ((o3.below Bw).rd lenStr (by decide)) HLs.out (by first | exact N60.out | exact N62.out | exact N94.out | exact N118.out | exact N63.out)).mono ?_; rintro e wX ⟨rfl, hbX⟩; obtain ⟨hcX, hfX, hzX⟩ := bkn hbX W4.heap.size hz; have hz := hzX; have Bw := Bw.tr hbX); (try go_wp2_with fail)) | (go_at_call 28; go_must (refine (uncovS_any _ _ rows out _ ((p1.below Bw).rd lenInt (by decide)) ((p2.below Bw).rd lenDom (by decide))).mono ?_; rintro e wX ⟨A7, c7, rfl, o7, hbX⟩; obtain ⟨hcX, hfX, hzX⟩ := bkn hbX W4.heap.size hz; have hz := hzX; have Bw := Bw.tr hbX); (try go_wp2_with fail)) | (go_at_call 23; go_must (refine (floorLinesQ _ _ rows out L _ ((o4.below Bw).rd lenInt (by decide)) ((o5.below Bw).rd lenDom (by decide)) HL.out).mono ?_; rintro e wX ⟨A8, c8, rfl, o8, hbX⟩; obtain ⟨hcX, hfX, hzX⟩ := bkn hbX W4.heap.size hz; have hz := hzX; have Bw := Bw.tr hbX); (try go_wp2_with fail)) | (go_at_call 29; go_must (refine (sameFloorQ _ _ L _ ((o3.below Bw).rd lenStr (by decide)) (o8.rd lenStr (by decide))).mono ?_; rintro e wX ⟨rfl, hbX⟩; obtain ⟨hcX, hfX, hzX⟩ := bkn hbX W4.heap.size hz; have hz := hzX; have Bw := Bw.tr hbX); (try go_wp2_with fail)))
    refine hK.out _ _ ?_ (fun hHeld => ?_)
    · (try dsimp only); (try go_keep)
    clear hK K
    (try simp only [Act.put, List.setIfInBounds_toArray, List.set_cons_zero, List.set_cons_succ])
    refine wpAnyH_take (i := 24) (oi := { dst := some 49, op := Go.Op.binOp Go.BinOp.eql 3 (Go.Operand.tmp 46) (Go.Operand.tmp 48) 3, type := 4, pos := "laws.go:908", after := #[{ on := 21, ground := Go.Ground.data }, { on := 23, ground := Go.Ground.data }, { on := 19, ground := Go.Ground.guard }], guard := some (19, true) }) (v := ?_) rfl (by kernel_rfl) (by kernel_rfl) (by kernel_rfl) (fun _ _ _ h => h) (Or.inl ⟨by rfl, ?_⟩) (by assumption) ?_
    rotate_left 1
    · (intro wS hSw; (try dsimp only at hSw); go_simp; (all_goals with_reducible rfl))
    simp only [Act.put, List.setIfInBounds_toArray, List.set_cons_zero, List.set_cons_succ]
    refine wpAnyH_take (i := 25) (oi := { dst := some 50, op := Go.Op.pick (Go.Operand.tmp 44) (Go.Operand.tmp 49) (Go.Operand.const (Go.Value.bool false)), type := 4, pos := "laws.go:908", after := #[{ on := 19, ground := Go.Ground.data }, { on := 24, ground := Go.Ground.data }], guard := none }) (v := ?_) rfl (by kernel_rfl) (by kernel_rfl) (by kernel_rfl) (fun _ _ _ h => h) (Or.inl ⟨by rfl, ?_⟩) (by assumption) ?_
    rotate_left 1
    · (intro wS hSw; (try dsimp only at hSw); go_simp; (all_goals with_reducible rfl))
    simp only [Act.put, List.setIfInBounds_toArray, List.set_cons_zero, List.set_cons_succ]
    refine wpAnyH_take (i := 26) (oi := { dst := some 51, op := Go.Op.move (Go.Operand.tmp 50), type := 4, pos := "laws.go:908", after := #[{ on := 25, ground := Go.Ground.data }, { on := 23, ground := Go.Ground.chain }], guard := none }) (v := ?_) rfl (by kernel_rfl) (by kernel_rfl) (by kernel_rfl) (fun _ _ _ h => h) (Or.inl ⟨by rfl, ?_⟩) (by assumption) ?_
    rotate_left 1
    · (intro wS hSw; (try dsimp only at hSw); go_simp; (all_goals with_reducible rfl))
    simp only [Act.put, List.setIfInBounds_toArray, List.set_cons_zero, List.set_cons_succ]
    refine wpAnyH_take (i := 27) (oi := { dst := some 52, op := Go.Op.move (Go.Operand.tmp 5), type := 40, pos := "laws.go:908", after := #[{ on := 26, ground := Go.Ground.guard }], guard := some (26, true) }) (v := ?_) rfl (by kernel_rfl) (by kernel_rfl) (by kernel_rfl) (fun _ _ _ h => h) (Or.inl ⟨by rfl, ?_⟩) (by assumption) ?_
    rotate_left 1
    · (intro wS hSw; (try dsimp only at hSw); go_simp; (all_goals with_reducible rfl))
    simp only [Act.put, List.setIfInBounds_toArray, List.set_cons_zero, List.set_cons_succ]
    refine wpAnyH_take (i := 29) (oi := { dst := some 54, op := Go.Op.move (Go.Operand.tmp 5), type := 40, pos := "laws.go:908", after := #[{ on := 26, ground := Go.Ground.guard }], guard := some (26, true) }) (v := ?_) rfl (by kernel_rfl) (by kernel_rfl) (by kernel_rfl) (fun _ _ _ h => h) (Or.inl ⟨by rfl, ?_⟩) (by assumption) ?_
    rotate_left 1
    · (intro wS hSw; (try dsimp only at hSw); go_simp; (all_goals with_reducible rfl))
    simp only [Act.put, List.setIfInBounds_toArray, List.set_cons_zero, List.set_cons_succ]
    refine wpAnyH_ready (rs := [28]) (by kernel_rfl) (by simp) ?_
    refine AllReadyH.cons (o := { dst := some 53, op := Go.Op.call { callee := Go.Callee.value (Go.Operand.func 27), args := #[Go.Operand.tmp 52, Go.Operand.const (Go.Value.string { data := #[94] })], argTypes := #[40, 9] }, type := 3, pos := "laws.go:908", after := #[{ on := 27, ground := Go.Ground.data }, { on := 26, ground := Go.Ground.chain }, { on := 26, ground := Go.Ground.guard }], guard := some (26, true) }) rfl (fun K hK => ?_) AllReadyH.nil
    go_simp
    (first | (go_at_call 25; go_must (refine (sameCellsS_same _ _ rows _ ((p1.below Bw).rd lenInt (by decide)) ((o4.below Bw).rd lenInt (by decide)) Hrows).mono ?_; rintro e wX ⟨rfl, hbX⟩; obtain ⟨hcX, hfX, hzX⟩ := bkn hbX W4.heap.size hz; have hz := hzX; have Bw := Bw.tr hbX); (try go_wp2_with fail)) | (go_at_call 26; go_must (refine (sameDomQ_same _ _ out _ ((o5.below Bw).rd lenDom (by decide)) ((p2.below Bw).rd lenDom (by decide))).mono ?_; rintro e wX ⟨rfl, hbX⟩; obtain ⟨hcX, hfX, hzX⟩ := bkn hbX W4.heap.size hz; have hz := hzX; have Bw := Bw.tr hbX); (try go_wp2_with fail)) | (go_at_call 27; go_must (refine (countN _ L _ _ _ ((o3.below Bw).rd lenStr (by decide)) HLs.out (by first | exact N60.out | exact N62.out | exact N94.out | exact N118.out | exact N63.out)).mono ?_; rintro e wX ⟨rfl, hbX⟩; obtain ⟨hcX, hfX, hzX⟩ := bkn hbX W4.heap.size hz; have hz := hzX; have Bw := Bw.tr hbX); (try go_wp2_with fail)) | (go_at_call 28; go_must (refine (uncovS_any _ _ rows out _ ((p1.below Bw).rd lenInt (by decide)) ((p2.below Bw).rd lenDom (by decide))).mono ?_; rintro e wX ⟨A7, c7, rfl, o7, hbX⟩; obtain ⟨hcX, hfX, hzX⟩ := bkn hbX W4.heap.size hz; have hz := hzX; have Bw := Bw.tr hbX); (try go_wp2_with fail)) | (go_at_call 23; go_must (refine (floorLinesQ _ _ rows out L _ ((o4.below Bw).rd lenInt (by decide)) ((o5.below Bw).rd lenDom (by decide)) HL.out).mono ?_; rintro e wX ⟨A8, c8, rfl, o8, hbX⟩; obtain ⟨hcX, hfX, hzX⟩ := bkn hbX W4.heap.size hz; have hz := hzX; have Bw := Bw.tr hbX); (try go_wp2_with fail)) | (go_at_call 29; go_must (refine (sameFloorQ _ _ L _ ((o3.below Bw).rd lenStr (by decide)) (o8.rd lenStr (by decide))).mono ?_; rintro e wX ⟨rfl, hbX⟩; obtain ⟨hcX, hfX, hzX⟩ := bkn hbX W4.heap.size hz; have hz := hzX; have Bw := Bw.tr hbX); (try go_wp2_with fail)))
    refine hK.out _ _ ?_ (fun hHeld => ?_)
    · (try dsimp only); (try go_keep)
    clear hK K
    (try simp only [Act.put, List.setIfInBounds_toArray, List.set_cons_zero, List.set_cons_succ])
    refine wpAnyH_ready (rs := [30]) (by kernel_rfl) (by simp) ?_
    refine AllReadyH.cons (o := { dst := some 55, op := Go.Op.call { callee := Go.Callee.value (Go.Operand.func 27), args := #[Go.Operand.tmp 54, Go.Operand.const (Go.Value.string { data := #[118] })], argTypes := #[40, 9] }, type := 3, pos := "laws.go:908", after := #[{ on := 29, ground := Go.Ground.data }, { on := 28, ground := Go.Ground.chain }, { on := 26, ground := Go.Ground.guard }], guard := some (26, true) }) rfl (fun K hK => ?_) AllReadyH.nil
    go_simp
    (first | (go_at_call 25; go_must (refine (sameCellsS_same _ _ rows _ ((p1.below Bw).rd lenInt (by decide)) ((o4.below Bw).rd lenInt (by decide)) Hrows).mono ?_; rintro e wX ⟨rfl, hbX⟩; obtain ⟨hcX, hfX, hzX⟩ := bkn hbX W4.heap.size hz; have hz := hzX; have Bw := Bw.tr hbX); (try go_wp2_with fail)) | (go_at_call 26; go_must (refine (sameDomQ_same _ _ out _ ((o5.below Bw).rd lenDom (by decide)) ((p2.below Bw).rd lenDom (by decide))).mono ?_; rintro e wX ⟨rfl, hbX⟩; obtain ⟨hcX, hfX, hzX⟩ := bkn hbX W4.heap.size hz; have hz := hzX; have Bw := Bw.tr hbX); (try go_wp2_with fail)) | (go_at_call 27; go_must (refine (countN _ L _ _ _ ((o3.below Bw).rd lenStr (by decide)) HLs.out (by first | exact N60.out | exact N62.out | exact N94.out | exact N118.out | exact N63.out)).mono ?_; rintro e wX ⟨rfl, hbX⟩; obtain ⟨hcX, hfX, hzX⟩ := bkn hbX W4.heap.size hz; have hz := hzX; have Bw := Bw.tr hbX); (try go_wp2_with fail)) | (go_at_call 28; go_must (refine (uncovS_any _ _ rows out _ ((p1.below Bw).rd lenInt (by decide)) ((p2.below Bw).rd lenDom (by decide))).mono ?_; rintro e wX ⟨A7, c7, rfl, o7, hbX⟩; obtain ⟨hcX, hfX, hzX⟩ := bkn hbX W4.heap.size hz; have hz := hzX; have Bw := Bw.tr hbX); (try go_wp2_with fail)) | (go_at_call 23; go_must (refine (floorLinesQ _ _ rows out L _ ((o4.below Bw).rd lenInt (by decide)) ((o5.below Bw).rd lenDom (by decide)) HL.out).mono ?_; rintro e wX ⟨A8, c8, rfl, o8, hbX⟩; obtain ⟨hcX, hfX, hzX⟩ := bkn hbX W4.heap.size hz; have hz := hzX; have Bw := Bw.tr hbX); (try go_wp2_with fail)) | (go_at_call 29; go_must (refine (sameFloorQ _ _ L _ ((o3.below Bw).rd lenStr (by decide)) (o8.rd lenStr (by decide))).mono ?_; rintro e wX ⟨rfl, hbX⟩; obtain ⟨hcX, hfX, hzX⟩ := bkn hbX W4.heap.size hz; have hz := hzX; have Bw := Bw.tr hbX); (try go_wp2_with fail)))
    refine hK.out _ _ ?_ (fun hHeld => ?_)
    · (try dsimp only); (try go_keep)
    clear hK K
    (try simp only [Act.put, List.setIfInBounds_toArray, List.set_cons_zero, List.set_cons_succ])
    refine wpAnyH_take (i := 31) (oi := { dst := some 56, op := Go.Op.binOp Go.BinOp.eql 3 (Go.Operand.tmp 53) (Go.Operand.tmp 55) 3, type := 4, pos := "laws.go:908", after := #[{ on := 28, ground := Go.Ground.data }, { on := 30, ground := Go.Ground.data }, { on := 26, ground := Go.Ground.guard }], guard := some (26, true) }) (v := ?_) rfl (by kernel_rfl) (by kernel_rfl) (by kernel_rfl) (fun _ _ _ h => h) (Or.inl ⟨by rfl, ?_⟩) (by assumption) ?_
    rotate_left 1
    · (intro wS hSw; (try dsimp only at hSw); go_simp; (all_goals with_reducible rfl))
    simp only [Act.put, List.setIfInBounds_toArray, List.set_cons_zero, List.set_cons_succ]
    refine wpAnyH_take (i := 32) (oi := { dst := some 57, op := Go.Op.pick (Go.Operand.tmp 51) (Go.Operand.tmp 56) (Go.Operand.const (Go.Value.bool false)), type := 4, pos := "laws.go:908", after := #[{ on := 26, ground := Go.Ground.data }, { on := 31, ground := Go.Ground.data }], guard := none }) (v := ?_) rfl (by kernel_rfl) (by kernel_rfl) (by kernel_rfl) (fun _ _ _ h => h) (Or.inl ⟨by rfl, ?_⟩) (by assumption) ?_
    rotate_left 1
    · (intro wS hSw; (try dsimp only at hSw); go_simp; (all_goals with_reducible rfl))
    simp only [Act.put, List.setIfInBounds_toArray, List.set_cons_zero, List.set_cons_succ]
    refine wpAnyH_take (i := 33) (oi := { dst := some 58, op := Go.Op.move (Go.Operand.tmp 57), type := 4, pos := "laws.go:908", after := #[{ on := 32, ground := Go.Ground.data }, { on := 30, ground := Go.Ground.chain }], guard := none }) (v := ?_) rfl (by kernel_rfl) (by kernel_rfl) (by kernel_rfl) (fun _ _ _ h => h) (Or.inl ⟨by rfl, ?_⟩) (by assumption) ?_
    rotate_left 1
    · (intro wS hSw; (try dsimp only at hSw); go_simp; (all_goals with_reducible rfl))
    simp only [Act.put, List.setIfInBounds_toArray, List.set_cons_zero, List.set_cons_succ]
    refine wpAnyH_take (i := 34) (oi := { dst := some 59, op := Go.Op.move (Go.Operand.tmp 5), type := 40, pos := "laws.go:908", after := #[{ on := 33, ground := Go.Ground.guard }], guard := some (33, true) }) (v := ?_) rfl (by kernel_rfl) (by kernel_rfl) (by kernel_rfl) (fun _ _ _ h => h) (Or.inl ⟨by rfl, ?_⟩) (by assumption) ?_
    rotate_left 1
    · (intro wS hSw; (try dsimp only at hSw); go_simp; (all_goals with_reducible rfl))
    simp only [Act.put, List.setIfInBounds_toArray, List.set_cons_zero, List.set_cons_succ]
    refine wpAnyH_take (i := 36) (oi := { dst := some 61, op := Go.Op.move (Go.Operand.tmp 5), type := 40, pos := "laws.go:908", after := #[{ on := 33, ground := Go.Ground.guard }], guard := some (33, true) }) (v := ?_) rfl (by kernel_rfl) (by kernel_rfl) (by kernel_rfl) (fun _ _ _ h => h) (Or.inl ⟨by rfl, ?_⟩) (by assumption) ?_
    rotate_left 1
    · (intro wS hSw; (try dsimp only at hSw); go_simp; (all_goals with_reducible rfl))
    simp only [Act.put, List.setIfInBounds_toArray, List.set_cons_zero, List.set_cons_succ]
    refine wpAnyH_take (i := 39) (oi := { dst := some 64, op := Go.Op.move (Go.Operand.tmp 4), type := 37, pos := "laws.go:908", after := #[{ on := 33, ground := Go.Ground.guard }], guard := some (33, true) }) (v := ?_) rfl (by kernel_rfl) (by kernel_rfl) (by kernel_rfl) (fun _ _ _ h => h) (Or.inl ⟨by rfl, ?_⟩) (by assumption) ?_
    rotate_left 1
    · (intro wS hSw; (try dsimp only at hSw); go_simp; (all_goals with_reducible rfl))
    simp only [Act.put, List.setIfInBounds_toArray, List.set_cons_zero, List.set_cons_succ]
    refine wpAnyH_take (i := 40) (oi := { dst := some 65, op := Go.Op.call { callee := Go.Callee.builtin Go.Builtin.len, args := #[Go.Operand.tmp 64], argTypes := #[37] }, type := 3, pos := "laws.go:908", after := #[{ on := 39, ground := Go.Ground.data }, { on := 33, ground := Go.Ground.guard }], guard := some (33, true) }) (v := ?_) rfl (by kernel_rfl) (by kernel_rfl) (by kernel_rfl) (fun _ _ _ h => h) (Or.inl ⟨by rfl, ?_⟩) (by assumption) ?_
    rotate_left 1
    · (intro wS hSw; (try dsimp only at hSw); go_simp; (all_goals with_reducible rfl))
    simp only [Act.put, List.setIfInBounds_toArray, List.set_cons_zero, List.set_cons_succ]
    refine wpAnyH_ready (rs := [35]) (by kernel_rfl) (by simp) ?_
    refine AllReadyH.cons (o := { dst := some 60, op := Go.Op.call { callee := Go.Callee.value (Go.Operand.func 27), args := #[Go.Operand.tmp 59, Go.Operand.const (Go.Value.string { data := #[60] })], argTypes := #[40, 9] }, type := 3, pos := "laws.go:908", after := #[{ on := 34, ground := Go.Ground.data }, { on := 33, ground := Go.Ground.chain }, { on := 33, ground := Go.Ground.guard }], guard := some (33, true) }) rfl (fun K hK => ?_) AllReadyH.nil
    go_simp
    (first | (go_at_call 25; go_must (refine (sameCellsS_same _ _ rows _ ((p1.below Bw).rd lenInt (by decide)) ((o4.below Bw).rd lenInt (by decide)) Hrows).mono ?_; rintro e wX ⟨rfl, hbX⟩; obtain ⟨hcX, hfX, hzX⟩ := bkn hbX W4.heap.size hz; have hz := hzX; have Bw := Bw.tr hbX); (try go_wp2_with fail)) | (go_at_call 26; go_must (refine (sameDomQ_same _ _ out _ ((o5.below Bw).rd lenDom (by decide)) ((p2.below Bw).rd lenDom (by decide))).mono ?_; rintro e wX ⟨rfl, hbX⟩; obtain ⟨hcX, hfX, hzX⟩ := bkn hbX W4.heap.size hz; have hz := hzX; have Bw := Bw.tr hbX); (try go_wp2_with fail)) | (go_at_call 27; go_must (refine (countN _ L _ _ _ ((o3.below Bw).rd lenStr (by decide)) HLs.out (by first | exact N60.out | exact N62.out | exact N94.out | exact N118.out | exact N63.out)).mono ?_; rintro e wX ⟨rfl, hbX⟩; obtain ⟨hcX, hfX, hzX⟩ := bkn hbX W4.heap.size hz; have hz := hzX; have Bw := Bw.tr hbX); (try go_wp2_with fail)) | (go_at_call 28; go_must (refine (uncovS_any _ _ rows out _ ((p1.below Bw).rd lenInt (by decide)) ((p2.below Bw).rd lenDom (by decide))).mono ?_; rintro e wX ⟨A7, c7, rfl, o7, hbX⟩; obtain ⟨hcX, hfX, hzX⟩ := bkn hbX W4.heap.size hz; have hz := hzX; have Bw := Bw.tr hbX); (try go_wp2_with fail)) | (go_at_call 23; go_must (refine (floorLinesQ _ _ rows out L _ ((o4.below Bw).rd lenInt (by decide)) ((o5.below Bw).rd lenDom (by decide)) HL.out).mono ?_; rintro e wX ⟨A8, c8, rfl, o8, hbX⟩; obtain ⟨hcX, hfX, hzX⟩ := bkn hbX W4.heap.size hz; have hz := hzX; have Bw := Bw.tr hbX); (try go_wp2_with fail)) | (go_at_call 29; go_must (refine (sameFloorQ _ _ L _ ((o3.below Bw).rd lenStr (by decide)) (o8.rd lenStr (by decide))).mono ?_; rintro e wX ⟨rfl, hbX⟩; obtain ⟨hcX, hfX, hzX⟩ := bkn hbX W4.heap.size hz; have hz := hzX; have Bw := Bw.tr hbX); (try go_wp2_with fail)))
    refine hK.out _ _ ?_ (fun hHeld => ?_)
    · (try dsimp only); (try go_keep)
    clear hK K
    (try simp only [Act.put, List.setIfInBounds_toArray, List.set_cons_zero, List.set_cons_succ])
    refine wpAnyH_ready (rs := [37]) (by kernel_rfl) (by simp) ?_
    refine AllReadyH.cons (o := { dst := some 62, op := Go.Op.call { callee := Go.Callee.value (Go.Operand.func 27), args := #[Go.Operand.tmp 61, Go.Operand.const (Go.Value.string { data := #[94] })], argTypes := #[40, 9] }, type := 3, pos := "laws.go:908", after := #[{ on := 36, ground := Go.Ground.data }, { on := 35, ground := Go.Ground.chain }, { on := 33, ground := Go.Ground.guard }], guard := some (33, true) }) rfl (fun K hK => ?_) AllReadyH.nil
    go_simp
    (first | (go_at_call 25; go_must (refine (sameCellsS_same _ _ rows _ ((p1.below Bw).rd lenInt (by decide)) ((o4.below Bw).rd lenInt (by decide)) Hrows).mono ?_; rintro e wX ⟨rfl, hbX⟩; obtain ⟨hcX, hfX, hzX⟩ := bkn hbX W4.heap.size hz; have hz := hzX; have Bw := Bw.tr hbX); (try go_wp2_with fail)) | (go_at_call 26; go_must (refine (sameDomQ_same _ _ out _ ((o5.below Bw).rd lenDom (by decide)) ((p2.below Bw).rd lenDom (by decide))).mono ?_; rintro e wX ⟨rfl, hbX⟩; obtain ⟨hcX, hfX, hzX⟩ := bkn hbX W4.heap.size hz; have hz := hzX; have Bw := Bw.tr hbX); (try go_wp2_with fail)) | (go_at_call 27; go_must (refine (countN _ L _ _ _ ((o3.below Bw).rd lenStr (by decide)) HLs.out (by first | exact N60.out | exact N62.out | exact N94.out | exact N118.out | exact N63.out)).mono ?_; rintro e wX ⟨rfl, hbX⟩; obtain ⟨hcX, hfX, hzX⟩ := bkn hbX W4.heap.size hz; have hz := hzX; have Bw := Bw.tr hbX); (try go_wp2_with fail)) | (go_at_call 28; go_must (refine (uncovS_any _ _ rows out _ ((p1.below Bw).rd lenInt (by decide)) ((p2.below Bw).rd lenDom (by decide))).mono ?_; rintro e wX ⟨A7, c7, rfl, o7, hbX⟩; obtain ⟨hcX, hfX, hzX⟩ := bkn hbX W4.heap.size hz; have hz := hzX; have Bw := Bw.tr hbX); (try go_wp2_with fail)) | (go_at_call 23; go_must (refine (floorLinesQ _ _ rows out L _ ((o4.below Bw).rd lenInt (by decide)) ((o5.below Bw).rd lenDom (by decide)) HL.out).mono ?_; rintro e wX ⟨A8, c8, rfl, o8, hbX⟩; obtain ⟨hcX, hfX, hzX⟩ := bkn hbX W4.heap.size hz; have hz := hzX; have Bw := Bw.tr hbX); (try go_wp2_with fail)) | (go_at_call 29; go_must (refine (sameFloorQ _ _ L _ ((o3.below Bw).rd lenStr (by decide)) (o8.rd lenStr (by decide))).mono ?_; rintro e wX ⟨rfl, hbX⟩; obtain ⟨hcX, hfX, hzX⟩ := bkn hbX W4.heap.size hz; have hz := hzX; have Bw := Bw.tr hbX); (try go_wp2_with fail)))
    refine hK.out _ _ ?_ (fun hHeld => ?_)
    · (try dsimp only); (try go_keep)
    clear hK K
    (try simp only [Act.put, List.setIfInBounds_toArray, List.set_cons_zero, List.set_cons_succ])
    refine wpAnyH_take (i := 38) (oi := { dst := some 63, op := Go.Op.binOp Go.BinOp.add 3 (Go.Operand.tmp 60) (Go.Operand.tmp 62) 3, type := 3, pos := "laws.go:908", after := #[{ on := 35, ground := Go.Ground.data }, { on := 37, ground := Go.Ground.data }, { on := 33, ground := Go.Ground.guard }], guard := some (33, true) }) (v := ?_) rfl (by kernel_rfl) (by kernel_rfl) (by kernel_rfl) (fun _ _ _ h => h) (Or.inl ⟨by rfl, ?_⟩) (by assumption) ?_
    rotate_left 1
    · (intro wS hSw; (try dsimp only at hSw); go_simp; (all_goals with_reducible rfl))
    simp only [Act.put, List.setIfInBounds_toArray, List.set_cons_zero, List.set_cons_succ]
    refine wpAnyH_take (i := 41) (oi := { dst := some 66, op := Go.Op.binOp Go.BinOp.eql 3 (Go.Operand.tmp 63) (Go.Operand.tmp 65) 3, type := 4, pos := "laws.go:908", after := #[{ on := 38, ground := Go.Ground.data }, { on := 40, ground := Go.Ground.data }, { on := 33, ground := Go.Ground.guard }], guard := some (33, true) }) (v := ?_) rfl (by kernel_rfl) (by kernel_rfl) (by kernel_rfl) (fun _ _ _ h => h) (Or.inl ⟨by rfl, ?_⟩) (by assumption) ?_
    rotate_left 1
    · (intro wS hSw; (try dsimp only at hSw); go_simp; (all_goals with_reducible rfl))
    simp only [Act.put, List.setIfInBounds_toArray, List.set_cons_zero, List.set_cons_succ]
    refine wpAnyH_take (i := 42) (oi := { dst := some 67, op := Go.Op.pick (Go.Operand.tmp 58) (Go.Operand.tmp 66) (Go.Operand.const (Go.Value.bool false)), type := 4, pos := "laws.go:908", after := #[{ on := 33, ground := Go.Ground.data }, { on := 41, ground := Go.Ground.data }], guard := none }) (v := ?_) rfl (by kernel_rfl) (by kernel_rfl) (by kernel_rfl) (fun _ _ _ h => h) (Or.inl ⟨by rfl, ?_⟩) (by assumption) ?_
    rotate_left 1
    · (intro wS hSw; (try dsimp only at hSw); go_simp; (all_goals with_reducible rfl))
    simp only [Act.put, List.setIfInBounds_toArray, List.set_cons_zero, List.set_cons_succ]
    refine wpAnyH_take (i := 43) (oi := { dst := some 68, op := Go.Op.move (Go.Operand.tmp 67), type := 4, pos := "laws.go:908", after := #[{ on := 42, ground := Go.Ground.data }, { on := 37, ground := Go.Ground.chain }], guard := none }) (v := ?_) rfl (by kernel_rfl) (by kernel_rfl) (by kernel_rfl) (fun _ _ _ h => h) (Or.inl ⟨by rfl, ?_⟩) (by assumption) ?_
    rotate_left 1
    · (intro wS hSw; (try dsimp only at hSw); go_simp; (all_goals with_reducible rfl))
    simp only [Act.put, List.setIfInBounds_toArray, List.set_cons_zero, List.set_cons_succ]
    refine wpAnyH_take (i := 44) (oi := { dst := some 69, op := Go.Op.move (Go.Operand.tmp 5), type := 40, pos := "laws.go:908", after := #[{ on := 43, ground := Go.Ground.guard }], guard := some (43, true) }) (v := ?_) rfl (by kernel_rfl) (by kernel_rfl) (by kernel_rfl) (fun _ _ _ h => h) (Or.inl ⟨by rfl, ?_⟩) (by assumption) ?_
    rotate_left 1
    · (intro wS hSw; (try dsimp only at hSw); go_simp; (all_goals with_reducible rfl))
    simp only [Act.put, List.setIfInBounds_toArray, List.set_cons_zero, List.set_cons_succ]
    refine wpAnyH_take (i := 46) (oi := { dst := some 71, op := Go.Op.load 31 (Go.Operand.tmp 3), type := 31, pos := "laws.go:908", after := #[{ on := 43, ground := Go.Ground.guard }], guard := some (43, true) }) (v := ?_) rfl (by kernel_rfl) (by kernel_rfl) (by kernel_rfl) (fun _ _ _ h => h) (Or.inl ⟨by rfl, ?_⟩) (by assumption) ?_
    rotate_left 1
    · (intro wS hSw; (try dsimp only at hSw); go_simp; (all_goals with_reducible rfl))
    simp only [Act.put, List.setIfInBounds_toArray, List.set_cons_zero, List.set_cons_succ]
    refine wpAnyH_take (i := 47) (oi := { dst := some 72, op := Go.Op.move (Go.Operand.tmp 4), type := 37, pos := "laws.go:908", after := #[{ on := 43, ground := Go.Ground.guard }], guard := some (43, true) }) (v := ?_) rfl (by kernel_rfl) (by kernel_rfl) (by kernel_rfl) (fun _ _ _ h => h) (Or.inl ⟨by rfl, ?_⟩) (by assumption) ?_
    rotate_left 1
    · (intro wS hSw; (try dsimp only at hSw); go_simp; (all_goals with_reducible rfl))
    simp only [Act.put, List.setIfInBounds_toArray, List.set_cons_zero, List.set_cons_succ]
    refine wpAnyH_ready (rs := [45]) (by kernel_rfl) (by simp) ?_
    refine AllReadyH.cons (o := { dst := some 70, op := Go.Op.call { callee := Go.Callee.value (Go.Operand.func 27), args := #[Go.Operand.tmp 69, Go.Operand.const (Go.Value.string { data := #[63] })], argTypes := #[40, 9] }, type := 3, pos := "laws.go:908", after := #[{ on := 44, ground := Go.Ground.data }, { on := 43, ground := Go.Ground.chain }, { on := 43, ground := Go.Ground.guard }], guard := some (43, true) }) rfl (fun K hK => ?_) AllReadyH.nil
    go_simp
    (first | (go_at_call 25; go_must (refine (sameCellsS_same _ _ rows _ ((p1.below Bw).rd lenInt (by decide)) ((o4.below Bw).rd lenInt (by decide)) Hrows).mono ?_; rintro e wX ⟨rfl, hbX⟩; obtain ⟨hcX, hfX, hzX⟩ := bkn hbX W4.heap.size hz; have hz := hzX; have Bw := Bw.tr hbX); (try go_wp2_with fail)) | (go_at_call 26; go_must (refine (sameDomQ_same _ _ out _ ((o5.below Bw).rd lenDom (by decide)) ((p2.below Bw).rd lenDom (by decide))).mono ?_; rintro e wX ⟨rfl, hbX⟩; obtain ⟨hcX, hfX, hzX⟩ := bkn hbX W4.heap.size hz; have hz := hzX; have Bw := Bw.tr hbX); (try go_wp2_with fail)) | (go_at_call 27; go_must (refine (countN _ L _ _ _ ((o3.below Bw).rd lenStr (by decide)) HLs.out (by first | exact N60.out | exact N62.out | exact N94.out | exact N118.out | exact N63.out)).mono ?_; rintro e wX ⟨rfl, hbX⟩; obtain ⟨hcX, hfX, hzX⟩ := bkn hbX W4.heap.size hz; have hz := hzX; have Bw := Bw.tr hbX); (try go_wp2_with fail)) | (go_at_call 28; go_must (refine (uncovS_any _ _ rows out _ ((p1.below Bw).rd lenInt (by decide)) ((p2.below Bw).rd lenDom (by decide))).mono ?_; rintro e wX ⟨A7, c7, rfl, o7, hbX⟩; obtain ⟨hcX, hfX, hzX⟩ := bkn hbX W4.heap.size hz; have hz := hzX; have Bw := Bw.tr hbX); (try go_wp2_with fail)) | (go_at_call 23; go_must (refine (floorLinesQ _ _ rows out L _ ((o4.below Bw).rd lenInt (by decide)) ((o5.below Bw).rd lenDom (by decide)) HL.out).mono ?_; rintro e wX ⟨A8, c8, rfl, o8, hbX⟩; obtain ⟨hcX, hfX, hzX⟩ := bkn hbX W4.heap.size hz; have hz := hzX; have Bw := Bw.tr hbX); (try go_wp2_with fail)) | (go_at_call 29; go_must (refine (sameFloorQ _ _ L _ ((o3.below Bw).rd lenStr (by decide)) (o8.rd lenStr (by decide))).mono ?_; rintro e wX ⟨rfl, hbX⟩; obtain ⟨hcX, hfX, hzX⟩ := bkn hbX W4.heap.size hz; have hz := hzX; have Bw := Bw.tr hbX); (try go_wp2_with fail)))
    refine hK.out _ _ ?_ (fun hHeld => ?_)
    · (try dsimp only); (try go_keep)
    clear hK K
    (try simp only [Act.put, List.setIfInBounds_toArray, List.set_cons_zero, List.set_cons_succ])
    refine wpAnyH_ready (rs := [48]) (by kernel_rfl) (by simp) ?_
    refine AllReadyH.cons (o := { dst := some 73, op := Go.Op.call { callee := Go.Callee.value (Go.Operand.func 28), args := #[Go.Operand.tmp 71, Go.Operand.tmp 72], argTypes := #[31, 37] }, type := 46, pos := "laws.go:908", after := #[{ on := 46, ground := Go.Ground.data }, { on := 47, ground := Go.Ground.data }, { on := 45, ground := Go.Ground.chain }, { on := 43, ground := Go.Ground.guard }], guard := some (43, true) }) rfl (fun K hK => ?_) AllReadyH.nil
    go_simp
    (first | (go_at_call 25; go_must (refine (sameCellsS_same _ _ rows _ ((p1.below Bw).rd lenInt (by decide)) ((o4.below Bw).rd lenInt (by decide)) Hrows).mono ?_; rintro e wX ⟨rfl, hbX⟩; obtain ⟨hcX, hfX, hzX⟩ := bkn hbX W4.heap.size hz; have hz := hzX; have Bw := Bw.tr hbX); (try go_wp2_with fail)) | (go_at_call 26; go_must (refine (sameDomQ_same _ _ out _ ((o5.below Bw).rd lenDom (by decide)) ((p2.below Bw).rd lenDom (by decide))).mono ?_; rintro e wX ⟨rfl, hbX⟩; obtain ⟨hcX, hfX, hzX⟩ := bkn hbX W4.heap.size hz; have hz := hzX; have Bw := Bw.tr hbX); (try go_wp2_with fail)) | (go_at_call 27; go_must (refine (countN _ L _ _ _ ((o3.below Bw).rd lenStr (by decide)) HLs.out (by first | exact N60.out | exact N62.out | exact N94.out | exact N118.out | exact N63.out)).mono ?_; rintro e wX ⟨rfl, hbX⟩; obtain ⟨hcX, hfX, hzX⟩ := bkn hbX W4.heap.size hz; have hz := hzX; have Bw := Bw.tr hbX); (try go_wp2_with fail)) | (go_at_call 28; go_must (refine (uncovS_any _ _ rows out _ ((p1.below Bw).rd lenInt (by decide)) ((p2.below Bw).rd lenDom (by decide))).mono ?_; rintro e wX ⟨A7, c7, rfl, o7, hbX⟩; obtain ⟨hcX, hfX, hzX⟩ := bkn hbX W4.heap.size hz; have hz := hzX; have Bw := Bw.tr hbX); (try go_wp2_with fail)) | (go_at_call 23; go_must (refine (floorLinesQ _ _ rows out L _ ((o4.below Bw).rd lenInt (by decide)) ((o5.below Bw).rd lenDom (by decide)) HL.out).mono ?_; rintro e wX ⟨A8, c8, rfl, o8, hbX⟩; obtain ⟨hcX, hfX, hzX⟩ := bkn hbX W4.heap.size hz; have hz := hzX; have Bw := Bw.tr hbX); (try go_wp2_with fail)) | (go_at_call 29; go_must (refine (sameFloorQ _ _ L _ ((o3.below Bw).rd lenStr (by decide)) (o8.rd lenStr (by decide))).mono ?_; rintro e wX ⟨rfl, hbX⟩; obtain ⟨hcX, hfX, hzX⟩ := bkn hbX W4.heap.size hz; have hz := hzX; have Bw := Bw.tr hbX); (try go_wp2_with fail)))
    refine hK.out _ _ ?_ (fun hHeld => ?_)
    · (try dsimp only); (try go_keep)
    clear hK K
    (try simp only [Act.put, List.setIfInBounds_toArray, List.set_cons_zero, List.set_cons_succ])
    refine wpAnyH_take (i := 49) (oi := { dst := some 74, op := Go.Op.call { callee := Go.Callee.builtin Go.Builtin.len, args := #[Go.Operand.tmp 73], argTypes := #[46] }, type := 3, pos := "laws.go:908", after := #[{ on := 48, ground := Go.Ground.data }, { on := 43, ground := Go.Ground.guard }], guard := some (43, true) }) (v := ?_) rfl (by kernel_rfl) (by kernel_rfl) (by kernel_rfl) (fun _ _ _ h => h) (Or.inl ⟨by rfl, ?_⟩) (by assumption) ?_
    rotate_left 1
    · (intro wS hSw; (try dsimp only at hSw); go_simp; (all_goals with_reducible rfl))
    simp only [Act.put, List.setIfInBounds_toArray, List.set_cons_zero, List.set_cons_succ]
    refine wpAnyH_take (i := 50) (oi := { dst := some 75, op := Go.Op.binOp Go.BinOp.eql 3 (Go.Operand.tmp 70) (Go.Operand.tmp 74) 3, type := 4, pos := "laws.go:908", after := #[{ on := 45, ground := Go.Ground.data }, { on := 49, ground := Go.Ground.data }, { on := 43, ground := Go.Ground.guard }], guard := some (43, true) }) (v := ?_) rfl (by kernel_rfl) (by kernel_rfl) (by kernel_rfl) (fun _ _ _ h => h) (Or.inl ⟨by rfl, ?_⟩) (by assumption) ?_
    rotate_left 1
    · (intro wS hSw; (try dsimp only at hSw); go_simp; (all_goals with_reducible rfl))
    simp only [Act.put, List.setIfInBounds_toArray, List.set_cons_zero, List.set_cons_succ]
    refine wpAnyH_take (i := 51) (oi := { dst := some 76, op := Go.Op.pick (Go.Operand.tmp 68) (Go.Operand.tmp 75) (Go.Operand.const (Go.Value.bool false)), type := 4, pos := "laws.go:908", after := #[{ on := 43, ground := Go.Ground.data }, { on := 50, ground := Go.Ground.data }], guard := none }) (v := ?_) rfl (by kernel_rfl) (by kernel_rfl) (by kernel_rfl) (fun _ _ _ h => h) (Or.inl ⟨by rfl, ?_⟩) (by assumption) ?_
    rotate_left 1
    · (intro wS hSw; (try dsimp only at hSw); go_simp; (all_goals with_reducible rfl))
    simp only [Act.put, List.setIfInBounds_toArray, List.set_cons_zero, List.set_cons_succ]
    refine wpAnyH_take (i := 52) (oi := { dst := some 77, op := Go.Op.move (Go.Operand.tmp 76), type := 4, pos := "laws.go:908", after := #[{ on := 51, ground := Go.Ground.data }, { on := 48, ground := Go.Ground.chain }], guard := none }) (v := ?_) rfl (by kernel_rfl) (by kernel_rfl) (by kernel_rfl) (fun _ _ _ h => h) (Or.inl ⟨by rfl, ?_⟩) (by assumption) ?_
    rotate_left 1
    · (intro wS hSw; (try dsimp only at hSw); go_simp; (all_goals with_reducible rfl))
    simp only [Act.put, List.setIfInBounds_toArray, List.set_cons_zero, List.set_cons_succ]
    refine wpAnyH_take (i := 53) (oi := { dst := some 78, op := Go.Op.move (Go.Operand.tmp 5), type := 40, pos := "laws.go:908", after := #[{ on := 52, ground := Go.Ground.guard }], guard := some (52, true) }) (v := ?_) rfl (by kernel_rfl) (by kernel_rfl) (by kernel_rfl) (fun _ _ _ h => h) (Or.inl ⟨by rfl, ?_⟩) (by assumption) ?_
    rotate_left 1
    · (intro wS hSw; (try dsimp only at hSw); go_simp; (all_goals with_reducible rfl))
    simp only [Act.put, List.setIfInBounds_toArray, List.set_cons_zero, List.set_cons_succ]
    refine wpAnyH_take (i := 54) (oi := { dst := some 79, op := Go.Op.load 31 (Go.Operand.tmp 6), type := 31, pos := "laws.go:908", after := #[{ on := 52, ground := Go.Ground.guard }], guard := some (52, true) }) (v := ?_) rfl (by kernel_rfl) (by kernel_rfl) (by kernel_rfl) (fun _ _ _ h => h) (Or.inl ⟨by rfl, ?_⟩) (by assumption) ?_
    rotate_left 1
    · (intro wS hSw; (try dsimp only at hSw); go_simp; (all_goals with_reducible rfl))
    simp only [Act.put, List.setIfInBounds_toArray, List.set_cons_zero, List.set_cons_succ]
    refine wpAnyH_take (i := 55) (oi := { dst := some 80, op := Go.Op.move (Go.Operand.tmp 7), type := 37, pos := "laws.go:908", after := #[{ on := 52, ground := Go.Ground.guard }], guard := some (52, true) }) (v := ?_) rfl (by kernel_rfl) (by kernel_rfl) (by kernel_rfl) (fun _ _ _ h => h) (Or.inl ⟨by rfl, ?_⟩) (by assumption) ?_
    rotate_left 1
    · (intro wS hSw; (try dsimp only at hSw); go_simp; (all_goals with_reducible rfl))
    simp only [Act.put, List.setIfInBounds_toArray, List.set_cons_zero, List.set_cons_succ]
    refine wpAnyH_ready (rs := [56]) (by kernel_rfl) (by simp) ?_
    refine AllReadyH.cons (o := { dst := some 81, op := Go.Op.call { callee := Go.Callee.value (Go.Operand.func 23), args := #[Go.Operand.tmp 79, Go.Operand.tmp 80], argTypes := #[31, 37] }, type := 40, pos := "laws.go:908", after := #[{ on := 54, ground := Go.Ground.data }, { on := 55, ground := Go.Ground.data }, { on := 52, ground := Go.Ground.chain }, { on := 52, ground := Go.Ground.guard }], guard := some (52, true) }) rfl (fun K hK => ?_) AllReadyH.nil
    go_simp
    (first | (go_at_call 25; go_must (refine (sameCellsS_same _ _ rows _ ((p1.below Bw).rd lenInt (by decide)) ((o4.below Bw).rd lenInt (by decide)) Hrows).mono ?_; rintro e wX ⟨rfl, hbX⟩; obtain ⟨hcX, hfX, hzX⟩ := bkn hbX W4.heap.size hz; have hz := hzX; have Bw := Bw.tr hbX); (try go_wp2_with fail)) | (go_at_call 26; go_must (refine (sameDomQ_same _ _ out _ ((o5.below Bw).rd lenDom (by decide)) ((p2.below Bw).rd lenDom (by decide))).mono ?_; rintro e wX ⟨rfl, hbX⟩; obtain ⟨hcX, hfX, hzX⟩ := bkn hbX W4.heap.size hz; have hz := hzX; have Bw := Bw.tr hbX); (try go_wp2_with fail)) | (go_at_call 27; go_must (refine (countN _ L _ _ _ ((o3.below Bw).rd lenStr (by decide)) HLs.out (by first | exact N60.out | exact N62.out | exact N94.out | exact N118.out | exact N63.out)).mono ?_; rintro e wX ⟨rfl, hbX⟩; obtain ⟨hcX, hfX, hzX⟩ := bkn hbX W4.heap.size hz; have hz := hzX; have Bw := Bw.tr hbX); (try go_wp2_with fail)) | (go_at_call 28; go_must (refine (uncovS_any _ _ rows out _ ((p1.below Bw).rd lenInt (by decide)) ((p2.below Bw).rd lenDom (by decide))).mono ?_; rintro e wX ⟨A7, c7, rfl, o7, hbX⟩; obtain ⟨hcX, hfX, hzX⟩ := bkn hbX W4.heap.size hz; have hz := hzX; have Bw := Bw.tr hbX); (try go_wp2_with fail)) | (go_at_call 23; go_must (refine (floorLinesQ _ _ rows out L _ ((o4.below Bw).rd lenInt (by decide)) ((o5.below Bw).rd lenDom (by decide)) HL.out).mono ?_; rintro e wX ⟨A8, c8, rfl, o8, hbX⟩; obtain ⟨hcX, hfX, hzX⟩ := bkn hbX W4.heap.size hz; have hz := hzX; have Bw := Bw.tr hbX); (try go_wp2_with fail)) | (go_at_call 29; go_must (refine (sameFloorQ _ _ L _ ((o3.below Bw).rd lenStr (by decide)) (o8.rd lenStr (by decide))).mono ?_; rintro e wX ⟨rfl, hbX⟩; obtain ⟨hcX, hfX, hzX⟩ := bkn hbX W4.heap.size hz; have hz := hzX; have Bw := Bw.tr hbX); (try go_wp2_with fail)))
    refine hK.out _ _ ?_ (fun hHeld => ?_)
    · (try dsimp only); (try go_keep)
    clear hK K
    (try simp only [Act.put, List.setIfInBounds_toArray, List.set_cons_zero, List.set_cons_succ])
    refine wpAnyH_ready (rs := [57]) (by kernel_rfl) (by simp) ?_
    refine AllReadyH.cons (o := { dst := some 82, op := Go.Op.call { callee := Go.Callee.value (Go.Operand.func 29), args := #[Go.Operand.tmp 78, Go.Operand.tmp 81], argTypes := #[40, 40] }, type := 4, pos := "laws.go:908", after := #[{ on := 53, ground := Go.Ground.data }, { on := 56, ground := Go.Ground.data }, { on := 56, ground := Go.Ground.chain }, { on := 52, ground := Go.Ground.guard }], guard := some (52, true) }) rfl (fun K hK => ?_) AllReadyH.nil
    go_simp
    (first | (go_at_call 25; go_must (refine (sameCellsS_same _ _ rows _ ((p1.below Bw).rd lenInt (by decide)) ((o4.below Bw).rd lenInt (by decide)) Hrows).mono ?_; rintro e wX ⟨rfl, hbX⟩; obtain ⟨hcX, hfX, hzX⟩ := bkn hbX W4.heap.size hz; have hz := hzX; have Bw := Bw.tr hbX); (try go_wp2_with fail)) | (go_at_call 26; go_must (refine (sameDomQ_same _ _ out _ ((o5.below Bw).rd lenDom (by decide)) ((p2.below Bw).rd lenDom (by decide))).mono ?_; rintro e wX ⟨rfl, hbX⟩; obtain ⟨hcX, hfX, hzX⟩ := bkn hbX W4.heap.size hz; have hz := hzX; have Bw := Bw.tr hbX); (try go_wp2_with fail)) | (go_at_call 27; go_must (refine (countN _ L _ _ _ ((o3.below Bw).rd lenStr (by decide)) HLs.out (by first | exact N60.out | exact N62.out | exact N94.out | exact N118.out | exact N63.out)).mono ?_; rintro e wX ⟨rfl, hbX⟩; obtain ⟨hcX, hfX, hzX⟩ := bkn hbX W4.heap.size hz; have hz := hzX; have Bw := Bw.tr hbX); (try go_wp2_with fail)) | (go_at_call 28; go_must (refine (uncovS_any _ _ rows out _ ((p1.below Bw).rd lenInt (by decide)) ((p2.below Bw).rd lenDom (by decide))).mono ?_; rintro e wX ⟨A7, c7, rfl, o7, hbX⟩; obtain ⟨hcX, hfX, hzX⟩ := bkn hbX W4.heap.size hz; have hz := hzX; have Bw := Bw.tr hbX); (try go_wp2_with fail)) | (go_at_call 23; go_must (refine (floorLinesQ _ _ rows out L _ ((o4.below Bw).rd lenInt (by decide)) ((o5.below Bw).rd lenDom (by decide)) HL.out).mono ?_; rintro e wX ⟨A8, c8, rfl, o8, hbX⟩; obtain ⟨hcX, hfX, hzX⟩ := bkn hbX W4.heap.size hz; have hz := hzX; have Bw := Bw.tr hbX); (try go_wp2_with fail)) | (go_at_call 29; go_must (refine (sameFloorQ _ _ L _ ((o3.below Bw).rd lenStr (by decide)) (o8.rd lenStr (by decide))).mono ?_; rintro e wX ⟨rfl, hbX⟩; obtain ⟨hcX, hfX, hzX⟩ := bkn hbX W4.heap.size hz; have hz := hzX; have Bw := Bw.tr hbX); (try go_wp2_with fail)))
    refine hK.out _ _ ?_ (fun hHeld => ?_)
    · (try dsimp only); (try go_keep)
    clear hK K
    (try simp only [Act.put, List.setIfInBounds_toArray, List.set_cons_zero, List.set_cons_succ])
    refine wpAnyH_take (i := 58) (oi := { dst := some 83, op := Go.Op.pick (Go.Operand.tmp 77) (Go.Operand.tmp 82) (Go.Operand.const (Go.Value.bool false)), type := 4, pos := "laws.go:908", after := #[{ on := 52, ground := Go.Ground.data }, { on := 57, ground := Go.Ground.data }], guard := none }) (v := ?_) rfl (by kernel_rfl) (by kernel_rfl) (by kernel_rfl) (fun _ _ _ h => h) (Or.inl ⟨by rfl, ?_⟩) (by assumption) ?_
    rotate_left 1
    · (intro wS hSw; (try dsimp only at hSw); go_simp; (all_goals with_reducible rfl))
    simp only [Act.put, List.setIfInBounds_toArray, List.set_cons_zero, List.set_cons_succ]
    refine wpAnyH_take (i := 59) (oi := { dst := some 2, op := Go.Op.assign (Go.Operand.tmp 83), type := 4, pos := "laws.go:908", after := #[{ on := 58, ground := Go.Ground.data }, { on := 57, ground := Go.Ground.chain }, { on := 0, ground := Go.Ground.phase }, { on := 1, ground := Go.Ground.phase }, { on := 2, ground := Go.Ground.phase }, { on := 3, ground := Go.Ground.phase }, { on := 4, ground := Go.Ground.phase }, { on := 5, ground := Go.Ground.phase }, { on := 6, ground := Go.Ground.phase }, { on := 7, ground := Go.Ground.phase }, { on := 8, ground := Go.Ground.phase }, { on := 9, ground := Go.Ground.phase }, { on := 10, ground := Go.Ground.phase }, { on := 11, ground := Go.Ground.phase }, { on := 12, ground := Go.Ground.phase }, { on := 13, ground := Go.Ground.phase }, { on := 14, ground := Go.Ground.phase }, { on := 15, ground := Go.Ground.phase }, { on := 16, ground := Go.Ground.phase }, { on := 17, ground := Go.Ground.phase }, { on := 18, ground := Go.Ground.phase }, { on := 19, ground := Go.Ground.phase }, { on := 20, ground := Go.Ground.phase }, { on := 21, ground := Go.Ground.phase }, { on := 22, ground := Go.Ground.phase }, { on := 23, ground := Go.Ground.phase }, { on := 24, ground := Go.Ground.phase }, { on := 25, ground := Go.Ground.phase }, { on := 26, ground := Go.Ground.phase }, { on := 27, ground := Go.Ground.phase }, { on := 28, ground := Go.Ground.phase }, { on := 29, ground := Go.Ground.phase }, { on := 30, ground := Go.Ground.phase }, { on := 31, ground := Go.Ground.phase }, { on := 32, ground := Go.Ground.phase }, { on := 33, ground := Go.Ground.phase }, { on := 34, ground := Go.Ground.phase }, { on := 35, ground := Go.Ground.phase }, { on := 36, ground := Go.Ground.phase }, { on := 37, ground := Go.Ground.phase }, { on := 38, ground := Go.Ground.phase }, { on := 39, ground := Go.Ground.phase }, { on := 40, ground := Go.Ground.phase }, { on := 41, ground := Go.Ground.phase }, { on := 42, ground := Go.Ground.phase }, { on := 43, ground := Go.Ground.phase }, { on := 44, ground := Go.Ground.phase }, { on := 45, ground := Go.Ground.phase }, { on := 46, ground := Go.Ground.phase }, { on := 47, ground := Go.Ground.phase }, { on := 48, ground := Go.Ground.phase }, { on := 49, ground := Go.Ground.phase }, { on := 50, ground := Go.Ground.phase }, { on := 51, ground := Go.Ground.phase }, { on := 52, ground := Go.Ground.phase }, { on := 53, ground := Go.Ground.phase }, { on := 54, ground := Go.Ground.phase }, { on := 55, ground := Go.Ground.phase }, { on := 56, ground := Go.Ground.phase }, { on := 57, ground := Go.Ground.phase }, { on := 58, ground := Go.Ground.phase }], guard := none }) (v := ?_) rfl (by kernel_rfl) (by kernel_rfl) (by kernel_rfl) (fun _ _ _ h => h) (Or.inl ⟨by rfl, ?_⟩) (by assumption) ?_
    rotate_left 1
    · (intro wS hSw; (try dsimp only at hSw); go_simp; (all_goals with_reducible rfl))
    simp only [Act.put, List.setIfInBounds_toArray, List.set_cons_zero, List.set_cons_succ]
    refine wpAnyH_done (by kernel_rfl) ?_ _
    all_goals
      go_wp2
      go_ret
      exact ⟨rfl, B3.tr Bw⟩
end Go.Proofs.Ytkbndchgmokabaa
