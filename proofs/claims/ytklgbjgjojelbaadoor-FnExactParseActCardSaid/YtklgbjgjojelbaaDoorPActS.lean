/- ParseAct of the reference: the walk. No conditions. -/
import Derived.Test.YtklgbjgjojelbaaDoorPActI
import Derived.Test.YtklgbjgjojelbaaDoorFmtAct
import Derived.Test.YtklgbjgjojelbaaDoorSplitS
namespace Go.Proofs.YtklgbjgjojelbaaDoor
open Go.ChangeShapes Go.WideShapes Go.ChangeAt Go.RowKit
set_option linter.unusedVariables false
set_option linter.unusedSimpArgs false

set_option maxHeartbeats 4000000 in
set_option maxRecDepth 100000 in
theorem l40S_any (s : ByteArray) (w : World) : Calls Tryd.prog 9 #[.string s] w (Ret (.int .i64 (l40 s)) w) := by
  by_cases h1 : 1 < s.size
  · have h1i : (1 : Int) < (s.size : Int) := by omega
    have h0 : 0 < s.size := by omega
    by_cases h2 : s[0].toNat = 45
    · have h2i : ((s[0].toNat : Nat) : Int) = 45 := by omega
      have e : l40 s = - puN (s.extract 1 s.size) := by unfold l40; rw [dif_pos h1, if_pos h2]
      rw [e]
      clear e h2
      obtain ⟨m, hm⟩ : ∃ m, m = puN (s.extract 1 s.size) := ⟨_, rfl⟩
      have hp := pu_in (s.extract 1 s.size)
      rw [← hm] at hp ⊢
      have CP : ∀ W : World, Calls Tryd.prog 16 #[.string (s.extract 1 s.size)] W (Ret (.tuple #[.int .i64 m, .bool (puB (s.extract 1 s.size))]) W) := fun W => by rw [hm]; exact puS_any _ W
      have HC := Lib.hid CP; clear CP hm
      go_enter Tryd.func9, Tryd.ntmps9
      go_wp2_with fail
      refine (HC.out _).mono ?_
      rintro e w1 ⟨rfl, hb1⟩
      go_wp2
      go_ret
      exact ⟨rfl, hb1⟩
    · have h2i : ¬ (((s[0].toNat : Nat) : Int) = 45) := by omega
      have e : l40 s = puN s := by unfold l40; rw [dif_pos h1, if_neg h2]
      rw [e]
      clear e h2
      go_enter Tryd.func9, Tryd.ntmps9
      go_wp2_with fail
      refine (puS_any s _).mono ?_
      rintro e w1 ⟨rfl, hb1⟩
      go_wp2
      go_ret
      exact ⟨rfl, hb1⟩
  · have h1i : ¬ ((1 : Int) < (s.size : Int)) := by omega
    have e : l40 s = puN s := by unfold l40; rw [dif_neg h1]
    rw [e]
    clear e
    go_enter Tryd.func9, Tryd.ntmps9
    go_wp2_with fail
    refine (puS_any s _).mono ?_
    rintro e w1 ⟨rfl, hb1⟩
    go_wp2
    go_ret
    exact ⟨rfl, hb1⟩

theorem joinTail_len {N : Nat} : ∀ (xs : List Bs), (∀ x ∈ xs, x.length ≤ N) → (Lib.joinTail [32] xs).length ≤ (N + 1) * xs.length
  | [], _ => by simp [Lib.joinTail]
  | x :: xs, h => by
    have e : Lib.joinTail [32] (x :: xs) = 32 :: (x ++ Lib.joinTail [32] xs) := by simp [Lib.joinTail]
    have h1 := joinTail_len xs (fun y hy => h y (List.mem_cons_of_mem _ hy))
    have h2 := h x List.mem_cons_self
    rw [e, List.length_cons, List.length_append, List.length_cons, Nat.mul_succ]
    omega
theorem joinTail_snoc : ∀ (xs : List Bs) (y : Bs), Lib.joinTail [32] (xs ++ [y]) = Lib.joinTail [32] xs ++ 32 :: y
  | [], y => by simp [Lib.joinTail]
  | x :: xs, y => by
    have e : ∀ zs, Lib.joinTail [32] (x :: zs) = 32 :: (x ++ Lib.joinTail [32] zs) := fun zs => by simp [Lib.joinTail]
    rw [List.cons_append, e, e, joinTail_snoc xs y]
    simp
theorem join_snoc {xs : List Bs} (h : xs ≠ []) (y : Bs) : Lib.join (xs ++ [y]) [32] = Lib.join xs [32] ++ 32 :: y := by
  cases xs with
  | nil => exact absurd rfl h
  | cons x xs => rw [List.cons_append, Lib.join_cons, Lib.join_cons, joinTail_snoc, List.append_assoc]
theorem joinB_succ {F : List ByteArray} {j : Nat} (h : j + 1 < F.length) : joinB (F.take (j + 1)) ++ (⟨#[32]⟩ : ByteArray) ++ nth F (j + 1) = joinB (F.take (j + 1 + 1)) := by
  apply ByteArray.ext
  apply Array.toList_inj.1
  rw [ByteArray.data_append, ByteArray.data_append, Array.toList_append, Array.toList_append]
  unfold joinB
  rw [toB_data, toB_data, List.take_succ_eq_append_getElem h, List.map_append, List.map_cons, List.map_nil, join_snoc (by
    intro q
    have := congrArg List.length q
    rw [List.length_map, List.length_take, List.length_nil] at this
    omega), nth_get h, List.append_assoc]
  rfl
theorem joinB_one {F : List ByteArray} (h : 0 < F.length) : joinB (F.take (0 + 1)) = nth F 0 := by
  rw [nth_get h, List.take_succ_eq_append_getElem h]
  unfold joinB
  rw [List.take_zero, List.nil_append, List.map_cons, List.map_nil, Lib.join_one]
  exact toB_self _
theorem fg_len : ∀ (l cur : Bs), ∀ x ∈ fg cur l, x.length ≤ cur.length + l.length
  | [], cur, x, hx => by
    rw [fg] at hx
    split at hx
    · cases hx
    · rw [List.mem_singleton.1 hx]; simp
  | c :: r, cur, x, hx => by
    rw [fg] at hx
    rw [List.length_cons]
    split at hx
    · split at hx
      · have := fg_len r [] x hx; simp at this; omega
      · rcases List.mem_cons.1 hx with rfl | hx
        · omega
        · have := fg_len r [] x hx; simp at this; omega
    · have := fg_len r (cur ++ [c]) x hx; rw [List.length_append] at this; simp at this; omega
theorem flds_len2 {s : ByteArray} (hs : s.size ≤ 600) : ∀ x ∈ (flds s).map (fun x => x.data.toList), x.length ≤ 600 := by
  have e : (flds s).map (fun x => x.data.toList) = fg [] s.data.toList := by
    unfold flds
    rw [List.map_map]
    conv => rhs; rw [← List.map_id (fg [] s.data.toList)]
    exact List.map_congr_left fun x _ => toB_data x
  rw [e]
  intro x hx
  have := fg_len _ _ x hx
  have h2 : s.data.toList.length = s.size := Array.length_toList
  simp only [List.length_nil] at this
  omega
theorem joinB_size {F : List ByteArray} (h : ∀ x ∈ F.map (fun x => x.data.toList), x.length ≤ 600) (k : Nat) (hk : k ≤ 3) : (joinB (F.take k)).size ≤ 2000 := by
  unfold joinB
  have e : ∀ l : Bs, (toB l).size = l.length := fun l => rfl
  rw [e]
  have h2 : ∀ x ∈ (F.take k).map (fun x => x.data.toList), x.length ≤ 600 := fun x hx => by
    rw [List.map_take] at hx
    exact h x (List.mem_of_mem_take hx)
  have hl : ((F.take k).map (fun x => x.data.toList)).length ≤ 3 := by rw [List.length_map, List.length_take]; omega
  generalize (F.take k).map (fun x => x.data.toList) = xs at h2 hl
  cases xs with
  | nil => exact Nat.zero_le _
  | cons x xs =>
    rw [Lib.join_cons, List.length_append]
    have h3 := joinTail_len xs (fun y hy => h2 y (List.mem_cons_of_mem _ hy))
    have h4 := h2 x List.mem_cons_self
    rw [List.length_cons] at hl
    have h5 : (600 + 1) * xs.length ≤ 601 * 2 := Nat.mul_le_mul_left _ (by omega)
    omega
theorem nth_size {F : List ByteArray} (h : ∀ x ∈ F.map (fun x => x.data.toList), x.length ≤ 600) {i : Nat} (hi : i < F.length) : (nth F i).size ≤ 600 := by
  rw [nth_get hi]
  exact h _ (List.mem_map_of_mem (List.getElem_mem hi))
noncomputable def nums (F : List ByteArray) (j : Nat) : List Int := ((F.drop 1).take j).map l40
theorem nums_len {F : List ByteArray} {j : Nat} (h : j + 1 ≤ F.length) : (nums F j).length = j := by unfold nums; rw [List.length_map, List.length_take, List.length_drop]; omega
theorem nums_succ {F : List ByteArray} {j : Nat} (h : j + 1 < F.length) : nums F j ++ [l40 (nth F (j + 1))] = nums F (j + 1) := by
  unfold nums
  rw [List.take_succ_eq_append_getElem (by rw [List.length_drop]; omega), List.map_append, nth_get h]
  simp [Nat.add_comm]
theorem nums_at {F : List ByteArray} (hl : 1 ≤ F.length ∧ F.length ≤ 3) : (nums F (F.length - 1) ++ [0, 0])[0]? = some (l40 (nth F 1)) ∧ (nums F (F.length - 1) ++ [0, 0])[1]? = some (l40 (nth F 2)) := by
  have hz := l40_empty
  rcases F with _ | ⟨a, _ | ⟨b, _ | ⟨c, _ | ⟨d, r⟩⟩⟩⟩
  · simp at hl
  · exact ⟨by simp [nums, nth, hz], by simp [nums, nth, hz]⟩
  · exact ⟨by simp [nums, nth, hz], by simp [nums, nth, hz]⟩
  · exact ⟨by simp [nums, nth, hz], by simp [nums, nth, hz]⟩
  · simp at hl
theorem own_cell {l : List Int} {B g n c k : Nat} {w : World} {x : Int} (h : OwnL 3 1 eInt B w (.slice (some ⟨g, 0, none⟩) n c) l) (hx : l[k]? = some x) : w.cell? ⟨g, k, none⟩ = some (.int .i64 x) := by
  obtain ⟨hk, e⟩ := List.getElem?_eq_some_iff.1 hx
  have := h.slot lenInt (by decide) hk 0 _ rfl
  rw [e] at this
  simpa using this
/-- What the search over the kinds comes to. -/
theorem pa_some {s : ByteArray} {k a b : Int} (hl : lineOk s = true) (hi : inB ((flds s).length : Int) 1 3 = true) (h1 : actOk k a b = true) (h2 : actText k a b = joinB (flds s)) : paX s = (k, a, b) ∧ paB s = true := by
  have h3 : (flds s).length ≤ 3 := by simp [inB] at hi; omega
  refine pa_yes hl h3 ⟨h1, ?_⟩
  unfold actText at h2
  rw [if_pos h1] at h2
  exact h2
theorem pa_none {s : ByteArray} {a b : Int} (ha : a = l40 (nth (flds s) 1)) (hb : b = l40 (nth (flds s) 2)) (h : ∀ k : Int, 1 ≤ k → k < 6 → ¬ (actOk k a b = true ∧ actText k a b = joinB (flds s))) : paX s = (0, 0, 0) ∧ paB s = false := pa_no fun q => by
  obtain ⟨_, _, x, hx⟩ := q
  have hd := act_det (wd_flds s) hx
  obtain ⟨x1, x2, x3⟩ := x
  obtain rfl : a = x2 := by rw [ha]; exact hd.ha
  obtain rfl : b = x3 := by rw [hb]; exact hd.hb
  have h1 := hx.1
  have h2 := hx.2
  simp only at h1 h2
  refine h x1 hd.in1.1 (by have := hd.in1.2; simp only at this; omega) ⟨h1, ?_⟩
  unfold actText
  rw [if_pos h1]
  exact h2

abbrev oPActS0 : Oper := { dst := some 59, op := Go.Op.move (Go.Operand.tmp 9), type := 3, pos := "l40_console.go:41", after := #[], guard := none }
abbrev oPActS1 : Oper := { dst := some 60, op := Go.Op.move (Go.Operand.tmp 7), type := 32, pos := "l40_console.go:41", after := #[], guard := none }
abbrev oPActS2 : Oper := { dst := some 61, op := Go.Op.indexAddr 32 (Go.Operand.tmp 60) (Go.Operand.const (Go.Value.int Go.IntKind.i64 0)), type := 0, pos := "l40_console.go:41", after := #[{ on := 1, ground := Go.Ground.data }], guard := none }
abbrev oPActS3 : Oper := { dst := some 62, op := Go.Op.load 3 (Go.Operand.tmp 61), type := 3, pos := "l40_console.go:41", after := #[{ on := 2, ground := Go.Ground.data }], guard := none }
abbrev oPActS4 : Oper := { dst := some 63, op := Go.Op.move (Go.Operand.tmp 7), type := 32, pos := "l40_console.go:41", after := #[], guard := none }
abbrev oPActS5 : Oper := { dst := some 64, op := Go.Op.indexAddr 32 (Go.Operand.tmp 63) (Go.Operand.const (Go.Value.int Go.IntKind.i64 1)), type := 0, pos := "l40_console.go:41", after := #[{ on := 4, ground := Go.Ground.data }], guard := none }
abbrev oPActS6 : Oper := { dst := some 65, op := Go.Op.load 3 (Go.Operand.tmp 64), type := 3, pos := "l40_console.go:41", after := #[{ on := 5, ground := Go.Ground.data }], guard := none }
abbrev oPActS7 : Oper := { dst := some 66, op := Go.Op.build 23 #[(0, Go.Operand.tmp 59), (1, Go.Operand.tmp 62), (2, Go.Operand.tmp 65)], type := 23, pos := "l40_console.go:41", after := #[{ on := 0, ground := Go.Ground.data }, { on := 3, ground := Go.Ground.data }, { on := 6, ground := Go.Ground.data }], guard := none }
abbrev oPActS8 : Oper := { dst := some 10, op := Go.Op.alloc 23, type := 0, pos := "l40_console.go:41", after := #[], guard := none }
abbrev oPActS9 : Oper := { dst := none, op := Go.Op.store 23 (Go.Operand.tmp 10) (Go.Operand.tmp 66), type := 0, pos := "l40_console.go:41", after := #[{ on := 8, ground := Go.Ground.data }, { on := 7, ground := Go.Ground.data }, { on := 0, ground := Go.Ground.phase }, { on := 1, ground := Go.Ground.phase }, { on := 2, ground := Go.Ground.phase }, { on := 3, ground := Go.Ground.phase }, { on := 4, ground := Go.Ground.phase }, { on := 5, ground := Go.Ground.phase }, { on := 6, ground := Go.Ground.phase }, { on := 7, ground := Go.Ground.phase }, { on := 8, ground := Go.Ground.phase }], guard := none }
set_option maxHeartbeats 4000000 in
set_option maxRecDepth 100000 in
theorem paS_any (s : ByteArray) (w : World) : Calls Tryd.prog 4 #[.string s] w (Ret (paV s) w) := by
  have B0 := (Below.refl w.heap.size w).al (.cells #[.int .i64 0, .int .i64 0, .int .i64 0] 23)
  have bR := Blk.new_ w 23 #[.int .i64 0, .int .i64 0, .int .i64 0]
  obtain ⟨gR, hgR'⟩ : ∃ g, g = w.heap.size := ⟨_, rfl⟩
  have hgR : w.heap.size ≤ gR := by omega
  have HgR := Lib.hid hgR'; clear hgR'
  rcases hok : lineOk s with _ | _
  · have Hn := Lib.hid (pa_no (s := s) (fun q => by rw [hok] at q; cases q.1))
    have HOk := Lib.hid hok; clear hok
    go_enter Tryd.func4, Tryd.ntmps4
    go_wp2_with fail
    refine (splitS_any s _).mono ?_
    rintro e w1 ⟨v, rfl, hO, hb1⟩
    rw [HOk.out]
    have bR1 := bR.bl hb1
    have B1 := B0.tr hb1
    rw [← HgR.out] at bR1 ⊢
    clear hO
    go_wp2_with (refine wpList_storeRowP rfl 23 _ _ rfl gR #[.int .i64 0, .int .i64 0, .int .i64 0] rfl rfl _ _ bR1 (by kernel_rfl) rfl (by simp [Value.oneCell']) ?_; intro wE bE hgE)
    have BE := B1.grown hgE B1.size (fun k hk => by injection hk with hk; subst hk; exact hgR)
    have q_0 := bE.cell 0
    have q_1 := bE.cell 1
    have q_2 := bE.cell 2
    simp only [List.getElem?_toArray, List.getElem?_cons_zero, List.getElem?_cons_succ] at q_0 q_1 q_2
    refine bodyPost_ret (v := .tuple #[.agg #[.int .i64 0, .int .i64 0, .int .i64 0], .bool false]) (by simp [results, Tryd.results4, go_sem, q_0, q_1, q_2]) rfl ⟨by unfold paV; rw [Hn.out.1, Hn.out.2], BE⟩
  · rcases hi : inB ((flds s).length : Int) 1 3 with _ | _
    · have Hn := Lib.hid (pa_len hi)
      have HOk := Lib.hid hok; clear hok
      go_enter Tryd.func4, Tryd.ntmps4
      go_wp2_with fail
      refine (splitS_any s _).mono ?_
      rintro e w1 ⟨v, rfl, hO, hb1⟩
      rw [HOk.out]
      have hO := hO HOk.out
      obtain ⟨A, c, rfl, _, _⟩ := hO.form
      have bR1 := bR.bl hb1
      have B1 := B0.tr hb1
      go_wp2_with fail
      refine (in_any ((flds s).length : Int) 1 3 _).mono ?_
      rintro e w2 ⟨rfl, rfl⟩
      rw [hi]
      rw [← HgR.out] at bR1 ⊢
      clear hO
      go_wp2_with (refine wpList_storeRowP rfl 23 _ _ rfl gR #[.int .i64 0, .int .i64 0, .int .i64 0] rfl rfl _ _ bR1 (by kernel_rfl) rfl (by simp [Value.oneCell']) ?_; intro wE bE hgE)
      have BE := B1.grown hgE B1.size (fun k hk => by injection hk with hk; subst hk; exact hgR)
      have q_0 := bE.cell 0
      have q_1 := bE.cell 1
      have q_2 := bE.cell 2
      simp only [List.getElem?_toArray, List.getElem?_cons_zero, List.getElem?_cons_succ] at q_0 q_1 q_2
      refine bodyPost_ret (v := .tuple #[.agg #[.int .i64 0, .int .i64 0, .int .i64 0], .bool false]) (by simp [results, Tryd.results4, go_sem, q_0, q_1, q_2]) rfl ⟨by unfold paV; rw [Hn.out.1, Hn.out.2], BE⟩
    · have HOk := Lib.hid hok; clear hok
      have HIn := Lib.hid hi
      go_enter Tryd.func4, Tryd.ntmps4
      go_wp2_with fail
      refine (splitS_any s _).mono ?_
      rintro e w1 ⟨v, rfl, hO, hb1⟩
      rw [HOk.out]
      have hO := (hO HOk.out).mono B0.size
      obtain ⟨F, hF⟩ : ∃ F, F = flds s := ⟨_, rfl⟩
      have hl : 1 ≤ F.length ∧ F.length ≤ 3 := by rw [hF]; simp [inB] at hi; omega
      rw [← hF] at hO hi
      have hwl := flds_len2 (lineOk_size HOk.out)
      rw [← hF] at hwl
      have HF := Lib.hid hF; have HWL := Lib.hid hwl
      obtain ⟨A, c, rfl, _, _⟩ := hO.form
      obtain ⟨gF, rfl, hgF, hgF2⟩ := hO.split (k := 0) (by omega)
      have bR1 := bR.bl hb1
      have B1 := B0.tr hb1
      clear hF hwl
      go_wp2_with fail
      refine (in_any (F.length : Int) 1 3 _).mono ?_
      rintro e w2 ⟨rfl, rfl⟩
      rw [hi]
      clear hi
      rw [← HgR.out] at bR1 ⊢
      have hRl := bR1.lt
      have h0 : 0 < F.length := by omega
      have c2 : w1.cell? ⟨gF, 0, none⟩ = some (.string (nth F 0)) := by
        have := hO.slot lenStr (by decide) h0 0 _ rfl
        rw [nth_get h0]
        simpa using this
      have own0 := own_mt w1 (E := 3) (size := 1) (enc := eInt) w1.heap.size rfl w1.heap.size (Nat.le_refl _)
      have HO := Lib.hid hO; have HB := Lib.hid bR1; have HB1 := Lib.hid B1
      have hj1 := joinB_one h0
      have HJ1 := Lib.hid hj1
      clear hO bR1 B1 bR B0 hj1 hb1
      go_wp2
      go_loopw [6, 7, 8] (fun s6 s7 s8 wr => ∃ (j : Nat) (D : Option Addr) (d : Nat), j + 1 ≤ F.length ∧ s8 = .int .i64 ((j + 1 : Nat) : Int) ∧ s6 = .string (joinB (F.take (j + 1))) ∧ s7 = .slice D j d ∧ OwnL 3 1 eInt w1.heap.size wr (.slice D j d) (nums F j) ∧ Below w1.heap.size w1 wr) (fun _ _ i _ => F.length - (intOf i).toNat)
      case atStart => exact ⟨0, _, _, hl.1, rfl, by rw [HJ1.out], rfl, own0, (Below.refl _ _).al _⟩
      case round =>
        obtain ⟨j, D, d, hj, rfl, rfl, rfl, hown, hbel⟩ := hrel
        clear own0 c2
        by_cases hlt : j + 1 < F.length
        · obtain ⟨x, hx⟩ : ∃ x, x = nth F (j + 1) := ⟨_, rfl⟩
          have oF := HO.out.below hbel
          have c1 : wr.cell? ⟨gF, j + 1, none⟩ = some (.string x) := by
            have := oF.slot lenStr (by decide) hlt 0 _ rfl
            rw [hx, nth_get hlt]
            simpa using this
          have z1 := joinB_size HWL.out (j + 1) (by omega)
          have z2 : x.size ≤ 600 := by rw [hx]; exact nth_size HWL.out hlt
          have hjs := joinB_succ hlt
          have hns := nums_succ hlt
          rw [← hx] at hjs hns
          have hnl := nums_len hj
          have HJS := Lib.hid hjs; have HNS := Lib.hid hns; have HNL := Lib.hid hnl
          have hji : ((j + 1 : Nat) : Int) < (F.length : Int) := by omega
          have H8 : Hid (((nums F j).length + 1) * 8 ≤ 140737488355328) := Lib.hid (by rw [hnl]; omega)
          have HM : Hid ((nums F j).length + 1 ≤ maxLen) := Lib.hid (by rw [hnl]; unfold maxLen; omega)
          clear hx hjs hns hnl oF
          go_wp2_with fail
          refine (l40S_any x _).mono ?_
          rintro e w3 ⟨rfl, hb2⟩
          have own2 := hown.below hb2
          have B2 := hbel.tr hb2
          go_wp2_with (at_builtin; go_must (refine wpList_app1 (enc := eInt) rowInt lenInt oneInt B2 own2 (l40 x) H8.out HM.out rfl _ _ rfl rfl rfl ?_); intro v4 w4 own4 hb4 hg4 hd4; rw [HNS.out] at own4; obtain ⟨A4, c4, rfl, hc4, hm4⟩ := own4.form)
          go_roundw
          case rel => exact ⟨j + 1, A4, c4, by omega, by go_num, by rw [HJS.out], by rw [nums_len (by omega)], by have := own4; rw [nums_len (by omega)] at this; exact this, hb4⟩
          case measure => simp [intOf]; omega
        · obtain ⟨n, hn⟩ : ∃ n, n = F.length := ⟨_, rfl⟩
          obtain rfl : j = F.length - 1 := by omega
          obtain ⟨na, nb⟩ := nums_at hl
          obtain ⟨N, hN⟩ : ∃ N, N = nums F (F.length - 1) ++ [0, 0] := ⟨_, rfl⟩
          obtain ⟨a, ha⟩ : ∃ a, a = l40 (nth F 1) := ⟨_, rfl⟩
          obtain ⟨b, hb⟩ : ∃ b, b = l40 (nth F 2) := ⟨_, rfl⟩
          obtain ⟨S, hS⟩ : ∃ S, S = joinB F := ⟨_, rfl⟩
          have hTk : F.take (F.length - 1 + 1) = F := List.take_of_length_le (by omega)
          rw [hTk, ← hS]
          have hji : ¬ (((F.length - 1 + 1 : Nat) : Int) < (F.length : Int)) := by omega
          have hnl := nums_len (F := F) hj
          have H8 : Hid (((nums F (F.length - 1)).length + ([0, 0] : List Int).length) * 8 ≤ 140737488355328) := Lib.hid (by rw [hnl]; show (F.length - 1 + 2) * 8 ≤ _; omega)
          have HM : Hid ((nums F (F.length - 1)).length + ([0, 0] : List Int).length ≤ maxLen) := Lib.hid (by rw [hnl]; show F.length - 1 + 2 ≤ _; unfold maxLen; omega)
          have hrA : Rd 1 (RE eInt) (wr.alloc (.cells #[.int .i64 0, .int .i64 0] 3)) (.slice (some ⟨wr.heap.size, 0, none⟩) 2 2) [0, 0] := (own_two (E := 3) (enc := eInt) wr 0 0 rfl rfl).rd lenInt (by decide)
          have ownA := hown.alloc (.cells #[.int .i64 0, .int .i64 0] 3)
          have BA := hbel.al (.cells #[.int .i64 0, .int .i64 0] 3)
          rw [← hN, ← ha] at na
          rw [← hN, ← hb] at nb
          have HNN := Lib.hid hN; have HA := Lib.hid ha; have HBb := Lib.hid hb; have HS := Lib.hid hS; have HNA := Lib.hid na; have HNB := Lib.hid nb; have HNL := Lib.hid hnl
          clear hN ha hb hS hTk na nb hnl hn
          go_wp2_with (at_builtin; go_must (refine wpList_appAll (enc := eInt) rowInt lenInt oneInt (B := w1.heap.size) BA.size ownA (A := some ⟨wr.heap.size, 0, none⟩) (c := 2) (m := [0, 0]) hrA H8.out HM.out rfl _ _ rfl rfl rfl ?_); intro v4 w4 own4 hb4 hv4; rw [← HNN.out] at own4; obtain ⟨A4, c4, rfl⟩ := hv4)
          have hN1 : 0 < N.length := (List.getElem?_eq_some_iff.1 HNA.out).1
          obtain ⟨L, hL⟩ : ∃ L, L = (nums F (F.length - 1)).length + ([0, 0] : List Int).length := ⟨_, rfl⟩
          have hNL : N.length = L := by rw [HNN.out, hL, List.length_append]
          have own5 : OwnL 3 1 eInt w1.heap.size w4 (.slice A4 N.length c4) N := by rw [hNL, hL]; exact own4
          obtain ⟨gN, rfl, hgN, hgN2⟩ := own5.split (k := 0) hN1
          have e2 : (nums F (F.length - 1)).length + 2 = L := hL.symm
          have hL2 : 1 < L := by rw [hL, HNL.out]; show 1 < F.length - 1 + 2; omega
          have B4 := BA.trans hb4
          have bR4 := HB.out.bl B4
          have B4' := HB1.out.tr B4
          (try rw [← hL])
          (try rw [e2])
          have HNLL := Lib.hid hNL
          have l0 : 0 < L := by omega
          have l1 : (1 : Int) < (L : Int) := by omega
          clear hL hNL e2 own4 hb4 BA ownA hrA hown hbel
          go_loopw [9, 10, 11, 12] (fun s9 s10 s11 s12 wr => ∃ (k : Nat) (z10 z11 z12 : Value), s10 = z10 ∧ s11 = z11 ∧ s12 = z12 ∧ 1 ≤ k ∧ k ≤ 6 ∧ s9 = .int .i64 k ∧ Hid (∀ i : Int, 1 ≤ i → i < k → ¬ (actOk i a b = true ∧ actText i a b = S)) ∧ Below w4.heap.size w4 wr) (fun i _ _ _ _ => 6 - (intOf i).toNat)
          case atStart => exact ⟨1, _, _, _, rfl, rfl, rfl, by decide, by decide, rfl, Lib.hid (fun i h1 h2 => by omega), Below.refl _ _⟩
          case round =>
            obtain ⟨k, z10, z11, z12, rfl, rfl, rfl, hk1, hk6, rfl, Hg, hbel⟩ := hrel
            have bR5 := bR4.bl hbel
            have B5 := B4'.tr hbel
            by_cases hlt : k < 6
            · have hki : (k : Int) ≤ 5 := by omega
              have oN := own5.below hbel
              have n0 := own_cell oN HNA.out
              have n1 := own_cell oN HNB.out
              have hgNl : gN < wr.heap.size := Nat.lt_of_lt_of_le hgN2 hbel.size
              obtain ⟨W, hW⟩ : ∃ W, W = wr := ⟨_, rfl⟩
              rw [← hW] at hbel bR5 B5 oN n0 n1 hgNl ⊢
              clear hW oN
              have Bw : Below W.heap.size W W.drew := (Below.refl _ _).drew
              have hz : W.heap.size ≤ W.drew.heap.size := by simp
              go_wp2_with fail
              refine wp_region_held_drew (S := (fun w' => w'.cell? ⟨gN, 0, none⟩ = some (.int .i64 a) ∧ w'.cell? ⟨gN, 1, none⟩ = some (.int .i64 b))) (by kernel_rfl) ?_ (fun hHeld => ?_)
              · (try dsimp only); (try go_keep)
              refine tk 0 oPActS0 rfl (by kernel_rfl) (v := ?_) (fun _ _ _ h => h) (Or.inl ⟨by rfl, ?_⟩) (by assumption) ?_
              rotate_left 1
              · (intro wS hSw; (try dsimp only at hSw); dsimp only [oPActS0]; go_simp; (all_goals with_reducible rfl))
              simp only [oPActS0, putL, List.set]
              refine tk 1 oPActS1 rfl (by kernel_rfl) (v := ?_) (fun _ _ _ h => h) (Or.inl ⟨by rfl, ?_⟩) (by assumption) ?_
              rotate_left 1
              · (intro wS hSw; (try dsimp only at hSw); dsimp only [oPActS1]; go_simp; (all_goals with_reducible rfl))
              simp only [oPActS1, putL, List.set]
              refine tk 2 oPActS2 rfl (by kernel_rfl) (v := ?_) (fun _ _ _ h => h) (Or.inl ⟨by rfl, ?_⟩) (by assumption) ?_
              rotate_left 1
              · (intro wS hSw; (try dsimp only at hSw); dsimp only [oPActS2]; go_simp; (all_goals with_reducible rfl))
              simp only [oPActS2, putL, List.set]
              refine tk 3 oPActS3 rfl (by kernel_rfl) (v := ?_) (fun _ _ _ h => h) (Or.inl ⟨by rfl, ?_⟩) (by assumption) ?_
              rotate_left 1
              · (intro wS hSw; (try dsimp only at hSw); dsimp only [oPActS3]; go_simp; (all_goals with_reducible rfl))
              simp only [oPActS3, putL, List.set]
              refine tk 4 oPActS4 rfl (by kernel_rfl) (v := ?_) (fun _ _ _ h => h) (Or.inl ⟨by rfl, ?_⟩) (by assumption) ?_
              rotate_left 1
              · (intro wS hSw; (try dsimp only at hSw); dsimp only [oPActS4]; go_simp; (all_goals with_reducible rfl))
              simp only [oPActS4, putL, List.set]
              refine tk 5 oPActS5 rfl (by kernel_rfl) (v := ?_) (fun _ _ _ h => h) (Or.inl ⟨by rfl, ?_⟩) (by assumption) ?_
              rotate_left 1
              · (intro wS hSw; (try dsimp only at hSw); dsimp only [oPActS5]; go_simp; (all_goals with_reducible rfl))
              simp only [oPActS5, putL, List.set]
              refine tk 6 oPActS6 rfl (by kernel_rfl) (v := ?_) (fun _ _ _ h => h) (Or.inl ⟨by rfl, ?_⟩) (by assumption) ?_
              rotate_left 1
              · (intro wS hSw; (try dsimp only at hSw); dsimp only [oPActS6]; go_simp; (all_goals with_reducible rfl))
              simp only [oPActS6, putL, List.set]
              refine tk 7 oPActS7 rfl (by kernel_rfl) (v := ?_) (fun _ _ _ h => h) (Or.inl ⟨by rfl, ?_⟩) (by assumption) ?_
              rotate_left 1
              · (intro wS hSw; (try dsimp only at hSw); dsimp only [oPActS7]; go_simp; (all_goals with_reducible rfl))
              simp only [oPActS7, putL, List.set]
              refine wpAnyH_ready (rs := [8]) (by kernel_rfl) (by simp) ?_
              refine AllReadyH.cons (o := oPActS8) rfl (fun K hK => ?_) AllReadyH.nil
              (refine step_alloc rfl 23 _ rfl Tryd.zeroValue23 ?_; intro gX wX bN hbX hgN1 hgN2 hgN3; have hgX : W.heap.size ≤ gX := (by omega); obtain ⟨hcX, hfX, hzX⟩ := bkn hbX W.heap.size hz; replace hz := hzX; replace Bw := Bw.tr hbX)
              refine hK.out _ _ ?_ (fun hHeld => ?_)
              · (try dsimp only); (try go_keep)
              clear hK K
              (try simp only [Act.put, List.setIfInBounds_toArray, List.set_cons_zero, List.set_cons_succ])
              refine wpAnyH_ready (rs := [9]) (by kernel_rfl) (by simp) ?_
              refine AllReadyH.cons (o := oPActS9) rfl (fun K hK => ?_) AllReadyH.nil
              (refine step_storeRow rfl 23 _ _ rfl gX #[.int .i64 k, .int .i64 a, .int .i64 b] rfl rfl _ _ bN (by kernel_rfl) rfl (by simp [Value.oneCell']) ?_; intro wX bNX hgX; replace Bw := Bw.grown hgX hz (fun k hk => by injection hk with hk; subst hk; omega); obtain ⟨hcX, hfX, hzX⟩ := bk Bw)
              refine hK.out _ _ ?_ (fun hHeld => ?_)
              · (try dsimp only); (try go_keep)
              clear hK K
              (try simp only [Act.put, List.setIfInBounds_toArray, List.set_cons_zero, List.set_cons_succ])
              refine wpAnyH_done (by kernel_rfl) ?_ _
              all_goals
                clear hcX hfX
                have bR6 := bR5.bl Bw
                have B6 := B5.tr Bw
                have hb6 := hbel.tr Bw
                clear Bw hz hzX bN bR5 B5 hbel
                have m_0 := bNX.cell 0
                have m_1 := bNX.cell 1
                have m_2 := bNX.cell 2
                simp only [List.getElem?_toArray, List.getElem?_cons_zero, List.getElem?_cons_succ] at m_0 m_1 m_2
                rcases hok : actOk k a b with _ | _
                · have Hg2 : Hid (∀ i : Int, 1 ≤ i → i < ((k + 1 : Nat) : Int) → ¬ (actOk i a b = true ∧ actText i a b = S)) := Lib.hid (fun i h1 h2 q => by
                    rcases (by omega : i < k ∨ i = k) with h3 | h3
                    · exact Hg.out i h1 h3 q
                    · rw [h3, hok] at q; cases q.1)
                  go_wp2_with fail
                  refine (fmtActS_any k a b _).mono ?_
                  rintro e w7 ⟨rfl, hb7⟩
                  rw [hok]
                  clear hok
                  have hb8 := hb6.tr hb7
                  go_wp2
                  go_roundw
                  case rel => exact ⟨k + 1, _, _, _, rfl, rfl, rfl, by omega, by omega, by go_num, Hg2, hb8⟩
                  case measure => simp [intOf]; omega
                · go_wp2_with fail
                  refine (fmtActS_any k a b _).mono ?_
                  rintro e w7 ⟨rfl, hb7⟩
                  rw [hok]
                  have Hok := Lib.hid hok
                  clear hok
                  have hb8 := hb6.tr hb7
                  by_cases he : actText k a b = S
                  · have Hy := Lib.hid (pa_some (s := s) HOk.out HIn.out Hok.out (by rw [he, HS.out, ← HF.out]))
                    have beq := str_same he
                    clear he m_0 m_1 m_2
                    have bR8 := bR6.bl hb7
                    have bN8 := bNX.bl hb7
                    have B8 := B6.tr hb7
                    have m_0 := bN8.cell 0
                    have m_1 := bN8.cell 1
                    have m_2 := bN8.cell 2
                    simp only [List.getElem?_toArray, List.getElem?_cons_zero, List.getElem?_cons_succ] at m_0 m_1 m_2
                    go_wp2_with (refine wpList_storeRowP rfl 23 _ _ rfl gR #[.int .i64 k, .int .i64 a, .int .i64 b] rfl rfl _ _ bR8 (by kernel_rfl) rfl (by simp [Value.oneCell']) ?_; intro wE bE hgE)
                    have BE := B8.grown hgE B8.size (fun k hk => by injection hk with hk; subst hk; exact hgR)
                    have q_0 := bE.cell 0
                    have q_1 := bE.cell 1
                    have q_2 := bE.cell 2
                    simp only [List.getElem?_toArray, List.getElem?_cons_zero, List.getElem?_cons_succ] at q_0 q_1 q_2
                    refine bodyPost_ret (v := .tuple #[.agg #[.int .i64 k, .int .i64 a, .int .i64 b], .bool true]) (by simp [results, Tryd.results4, go_sem, q_0, q_1, q_2]) rfl ⟨by unfold paV; rw [Hy.out.1, Hy.out.2], BE⟩
                  · have Hg2 : Hid (∀ i : Int, 1 ≤ i → i < ((k + 1 : Nat) : Int) → ¬ (actOk i a b = true ∧ actText i a b = S)) := Lib.hid (fun i h1 h2 q => by
                      rcases (by omega : i < k ∨ i = k) with h3 | h3
                      · exact Hg.out i h1 h3 q
                      · rw [h3] at q; exact he q.2)
                    have beq := str_diff he
                    clear he
                    go_wp2
                    go_roundw
                    case rel => exact ⟨k + 1, _, _, _, rfl, rfl, rfl, by omega, by omega, by go_num, Hg2, hb8⟩
                    case measure => simp [intOf]; omega
            · obtain rfl : k = 6 := by omega
              have Hn := Lib.hid (pa_none (s := s) (a := a) (b := b) (by rw [HA.out, HF.out]) (by rw [HBb.out, HF.out]) (fun i h1 h2 => by rw [← HF.out, ← HS.out]; exact Hg.out i h1 (by omega)))
              go_wp2_with (refine wpList_storeRowP rfl 23 _ _ rfl gR #[.int .i64 0, .int .i64 0, .int .i64 0] rfl rfl _ _ bR5 (by kernel_rfl) rfl (by simp [Value.oneCell']) ?_; intro wE bE hgE)
              have BE := B5.grown hgE B5.size (fun k hk => by injection hk with hk; subst hk; exact hgR)
              have q_0 := bE.cell 0
              have q_1 := bE.cell 1
              have q_2 := bE.cell 2
              simp only [List.getElem?_toArray, List.getElem?_cons_zero, List.getElem?_cons_succ] at q_0 q_1 q_2
              refine bodyPost_ret (v := .tuple #[.agg #[.int .i64 0, .int .i64 0, .int .i64 0], .bool false]) (by simp [results, Tryd.results4, go_sem, q_0, q_1, q_2]) rfl ⟨by unfold paV; rw [Hn.out.1, Hn.out.2], BE⟩
end Go.Proofs.YtklgbjgjojelbaaDoor
