/- FlipAt of the program: the walk. Conditions: sizes. -/
import Derived.Test.YtkbndchgmokabaaFlipI
import Derived.Test.YtkbndchgmokabaaSortI
namespace Go.Proofs.Ytkbndchgmokabaa
open Go.ChangeShapes Go.WideShapes Go.ChangeAt Go.RowKit
set_option linter.unusedVariables false
set_option linter.unusedSimpArgs false

/-- append of one element, the new cell's place reckoned. -/
theorem wpList_app1b {P : Program} {ops : Array Oper} {rest : List Oper} {o : Oper} {a : Act} {Q : Exit → Act → World → Prop} {α : Type} {t E : TypeId} {z : Value} {size bytes : Nat} (R : Row P t E z size bytes)
    {enc : α → List Value} (henc : ∀ x, (enc x).length = size) (h1 : ∀ x, ∀ u ∈ enc x, u.oneCell' = true)
    {W0 w : World} (hbel : Below W0.heap.size W0 w) {v : Value} {l : List α} (hown : OwnL E size enc W0.heap.size w v l) (y : α)
    (hlen : (l.length + 1) * bytes ≤ 140737488355328) (hlen2 : l.length + 1 ≤ maxLen) {g : Nat} (hg : g = w.heap.size)
    (hgd : o.guard = none) (s x : Operand) (ho : o.op = .call { callee := .builtin .append, args := #[s, x], argTypes := #[t, t] })
    (hs : a.eval s = v) (hx : a.eval x = .slice (some ⟨g, 0, none⟩) 1 1)
    (h : ∀ v' w', OwnL E size enc W0.heap.size w' v' (l ++ [y]) → Below W0.heap.size W0 w' → (w.alloc (.cells (enc y).toArray E)).grownBy w' v.ownBlock → (v'.ownBlock = v.ownBlock ∨ v'.ownBlock = some (w.heap.size + 1)) → wpList P ops Q rest (a.put o.dst v') w') :
    wpList P ops Q (o :: rest) a (w.alloc (.cells (enc y).toArray E)) := by
  subst hg
  exact wpList_app1 R henc h1 hbel hown y hlen hlen2 hgd s x ho hs hx h
/-- The call returned a slice of its own and a bool, and wrote nothing that was there. -/
def RetOwnB {α : Type} (E : TypeId) (size : Nat) (enc : α → List Value) (l : List α) (b : Bool) (w : World) (e : Ending) (w' : World) : Prop :=
  ∃ A c, e = .returned (.tuple #[.slice A l.length c, .bool b]) ∧ OwnL E size enc w.heap.size w' (.slice A l.length c) l ∧ Below w.heap.size w w'
theorem wpList_storeRow {P : Program} {ops : Array Oper} {rest : List Oper} {o : Oper} {a : Act} {w : World} {Q : Exit → Act → World → Prop} (hgd : o.guard = none) (ty : TypeId) (x y : Operand) (ho : o.op = .store ty x y)
    (g : Nat) (cells : Array Value) (hx : a.eval x = .pointer (some ⟨g, 0, none⟩)) (hy : a.eval y = .agg cells)
    (t : TypeId) (old : Array Value) (hg : Blk w g t old) (hi : (P.info? ty).map (·.size) = some cells.size) (hold : old.size = cells.size) (h1 : cells.all (·.oneCell') = true)
    (h : ∀ w', Blk w' g t cells → w.grownBy w' (some g) → wpList P ops Q rest (a.put o.dst undef) w') : wpList P ops Q (o :: rest) a w :=
  wpList_store_row hgd ty x y ho g cells hx hy t old hg hi hold h1 (h _ (setRow_heap w g old cells t (0, 0) hg) (gr_row cells))
theorem kind_inn {l : List Dm} {c : Cl} (h : ¬ kindOf l c = 0) : inFlip c = true := by
  rcases q : inFlip c with _ | _
  · exact absurd (kind_out q) h
  · rfl
theorem ne_ways {a b : Int} {c : Bool} {x y : Int} {d : Bool} (h : ¬ ((a, b, c) : Dm) = (x, y, d)) : (¬ a = x) ∨ (x = a ∧ ¬ b = y) ∨ (x = a ∧ y = b ∧ ¬ c = d) := by
  by_cases h1 : a = x
  · by_cases h2 : b = y
    · exact .inr (.inr ⟨h1.symm, h2.symm, fun h3 => h (by rw [h1, h2, h3])⟩)
    · exact .inr (.inl ⟨h1.symm, h2⟩)
  · exact .inl h1
theorem own_two (W : World) (a b : Dm) (B : Nat) (hB : B ≤ W.heap.size) : OwnL 73 3 eDom B (W.alloc (.cells #[.int .i64 a.1, .int .i64 a.2.1, .bool a.2.2, .int .i64 b.1, .int .i64 b.2.1, .bool b.2.2] 73)) (.slice (some ⟨W.heap.size, 0, none⟩) 2 2) [a, b] := by
  have := World.ownsRow_lit (e := 73) (size := 3) W #[.int .i64 a.1, .int .i64 a.2.1, .bool a.2.2, .int .i64 b.1, .int .i64 b.2.1, .bool b.2.2] 2 (Nat.le_refl _) (by simp [maxLen]) (by simp)
  exact Go.Joins.ownsRow_le this hB

set_option maxHeartbeats 8000000 in
set_option maxRecDepth 100000 in
theorem flipAtI_any (v : Value) (l : List Dm) (x y : Int) (w : World) (h : Rd 3 RDom w v l) (hl : Small l.length) : Calls Try.prog 174 #[v, .agg #[.int .i64 x, .int .i64 y]] w (RetOwnB 73 3 eDom (flipAt l (x, y)).1 (flipAt l (x, y)).2 w) := by
  obtain ⟨A, c, rfl, hc, hm⟩ := h.form
  have hA := (Below.refl w.heap.size w).al (.cells #[.int .i64 x, .int .i64 y] 70)
  have bC := Blk.new_ w 70 #[.int .i64 x, .int .i64 y]
  by_cases hk : kindOf l (x, y) = 0
  · have e : flipAt l (x, y) = (l, false) := by unfold flipAt; rw [if_pos hk]
    rw [e]
    have Hc : Hid (decide (kindOf l (x, y) ≠ 0) = false) := Lib.hid (by simp [hk])
    clear hk e
    go_enter Try.func174, Try.ntmps174
    go_wp2_with fail
    refine (canFlipI_any _ l x y _ (h.below RE.stays hA)).mono ?_
    rintro e w1 ⟨rfl, hb1⟩
    rw [Hc.out]
    have B1 := hA.tr hb1
    go_wp2_with fail
    refine (copyDomsI_any _ l _ (h.below RE.stays B1) hl).mono ?_
    rintro e w2 ⟨A2, c2, rfl, own2, hb2⟩
    go_wp2
    go_ret2
    exact ⟨A2, c2, rfl, own2.mono B1.size, B1.tr hb2⟩
  · have e : flipAt l (x, y) = (flipTo l (x, y), true) := by unfold flipAt; rw [if_neg hk]
    rw [e]
    have hinf := kind_inn hk
    have Hc : Hid (decide (kindOf l (x, y) ≠ 0) = true) := Lib.hid (by simp [hk])
    have Hinf := Lib.hid hinf; clear hinf e
    have hkv : kindOf l (x, y) = if hasBoth l (accOf (x, y)) then 1 else if hasBoth l (dwnOf (x, y)) then 2 else 0 := by unfold kindOf; rw [Hinf.out, if_pos rfl]
    have hab : hasBoth l (accOf (x, y)) = (l.contains (x, y, false) && l.contains (x, y + 1, false)) := rfl
    obtain ⟨a1, ha1⟩ : ∃ b, b = l.contains (x, y, false) := ⟨_, rfl⟩
    obtain ⟨a2, ha2⟩ : ∃ b, b = l.contains (x, y + 1, false) := ⟨_, rfl⟩
    rw [← ha1, ← ha2] at hab
    have Ha1 := Lib.hid ha1.symm; have Ha2 := Lib.hid ha2.symm; have Hk := Lib.hid hk; have Hkv := Lib.hid hkv; have Hab := Lib.hid hab
    clear ha1 ha2 hk hkv hab
    go_enter Try.func174, Try.ntmps174
    have zc0 := bC.cell 0
    go_wp2_with fail
    refine (canFlipI_any _ l x y _ (h.below RE.stays hA)).mono ?_
    rintro e w1 ⟨rfl, hb1⟩
    rw [Hc.out]
    have B1 := hA.tr hb1
    clear zc0
    have bC1 := bC.bl hb1
    have zc_0 := bC1.cell 0
    have zc_1 := bC1.cell 1
    simp only [List.getElem?_toArray, List.getElem?_cons_zero, List.getElem?_cons_succ] at zc_0 zc_1
    go_wp2_with fail
    refine (pairsI_yes x y _ Hinf.out).mono ?_
    rintro e w3 ⟨rfl, hb3⟩
    have B3 := ((B1.tr hb3).al (.cells #[.int .i64 x, .int .i64 y, .bool false, .int .i64 x, .int .i64 (y + 1), .bool false] 181)).al (.cells #[.int .i64 x, .int .i64 y, .bool true, .int .i64 (x + 1), .int .i64 y, .bool true] 181)
    have b1' := (Blk.new_ w3 181 #[.int .i64 x, .int .i64 y, .bool false, .int .i64 x, .int .i64 (y + 1), .bool false]).alloc (.cells #[.int .i64 x, .int .i64 y, .bool true, .int .i64 (x + 1), .int .i64 y, .bool true] 181)
    have b2' := Blk.new2 (w3.alloc (.cells #[.int .i64 x, .int .i64 y, .bool false, .int .i64 x, .int .i64 (y + 1), .bool false] 181)) 181 #[.int .i64 x, .int .i64 y, .bool true, .int .i64 (x + 1), .int .i64 y, .bool true] (w3.heap.size + 1) (by simp)
    clear zc_0 zc_1 bC1
    have u_0 := b1'.cell 0
    have u_1 := b1'.cell 1
    have u_2 := b1'.cell 2
    have u_3 := b1'.cell 3
    have u_4 := b1'.cell 4
    have u_5 := b1'.cell 5
    simp only [List.getElem?_toArray, List.getElem?_cons_zero, List.getElem?_cons_succ] at u_0 u_1 u_2 u_3 u_4 u_5
    have t_0 := b2'.cell 0
    have t_1 := b2'.cell 1
    have t_2 := b2'.cell 2
    have t_3 := b2'.cell 3
    have t_4 := b2'.cell 4
    have t_5 := b2'.cell 5
    simp only [List.getElem?_toArray, List.getElem?_cons_zero, List.getElem?_cons_succ] at t_0 t_1 t_2 t_3 t_4 t_5
    go_wp2_with fail
    refine (hasDomI_any _ l x y false _ (h.below RE.stays B3)).mono ?_
    rintro e w4 ⟨rfl, hb4⟩
    rw [Ha1.out]
    have B4 := B3.tr hb4
    clear u_0 u_1 u_2 u_3 u_4 u_5 t_0 t_1 t_2 t_3 t_4 t_5
    have b1' := b1'.bl hb4
    have b2' := b2'.bl hb4
    have u_0 := b1'.cell 0
    have u_1 := b1'.cell 1
    have u_2 := b1'.cell 2
    have u_3 := b1'.cell 3
    have u_4 := b1'.cell 4
    have u_5 := b1'.cell 5
    simp only [List.getElem?_toArray, List.getElem?_cons_zero, List.getElem?_cons_succ] at u_0 u_1 u_2 u_3 u_4 u_5
    have t_0 := b2'.cell 0
    have t_1 := b2'.cell 1
    have t_2 := b2'.cell 2
    have t_3 := b2'.cell 3
    have t_4 := b2'.cell 4
    have t_5 := b2'.cell 5
    simp only [List.getElem?_toArray, List.getElem?_cons_zero, List.getElem?_cons_succ] at t_0 t_1 t_2 t_3 t_4 t_5
    rcases a1 with _ | _
    · skip
      have hkk : kindOf l (x, y) = 2 := by
        have h0 := Hk.out
        have h1 := Hkv.out
        have h2 : hasBoth l (accOf (x, y)) = false := by rw [Hab.out]; rfl
        rw [h2] at h1
        simp only [Bool.false_eq_true, if_false] at h1
        by_cases q : hasBoth l (dwnOf (x, y)) = true
        · rw [h1, if_pos q]
        · rw [if_neg q] at h1; exact absurd h1 h0
      obtain ⟨g7, hg7⟩ : ∃ g, g = w3.heap.size + 1 := ⟨_, rfl⟩
      obtain ⟨g6, hg6⟩ : ∃ g, g = w3.heap.size := ⟨_, rfl⟩
      have hg67 : g6 ≠ g7 := by omega
      have hg60 : w.heap.size ≤ g6 := by have := (B1.tr hb3).size; omega
      have hg70 : w.heap.size ≤ g7 := by omega
      rw [← hg7] at b2' ⊢
      rw [← hg6] at b1' ⊢
      clear hg6 hg7 u_0 u_1 u_2 u_3 u_4 u_5 t_0 t_1 t_2 t_3 t_4 t_5
      have u_0 := b1'.cell 0
      have u_1 := b1'.cell 1
      have u_2 := b1'.cell 2
      have u_3 := b1'.cell 3
      have u_4 := b1'.cell 4
      have u_5 := b1'.cell 5
      simp only [List.getElem?_toArray, List.getElem?_cons_zero, List.getElem?_cons_succ] at u_0 u_1 u_2 u_3 u_4 u_5
      have t_0 := b2'.cell 0
      have t_1 := b2'.cell 1
      have t_2 := b2'.cell 2
      have t_3 := b2'.cell 3
      have t_4 := b2'.cell 4
      have t_5 := b2'.cell 5
      simp only [List.getElem?_toArray, List.getElem?_cons_zero, List.getElem?_cons_succ] at t_0 t_1 t_2 t_3 t_4 t_5
      go_wp2_with (first | (refine wpList_storeRow rfl 181 _ _ rfl g6 #[.int .i64 x, .int .i64 y, .bool true, .int .i64 (x + 1), .int .i64 y, .bool true] rfl rfl _ _ b1' (by kernel_rfl) rfl (by simp [Value.oneCell']) ?_; intro wS hbS hgS; have BS := B4.grown hgS B4.size (fun k hk => by injection hk with hk; omega); have b2' := b2'.grown hgS (by simp; omega)) | (refine wpList_storeRow rfl 181 _ _ rfl g7 #[.int .i64 x, .int .i64 y, .bool false, .int .i64 x, .int .i64 (y + 1), .bool false] rfl rfl _ _ b2' (by kernel_rfl) rfl (by simp [Value.oneCell']) ?_; intro wT hbT hgT; have b1s := hbS.grown hgT (by simp; omega); have BT := BS.grown hgT BS.size (fun k hk => by injection hk with hk; omega); clear u_0 u_1 u_2 u_3 u_4 u_5 t_0 t_1 t_2 t_3 t_4 t_5; have u_0 := b1s.cell 0; have u_1 := b1s.cell 1; have u_2 := b1s.cell 2; have u_3 := b1s.cell 3; have u_4 := b1s.cell 4; have u_5 := b1s.cell 5; simp only [List.getElem?_toArray, List.getElem?_cons_zero, List.getElem?_cons_succ] at u_0 u_1 u_2 u_3 u_4 u_5; have t_0 := hbT.cell 0; have t_1 := hbT.cell 1; have t_2 := hbT.cell 2; have t_3 := hbT.cell 3; have t_4 := hbT.cell 4; have t_5 := hbT.cell 5; simp only [List.getElem?_toArray, List.getElem?_cons_zero, List.getElem?_cons_succ] at t_0 t_1 t_2 t_3 t_4 t_5))
      obtain ⟨gx, hgx⟩ : ∃ n : Int, n = x := ⟨_, rfl⟩
      obtain ⟨gy, hgy⟩ : ∃ n : Int, n = y := ⟨_, rfl⟩
      obtain ⟨gb, hgb⟩ : ∃ n : Bool, n = true := ⟨_, rfl⟩
      obtain ⟨kx, hkx⟩ : ∃ n : Int, n = x + 1 := ⟨_, rfl⟩
      obtain ⟨ky, hky⟩ : ∃ n : Int, n = y := ⟨_, rfl⟩
      obtain ⟨kb, hkb⟩ : ∃ n : Bool, n = true := ⟨_, rfl⟩
      have b6 : Blk wT g6 181 #[.int .i64 gx, .int .i64 gy, .bool gb, .int .i64 kx, .int .i64 ky, .bool kb] := by rw [hgx, hgy, hgb, hkx, hky, hkb]; exact b1s
      have HGN : Hid (goneOf (kindOf l (x, y)) (x, y) = ((gx, gy, gb), (kx, ky, kb)) ∧ nextOf (kindOf l (x, y)) (x, y) = ((x, y, false), (x, y + 1, false))) := Lib.hid (by rw [hkk, hgx, hgy, hgb, hkx, hky, hkb]; exact ⟨rfl, rfl⟩)
      clear hgx hgy hgb hkx hky hkb hkk b1' b2'
      clear u_0 u_1 u_2 u_3 u_4 u_5 t_0 t_1 t_2 t_3 t_4 t_5
      have own0 : OwnL 73 3 eDom w.heap.size (wT.alloc (.cells #[.int .i64 x, .int .i64 y, .bool false, .int .i64 x, .int .i64 (y + 1), .bool false] 73)) (.slice (some ⟨wT.heap.size, 0, none⟩) 2 2) [((x, y, false) : Dm), (x, (y + 1), false)] := own_two _ (x, y, false) (x, (y + 1), false) _ BT.size
      have b60 := b6.alloc (.cells #[.int .i64 x, .int .i64 y, .bool false, .int .i64 x, .int .i64 (y + 1), .bool false] 73)
      have B0 := BT.al (.cells #[.int .i64 x, .int .i64 y, .bool false, .int .i64 x, .int .i64 (y + 1), .bool false] 73)
      go_wp2
      go_loopw [8, 43] (fun s8 s43 wr => ∃ (k : Nat) (out : List Dm) (A8 : Option Addr) (c8 : Nat), k ≤ l.length ∧ out.length ≤ k + 2 ∧ s43 = .int .i64 k ∧ s8 = .slice A8 out.length c8 ∧ Hid (out ++ (l.drop k).filter (keepD ((gx, gy, gb), (kx, ky, kb))) = flipPre l ((gx, gy, gb), (kx, ky, kb)) ((x, y, false), (x, (y + 1), false))) ∧ OwnL 73 3 eDom w.heap.size wr (.slice A8 out.length c8) out ∧ Blk wr g6 181 #[.int .i64 gx, .int .i64 gy, .bool gb, .int .i64 kx, .int .i64 ky, .bool kb] ∧ Below w.heap.size w wr) (fun _ i _ => l.length - (intOf i).toNat)
      case atStart => exact ⟨0, [((x, y, false) : Dm), (x, (y + 1), false)], _, _, Nat.zero_le _, by simp, rfl, rfl, Lib.hid rfl, own0, b60, B0⟩
      case round =>
        obtain ⟨k, out, A8, c8, hk, hol, rfl, rfl, Hg, hown, hb6, hbel⟩ := hrel
        clear own0 b60 B0
        by_cases hlt : k < l.length
        · obtain ⟨b, off, rfl, hb, q1, q2, q3⟩ := (h.below RE.stays hbel).atDom hlt
          have hg := Hg.out
          rw [List.drop_eq_getElem_cons hlt, List.filter_cons] at hg
          obtain ⟨d, hd⟩ : ∃ d, d = l[k] := ⟨_, rfl⟩
          rw [← hd] at q1 q2 q3 hg
          obtain ⟨ex, ey, ed⟩ := d
          simp only at q1 q2 q3
          have u_0 := hb6.cell 0
          have u_1 := hb6.cell 1
          have u_2 := hb6.cell 2
          have u_3 := hb6.cell 3
          have u_4 := hb6.cell 4
          have u_5 := hb6.cell 5
          simp only [List.getElem?_toArray, List.getElem?_cons_zero, List.getElem?_cons_succ] at u_0 u_1 u_2 u_3 u_4 u_5
          have hl6 := hb6.lt
          have hn6 : g6 ≠ wr.heap.size := by omega
          have B1 := hbel.al (.cells #[.int .i64 ex, .int .i64 ey, .bool ed] 73)
          have own1 := hown.alloc (.cells #[.int .i64 ex, .int .i64 ey, .bool ed] 73)
          have b61 := hb6.alloc (.cells #[.int .i64 ex, .int .i64 ey, .bool ed] 73)
          have H8 : Hid ((out.length + 1) * 24 ≤ 140737488355328) := Lib.hid (by unfold Small at hl; omega)
          have HM : Hid (out.length + 1 ≤ maxLen) := Lib.hid (by unfold Small at hl; unfold maxLen; omega)
          clear hd
          by_cases e1 : ((ex, ey, ed) : Dm) = (gx, gy, gb)
          · rw [if_neg (by rw [e1]; simp [keepD])] at hg
            have Hg2 := Lib.hid hg; clear hg
            simp only [Prod.mk.injEq] at e1
            obtain ⟨rfl, rfl, rfl⟩ := e1
            go_wp2
            go_roundw
            case rel => exact ⟨k + 1, out, A8, c8, by omega, by omega, by go_num, rfl, Hg2, own1, b61, B1⟩
            case measure => simp [intOf]; omega
          · by_cases e2 : ((ex, ey, ed) : Dm) = (kx, ky, kb)
            · rw [if_neg (by rw [e2]; simp [keepD])] at hg
              have Hg2 := Lib.hid hg; clear hg
              simp only [Prod.mk.injEq] at e2
              obtain ⟨rfl, rfl, rfl⟩ := e2
              rcases ne_ways e1 with p | ⟨rfl, p⟩ | ⟨rfl, rfl, p⟩
              · clear e1
                go_wp2
                go_roundw
                case rel => exact ⟨k + 1, out, A8, c8, by omega, by omega, by go_num, rfl, Hg2, own1, b61, B1⟩
                case measure => simp [intOf]; omega
              · clear e1
                go_wp2
                go_roundw
                case rel => exact ⟨k + 1, out, A8, c8, by omega, by omega, by go_num, rfl, Hg2, own1, b61, B1⟩
                case measure => simp [intOf]; omega
              · clear e1
                go_wp2
                go_roundw
                case rel => exact ⟨k + 1, out, A8, c8, by omega, by omega, by go_num, rfl, Hg2, own1, b61, B1⟩
                case measure => simp [intOf]; omega
            · rw [if_pos (by simp only [keepD, decide_eq_false e1, decide_eq_false e2]; rfl), ← List.singleton_append, ← List.append_assoc] at hg
              have Hg2 := Lib.hid hg; clear hg
              rcases ne_ways e1 with p | ⟨rfl, p⟩ | ⟨rfl, rfl, p⟩ <;> rcases ne_ways e2 with q | ⟨rfl, q⟩ | ⟨rfl, rfl, q⟩
              all_goals
                clear e1 e2
                go_wp2_with (at_builtin; go_must (first | (refine wpList_app1b (enc := eDom) rowDom lenDom oneDom B1 own1 ((ex, ey, ed) : Dm) H8.out HM.out (by simp) rfl _ _ rfl rfl rfl ?_) | (refine wpList_app1b (enc := eDom) rowDom lenDom oneDom B1 own1 ((ex, gy, ed) : Dm) H8.out HM.out (by simp) rfl _ _ rfl rfl rfl ?_) | (refine wpList_app1b (enc := eDom) rowDom lenDom oneDom B1 own1 ((ex, ky, ed) : Dm) H8.out HM.out (by simp) rfl _ _ rfl rfl rfl ?_) | (refine wpList_app1b (enc := eDom) rowDom lenDom oneDom B1 own1 ((gx, ey, ed) : Dm) H8.out HM.out (by simp) rfl _ _ rfl rfl rfl ?_) | (refine wpList_app1b (enc := eDom) rowDom lenDom oneDom B1 own1 ((gx, gy, ed) : Dm) H8.out HM.out (by simp) rfl _ _ rfl rfl rfl ?_) | (refine wpList_app1b (enc := eDom) rowDom lenDom oneDom B1 own1 ((gx, ky, ed) : Dm) H8.out HM.out (by simp) rfl _ _ rfl rfl rfl ?_) | (refine wpList_app1b (enc := eDom) rowDom lenDom oneDom B1 own1 ((kx, ey, ed) : Dm) H8.out HM.out (by simp) rfl _ _ rfl rfl rfl ?_) | (refine wpList_app1b (enc := eDom) rowDom lenDom oneDom B1 own1 ((kx, gy, ed) : Dm) H8.out HM.out (by simp) rfl _ _ rfl rfl rfl ?_) | (refine wpList_app1b (enc := eDom) rowDom lenDom oneDom B1 own1 ((kx, ky, ed) : Dm) H8.out HM.out (by simp) rfl _ _ rfl rfl rfl ?_)); intro v4 w4 own4 hb4 hg4 hd4; obtain ⟨A4, c4, rfl, hc4, hm4⟩ := own4.form)
                have b64 := (b61.alloc _).grown hg4 (fun e => (own1.apart b61 (by decide)) e.symm)
                go_roundw
                case rel => exact ⟨k + 1, _, A4, c4, by omega, by simp; omega, by go_num, by simp, Hg2, own4, b64, hb4⟩
                case measure => simp [intOf]; omega
        · obtain rfl : k = l.length := by omega
          have hg := Hg.out
          rw [List.drop_of_length_le (Nat.le_refl _), List.filter_nil, List.append_nil] at hg
          have Hout := Lib.hid hg; clear hg
          go_wp2_with fail
          refine (sortI_any _ out _ (hown.rd lenDom (by decide))).mono ?_
          rintro e w70 ⟨A70, c70, rfl, own70, hb70⟩
          go_wp2
          go_ret2
          have e9 : sortD out = flipTo l (x, y) := by rw [Hout.out]; unfold flipTo; rw [HGN.out.1, HGN.out.2]
          rw [e9] at own70 ⊢
          exact ⟨A70, c70, rfl, own70.mono hbel.size, hbel.tr hb70⟩
    · skip
      go_wp2_with fail
      refine (hasDomI_any _ l x (y + 1) false _ (h.below RE.stays B4)).mono ?_
      rintro e w5 ⟨rfl, hb5⟩
      rw [Ha2.out]
      have B5 := B4.tr hb5
      clear u_0 u_1 u_2 u_3 u_4 u_5 t_0 t_1 t_2 t_3 t_4 t_5
      have b1' := b1'.bl hb5
      have b2' := b2'.bl hb5
      have u_0 := b1'.cell 0
      have u_1 := b1'.cell 1
      have u_2 := b1'.cell 2
      have u_3 := b1'.cell 3
      have u_4 := b1'.cell 4
      have u_5 := b1'.cell 5
      simp only [List.getElem?_toArray, List.getElem?_cons_zero, List.getElem?_cons_succ] at u_0 u_1 u_2 u_3 u_4 u_5
      have t_0 := b2'.cell 0
      have t_1 := b2'.cell 1
      have t_2 := b2'.cell 2
      have t_3 := b2'.cell 3
      have t_4 := b2'.cell 4
      have t_5 := b2'.cell 5
      simp only [List.getElem?_toArray, List.getElem?_cons_zero, List.getElem?_cons_succ] at t_0 t_1 t_2 t_3 t_4 t_5
      rcases a2 with _ | _
      · skip
        have hkk : kindOf l (x, y) = 2 := by
          have h0 := Hk.out
          have h1 := Hkv.out
          have h2 : hasBoth l (accOf (x, y)) = false := by rw [Hab.out]; rfl
          rw [h2] at h1
          simp only [Bool.false_eq_true, if_false] at h1
          by_cases q : hasBoth l (dwnOf (x, y)) = true
          · rw [h1, if_pos q]
          · rw [if_neg q] at h1; exact absurd h1 h0
        obtain ⟨g7, hg7⟩ : ∃ g, g = w3.heap.size + 1 := ⟨_, rfl⟩
        obtain ⟨g6, hg6⟩ : ∃ g, g = w3.heap.size := ⟨_, rfl⟩
        have hg67 : g6 ≠ g7 := by omega
        have hg60 : w.heap.size ≤ g6 := by have := (B1.tr hb3).size; omega
        have hg70 : w.heap.size ≤ g7 := by omega
        rw [← hg7] at b2' ⊢
        rw [← hg6] at b1' ⊢
        clear hg6 hg7 u_0 u_1 u_2 u_3 u_4 u_5 t_0 t_1 t_2 t_3 t_4 t_5
        have u_0 := b1'.cell 0
        have u_1 := b1'.cell 1
        have u_2 := b1'.cell 2
        have u_3 := b1'.cell 3
        have u_4 := b1'.cell 4
        have u_5 := b1'.cell 5
        simp only [List.getElem?_toArray, List.getElem?_cons_zero, List.getElem?_cons_succ] at u_0 u_1 u_2 u_3 u_4 u_5
        have t_0 := b2'.cell 0
        have t_1 := b2'.cell 1
        have t_2 := b2'.cell 2
        have t_3 := b2'.cell 3
        have t_4 := b2'.cell 4
        have t_5 := b2'.cell 5
        simp only [List.getElem?_toArray, List.getElem?_cons_zero, List.getElem?_cons_succ] at t_0 t_1 t_2 t_3 t_4 t_5
        go_wp2_with (first | (refine wpList_storeRow rfl 181 _ _ rfl g6 #[.int .i64 x, .int .i64 y, .bool true, .int .i64 (x + 1), .int .i64 y, .bool true] rfl rfl _ _ b1' (by kernel_rfl) rfl (by simp [Value.oneCell']) ?_; intro wS hbS hgS; have BS := B5.grown hgS B5.size (fun k hk => by injection hk with hk; omega); have b2' := b2'.grown hgS (by simp; omega)) | (refine wpList_storeRow rfl 181 _ _ rfl g7 #[.int .i64 x, .int .i64 y, .bool false, .int .i64 x, .int .i64 (y + 1), .bool false] rfl rfl _ _ b2' (by kernel_rfl) rfl (by simp [Value.oneCell']) ?_; intro wT hbT hgT; have b1s := hbS.grown hgT (by simp; omega); have BT := BS.grown hgT BS.size (fun k hk => by injection hk with hk; omega); clear u_0 u_1 u_2 u_3 u_4 u_5 t_0 t_1 t_2 t_3 t_4 t_5; have u_0 := b1s.cell 0; have u_1 := b1s.cell 1; have u_2 := b1s.cell 2; have u_3 := b1s.cell 3; have u_4 := b1s.cell 4; have u_5 := b1s.cell 5; simp only [List.getElem?_toArray, List.getElem?_cons_zero, List.getElem?_cons_succ] at u_0 u_1 u_2 u_3 u_4 u_5; have t_0 := hbT.cell 0; have t_1 := hbT.cell 1; have t_2 := hbT.cell 2; have t_3 := hbT.cell 3; have t_4 := hbT.cell 4; have t_5 := hbT.cell 5; simp only [List.getElem?_toArray, List.getElem?_cons_zero, List.getElem?_cons_succ] at t_0 t_1 t_2 t_3 t_4 t_5))
        obtain ⟨gx, hgx⟩ : ∃ n : Int, n = x := ⟨_, rfl⟩
        obtain ⟨gy, hgy⟩ : ∃ n : Int, n = y := ⟨_, rfl⟩
        obtain ⟨gb, hgb⟩ : ∃ n : Bool, n = true := ⟨_, rfl⟩
        obtain ⟨kx, hkx⟩ : ∃ n : Int, n = x + 1 := ⟨_, rfl⟩
        obtain ⟨ky, hky⟩ : ∃ n : Int, n = y := ⟨_, rfl⟩
        obtain ⟨kb, hkb⟩ : ∃ n : Bool, n = true := ⟨_, rfl⟩
        have b6 : Blk wT g6 181 #[.int .i64 gx, .int .i64 gy, .bool gb, .int .i64 kx, .int .i64 ky, .bool kb] := by rw [hgx, hgy, hgb, hkx, hky, hkb]; exact b1s
        have HGN : Hid (goneOf (kindOf l (x, y)) (x, y) = ((gx, gy, gb), (kx, ky, kb)) ∧ nextOf (kindOf l (x, y)) (x, y) = ((x, y, false), (x, y + 1, false))) := Lib.hid (by rw [hkk, hgx, hgy, hgb, hkx, hky, hkb]; exact ⟨rfl, rfl⟩)
        clear hgx hgy hgb hkx hky hkb hkk b1' b2'
        clear u_0 u_1 u_2 u_3 u_4 u_5 t_0 t_1 t_2 t_3 t_4 t_5
        have own0 : OwnL 73 3 eDom w.heap.size (wT.alloc (.cells #[.int .i64 x, .int .i64 y, .bool false, .int .i64 x, .int .i64 (y + 1), .bool false] 73)) (.slice (some ⟨wT.heap.size, 0, none⟩) 2 2) [((x, y, false) : Dm), (x, (y + 1), false)] := own_two _ (x, y, false) (x, (y + 1), false) _ BT.size
        have b60 := b6.alloc (.cells #[.int .i64 x, .int .i64 y, .bool false, .int .i64 x, .int .i64 (y + 1), .bool false] 73)
        have B0 := BT.al (.cells #[.int .i64 x, .int .i64 y, .bool false, .int .i64 x, .int .i64 (y + 1), .bool false] 73)
        go_wp2
        go_loopw [8, 43] (fun s8 s43 wr => ∃ (k : Nat) (out : List Dm) (A8 : Option Addr) (c8 : Nat), k ≤ l.length ∧ out.length ≤ k + 2 ∧ s43 = .int .i64 k ∧ s8 = .slice A8 out.length c8 ∧ Hid (out ++ (l.drop k).filter (keepD ((gx, gy, gb), (kx, ky, kb))) = flipPre l ((gx, gy, gb), (kx, ky, kb)) ((x, y, false), (x, (y + 1), false))) ∧ OwnL 73 3 eDom w.heap.size wr (.slice A8 out.length c8) out ∧ Blk wr g6 181 #[.int .i64 gx, .int .i64 gy, .bool gb, .int .i64 kx, .int .i64 ky, .bool kb] ∧ Below w.heap.size w wr) (fun _ i _ => l.length - (intOf i).toNat)
        case atStart => exact ⟨0, [((x, y, false) : Dm), (x, (y + 1), false)], _, _, Nat.zero_le _, by simp, rfl, rfl, Lib.hid rfl, own0, b60, B0⟩
        case round =>
          obtain ⟨k, out, A8, c8, hk, hol, rfl, rfl, Hg, hown, hb6, hbel⟩ := hrel
          clear own0 b60 B0
          by_cases hlt : k < l.length
          · obtain ⟨b, off, rfl, hb, q1, q2, q3⟩ := (h.below RE.stays hbel).atDom hlt
            have hg := Hg.out
            rw [List.drop_eq_getElem_cons hlt, List.filter_cons] at hg
            obtain ⟨d, hd⟩ : ∃ d, d = l[k] := ⟨_, rfl⟩
            rw [← hd] at q1 q2 q3 hg
            obtain ⟨ex, ey, ed⟩ := d
            simp only at q1 q2 q3
            have u_0 := hb6.cell 0
            have u_1 := hb6.cell 1
            have u_2 := hb6.cell 2
            have u_3 := hb6.cell 3
            have u_4 := hb6.cell 4
            have u_5 := hb6.cell 5
            simp only [List.getElem?_toArray, List.getElem?_cons_zero, List.getElem?_cons_succ] at u_0 u_1 u_2 u_3 u_4 u_5
            have hl6 := hb6.lt
            have hn6 : g6 ≠ wr.heap.size := by omega
            have B1 := hbel.al (.cells #[.int .i64 ex, .int .i64 ey, .bool ed] 73)
            have own1 := hown.alloc (.cells #[.int .i64 ex, .int .i64 ey, .bool ed] 73)
            have b61 := hb6.alloc (.cells #[.int .i64 ex, .int .i64 ey, .bool ed] 73)
            have H8 : Hid ((out.length + 1) * 24 ≤ 140737488355328) := Lib.hid (by unfold Small at hl; omega)
            have HM : Hid (out.length + 1 ≤ maxLen) := Lib.hid (by unfold Small at hl; unfold maxLen; omega)
            clear hd
            by_cases e1 : ((ex, ey, ed) : Dm) = (gx, gy, gb)
            · rw [if_neg (by rw [e1]; simp [keepD])] at hg
              have Hg2 := Lib.hid hg; clear hg
              simp only [Prod.mk.injEq] at e1
              obtain ⟨rfl, rfl, rfl⟩ := e1
              go_wp2
              go_roundw
              case rel => exact ⟨k + 1, out, A8, c8, by omega, by omega, by go_num, rfl, Hg2, own1, b61, B1⟩
              case measure => simp [intOf]; omega
            · by_cases e2 : ((ex, ey, ed) : Dm) = (kx, ky, kb)
              · rw [if_neg (by rw [e2]; simp [keepD])] at hg
                have Hg2 := Lib.hid hg; clear hg
                simp only [Prod.mk.injEq] at e2
                obtain ⟨rfl, rfl, rfl⟩ := e2
                rcases ne_ways e1 with p | ⟨rfl, p⟩ | ⟨rfl, rfl, p⟩
                · clear e1
                  go_wp2
                  go_roundw
                  case rel => exact ⟨k + 1, out, A8, c8, by omega, by omega, by go_num, rfl, Hg2, own1, b61, B1⟩
                  case measure => simp [intOf]; omega
                · clear e1
                  go_wp2
                  go_roundw
                  case rel => exact ⟨k + 1, out, A8, c8, by omega, by omega, by go_num, rfl, Hg2, own1, b61, B1⟩
                  case measure => simp [intOf]; omega
                · clear e1
                  go_wp2
                  go_roundw
                  case rel => exact ⟨k + 1, out, A8, c8, by omega, by omega, by go_num, rfl, Hg2, own1, b61, B1⟩
                  case measure => simp [intOf]; omega
              · rw [if_pos (by simp only [keepD, decide_eq_false e1, decide_eq_false e2]; rfl), ← List.singleton_append, ← List.append_assoc] at hg
                have Hg2 := Lib.hid hg; clear hg
                rcases ne_ways e1 with p | ⟨rfl, p⟩ | ⟨rfl, rfl, p⟩ <;> rcases ne_ways e2 with q | ⟨rfl, q⟩ | ⟨rfl, rfl, q⟩
                all_goals
                  clear e1 e2
                  go_wp2_with (at_builtin; go_must (first | (refine wpList_app1b (enc := eDom) rowDom lenDom oneDom B1 own1 ((ex, ey, ed) : Dm) H8.out HM.out (by simp) rfl _ _ rfl rfl rfl ?_) | (refine wpList_app1b (enc := eDom) rowDom lenDom oneDom B1 own1 ((ex, gy, ed) : Dm) H8.out HM.out (by simp) rfl _ _ rfl rfl rfl ?_) | (refine wpList_app1b (enc := eDom) rowDom lenDom oneDom B1 own1 ((ex, ky, ed) : Dm) H8.out HM.out (by simp) rfl _ _ rfl rfl rfl ?_) | (refine wpList_app1b (enc := eDom) rowDom lenDom oneDom B1 own1 ((gx, ey, ed) : Dm) H8.out HM.out (by simp) rfl _ _ rfl rfl rfl ?_) | (refine wpList_app1b (enc := eDom) rowDom lenDom oneDom B1 own1 ((gx, gy, ed) : Dm) H8.out HM.out (by simp) rfl _ _ rfl rfl rfl ?_) | (refine wpList_app1b (enc := eDom) rowDom lenDom oneDom B1 own1 ((gx, ky, ed) : Dm) H8.out HM.out (by simp) rfl _ _ rfl rfl rfl ?_) | (refine wpList_app1b (enc := eDom) rowDom lenDom oneDom B1 own1 ((kx, ey, ed) : Dm) H8.out HM.out (by simp) rfl _ _ rfl rfl rfl ?_) | (refine wpList_app1b (enc := eDom) rowDom lenDom oneDom B1 own1 ((kx, gy, ed) : Dm) H8.out HM.out (by simp) rfl _ _ rfl rfl rfl ?_) | (refine wpList_app1b (enc := eDom) rowDom lenDom oneDom B1 own1 ((kx, ky, ed) : Dm) H8.out HM.out (by simp) rfl _ _ rfl rfl rfl ?_)); intro v4 w4 own4 hb4 hg4 hd4; obtain ⟨A4, c4, rfl, hc4, hm4⟩ := own4.form)
                  have b64 := (b61.alloc _).grown hg4 (fun e => (own1.apart b61 (by decide)) e.symm)
                  go_roundw
                  case rel => exact ⟨k + 1, _, A4, c4, by omega, by simp; omega, by go_num, by simp, Hg2, own4, b64, hb4⟩
                  case measure => simp [intOf]; omega
          · obtain rfl : k = l.length := by omega
            have hg := Hg.out
            rw [List.drop_of_length_le (Nat.le_refl _), List.filter_nil, List.append_nil] at hg
            have Hout := Lib.hid hg; clear hg
            go_wp2_with fail
            refine (sortI_any _ out _ (hown.rd lenDom (by decide))).mono ?_
            rintro e w70 ⟨A70, c70, rfl, own70, hb70⟩
            go_wp2
            go_ret2
            have e9 : sortD out = flipTo l (x, y) := by rw [Hout.out]; unfold flipTo; rw [HGN.out.1, HGN.out.2]
            rw [e9] at own70 ⊢
            exact ⟨A70, c70, rfl, own70.mono hbel.size, hbel.tr hb70⟩
      · have hkk : kindOf l (x, y) = 1 := by rw [Hkv.out, Hab.out]; rfl
        obtain ⟨g7, hg7⟩ : ∃ g, g = w3.heap.size + 1 := ⟨_, rfl⟩
        obtain ⟨g6, hg6⟩ : ∃ g, g = w3.heap.size := ⟨_, rfl⟩
        have hg67 : g6 ≠ g7 := by omega
        have hg60 : w.heap.size ≤ g6 := by have := (B1.tr hb3).size; omega
        have hg70 : w.heap.size ≤ g7 := by omega
        rw [← hg7] at b2' ⊢
        rw [← hg6] at b1' ⊢
        clear hg6 hg7 u_0 u_1 u_2 u_3 u_4 u_5 t_0 t_1 t_2 t_3 t_4 t_5
        have u_0 := b1'.cell 0
        have u_1 := b1'.cell 1
        have u_2 := b1'.cell 2
        have u_3 := b1'.cell 3
        have u_4 := b1'.cell 4
        have u_5 := b1'.cell 5
        simp only [List.getElem?_toArray, List.getElem?_cons_zero, List.getElem?_cons_succ] at u_0 u_1 u_2 u_3 u_4 u_5
        have t_0 := b2'.cell 0
        have t_1 := b2'.cell 1
        have t_2 := b2'.cell 2
        have t_3 := b2'.cell 3
        have t_4 := b2'.cell 4
        have t_5 := b2'.cell 5
        simp only [List.getElem?_toArray, List.getElem?_cons_zero, List.getElem?_cons_succ] at t_0 t_1 t_2 t_3 t_4 t_5
        go_wp2_with fail
        obtain ⟨gx, hgx⟩ : ∃ n : Int, n = x := ⟨_, rfl⟩
        obtain ⟨gy, hgy⟩ : ∃ n : Int, n = y := ⟨_, rfl⟩
        obtain ⟨gb, hgb⟩ : ∃ n : Bool, n = false := ⟨_, rfl⟩
        obtain ⟨kx, hkx⟩ : ∃ n : Int, n = x := ⟨_, rfl⟩
        obtain ⟨ky, hky⟩ : ∃ n : Int, n = y + 1 := ⟨_, rfl⟩
        obtain ⟨kb, hkb⟩ : ∃ n : Bool, n = false := ⟨_, rfl⟩
        have b6 : Blk w5 g6 181 #[.int .i64 gx, .int .i64 gy, .bool gb, .int .i64 kx, .int .i64 ky, .bool kb] := by rw [hgx, hgy, hgb, hkx, hky, hkb]; exact b1'
        have HGN : Hid (goneOf (kindOf l (x, y)) (x, y) = ((gx, gy, gb), (kx, ky, kb)) ∧ nextOf (kindOf l (x, y)) (x, y) = ((x, y, true), (x + 1, y, true))) := Lib.hid (by rw [hkk, hgx, hgy, hgb, hkx, hky, hkb]; exact ⟨rfl, rfl⟩)
        clear hgx hgy hgb hkx hky hkb hkk b1' b2'
        clear u_0 u_1 u_2 u_3 u_4 u_5 t_0 t_1 t_2 t_3 t_4 t_5
        have own0 : OwnL 73 3 eDom w.heap.size (w5.alloc (.cells #[.int .i64 x, .int .i64 y, .bool true, .int .i64 (x + 1), .int .i64 y, .bool true] 73)) (.slice (some ⟨w5.heap.size, 0, none⟩) 2 2) [((x, y, true) : Dm), ((x + 1), y, true)] := own_two _ (x, y, true) ((x + 1), y, true) _ B5.size
        have b60 := b6.alloc (.cells #[.int .i64 x, .int .i64 y, .bool true, .int .i64 (x + 1), .int .i64 y, .bool true] 73)
        have B0 := B5.al (.cells #[.int .i64 x, .int .i64 y, .bool true, .int .i64 (x + 1), .int .i64 y, .bool true] 73)
        go_wp2
        go_loopw [8, 43] (fun s8 s43 wr => ∃ (k : Nat) (out : List Dm) (A8 : Option Addr) (c8 : Nat), k ≤ l.length ∧ out.length ≤ k + 2 ∧ s43 = .int .i64 k ∧ s8 = .slice A8 out.length c8 ∧ Hid (out ++ (l.drop k).filter (keepD ((gx, gy, gb), (kx, ky, kb))) = flipPre l ((gx, gy, gb), (kx, ky, kb)) ((x, y, true), ((x + 1), y, true))) ∧ OwnL 73 3 eDom w.heap.size wr (.slice A8 out.length c8) out ∧ Blk wr g6 181 #[.int .i64 gx, .int .i64 gy, .bool gb, .int .i64 kx, .int .i64 ky, .bool kb] ∧ Below w.heap.size w wr) (fun _ i _ => l.length - (intOf i).toNat)
        case atStart => exact ⟨0, [((x, y, true) : Dm), ((x + 1), y, true)], _, _, Nat.zero_le _, by simp, rfl, rfl, Lib.hid rfl, own0, b60, B0⟩
        case round =>
          obtain ⟨k, out, A8, c8, hk, hol, rfl, rfl, Hg, hown, hb6, hbel⟩ := hrel
          clear own0 b60 B0
          by_cases hlt : k < l.length
          · obtain ⟨b, off, rfl, hb, q1, q2, q3⟩ := (h.below RE.stays hbel).atDom hlt
            have hg := Hg.out
            rw [List.drop_eq_getElem_cons hlt, List.filter_cons] at hg
            obtain ⟨d, hd⟩ : ∃ d, d = l[k] := ⟨_, rfl⟩
            rw [← hd] at q1 q2 q3 hg
            obtain ⟨ex, ey, ed⟩ := d
            simp only at q1 q2 q3
            have u_0 := hb6.cell 0
            have u_1 := hb6.cell 1
            have u_2 := hb6.cell 2
            have u_3 := hb6.cell 3
            have u_4 := hb6.cell 4
            have u_5 := hb6.cell 5
            simp only [List.getElem?_toArray, List.getElem?_cons_zero, List.getElem?_cons_succ] at u_0 u_1 u_2 u_3 u_4 u_5
            have hl6 := hb6.lt
            have hn6 : g6 ≠ wr.heap.size := by omega
            have B1 := hbel.al (.cells #[.int .i64 ex, .int .i64 ey, .bool ed] 73)
            have own1 := hown.alloc (.cells #[.int .i64 ex, .int .i64 ey, .bool ed] 73)
            have b61 := hb6.alloc (.cells #[.int .i64 ex, .int .i64 ey, .bool ed] 73)
            have H8 : Hid ((out.length + 1) * 24 ≤ 140737488355328) := Lib.hid (by unfold Small at hl; omega)
            have HM : Hid (out.length + 1 ≤ maxLen) := Lib.hid (by unfold Small at hl; unfold maxLen; omega)
            clear hd
            by_cases e1 : ((ex, ey, ed) : Dm) = (gx, gy, gb)
            · rw [if_neg (by rw [e1]; simp [keepD])] at hg
              have Hg2 := Lib.hid hg; clear hg
              simp only [Prod.mk.injEq] at e1
              obtain ⟨rfl, rfl, rfl⟩ := e1
              go_wp2
              go_roundw
              case rel => exact ⟨k + 1, out, A8, c8, by omega, by omega, by go_num, rfl, Hg2, own1, b61, B1⟩
              case measure => simp [intOf]; omega
            · by_cases e2 : ((ex, ey, ed) : Dm) = (kx, ky, kb)
              · rw [if_neg (by rw [e2]; simp [keepD])] at hg
                have Hg2 := Lib.hid hg; clear hg
                simp only [Prod.mk.injEq] at e2
                obtain ⟨rfl, rfl, rfl⟩ := e2
                rcases ne_ways e1 with p | ⟨rfl, p⟩ | ⟨rfl, rfl, p⟩
                · clear e1
                  go_wp2
                  go_roundw
                  case rel => exact ⟨k + 1, out, A8, c8, by omega, by omega, by go_num, rfl, Hg2, own1, b61, B1⟩
                  case measure => simp [intOf]; omega
                · clear e1
                  go_wp2
                  go_roundw
                  case rel => exact ⟨k + 1, out, A8, c8, by omega, by omega, by go_num, rfl, Hg2, own1, b61, B1⟩
                  case measure => simp [intOf]; omega
                · clear e1
                  go_wp2
                  go_roundw
                  case rel => exact ⟨k + 1, out, A8, c8, by omega, by omega, by go_num, rfl, Hg2, own1, b61, B1⟩
                  case measure => simp [intOf]; omega
              · rw [if_pos (by simp only [keepD, decide_eq_false e1, decide_eq_false e2]; rfl), ← List.singleton_append, ← List.append_assoc] at hg
                have Hg2 := Lib.hid hg; clear hg
                rcases ne_ways e1 with p | ⟨rfl, p⟩ | ⟨rfl, rfl, p⟩ <;> rcases ne_ways e2 with q | ⟨rfl, q⟩ | ⟨rfl, rfl, q⟩
                all_goals
                  clear e1 e2
                  go_wp2_with (at_builtin; go_must (first | (refine wpList_app1b (enc := eDom) rowDom lenDom oneDom B1 own1 ((ex, ey, ed) : Dm) H8.out HM.out (by simp) rfl _ _ rfl rfl rfl ?_) | (refine wpList_app1b (enc := eDom) rowDom lenDom oneDom B1 own1 ((ex, gy, ed) : Dm) H8.out HM.out (by simp) rfl _ _ rfl rfl rfl ?_) | (refine wpList_app1b (enc := eDom) rowDom lenDom oneDom B1 own1 ((ex, ky, ed) : Dm) H8.out HM.out (by simp) rfl _ _ rfl rfl rfl ?_) | (refine wpList_app1b (enc := eDom) rowDom lenDom oneDom B1 own1 ((gx, ey, ed) : Dm) H8.out HM.out (by simp) rfl _ _ rfl rfl rfl ?_) | (refine wpList_app1b (enc := eDom) rowDom lenDom oneDom B1 own1 ((gx, gy, ed) : Dm) H8.out HM.out (by simp) rfl _ _ rfl rfl rfl ?_) | (refine wpList_app1b (enc := eDom) rowDom lenDom oneDom B1 own1 ((gx, ky, ed) : Dm) H8.out HM.out (by simp) rfl _ _ rfl rfl rfl ?_) | (refine wpList_app1b (enc := eDom) rowDom lenDom oneDom B1 own1 ((kx, ey, ed) : Dm) H8.out HM.out (by simp) rfl _ _ rfl rfl rfl ?_) | (refine wpList_app1b (enc := eDom) rowDom lenDom oneDom B1 own1 ((kx, gy, ed) : Dm) H8.out HM.out (by simp) rfl _ _ rfl rfl rfl ?_) | (refine wpList_app1b (enc := eDom) rowDom lenDom oneDom B1 own1 ((kx, ky, ed) : Dm) H8.out HM.out (by simp) rfl _ _ rfl rfl rfl ?_)); intro v4 w4 own4 hb4 hg4 hd4; obtain ⟨A4, c4, rfl, hc4, hm4⟩ := own4.form)
                  have b64 := (b61.alloc _).grown hg4 (fun e => (own1.apart b61 (by decide)) e.symm)
                  go_roundw
                  case rel => exact ⟨k + 1, _, A4, c4, by omega, by simp; omega, by go_num, by simp, Hg2, own4, b64, hb4⟩
                  case measure => simp [intOf]; omega
          · obtain rfl : k = l.length := by omega
            have hg := Hg.out
            rw [List.drop_of_length_le (Nat.le_refl _), List.filter_nil, List.append_nil] at hg
            have Hout := Lib.hid hg; clear hg
            go_wp2_with fail
            refine (sortI_any _ out _ (hown.rd lenDom (by decide))).mono ?_
            rintro e w70 ⟨A70, c70, rfl, own70, hb70⟩
            go_wp2
            go_ret2
            have e9 : sortD out = flipTo l (x, y) := by rw [Hout.out]; unfold flipTo; rw [HGN.out.1, HGN.out.2]
            rw [e9] at own70 ⊢
            exact ⟨A70, c70, rfl, own70.mono hbel.size, hbel.tr hb70⟩
end Go.Proofs.Ytkbndchgmokabaa
