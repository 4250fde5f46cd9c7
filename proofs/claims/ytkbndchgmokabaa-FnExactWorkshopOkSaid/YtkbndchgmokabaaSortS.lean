/- SortDominoes of the reference: the walk. Conditions: sizes. -/
import Derived.Test.YtkbndchgmokabaaSortI
import Derived.Test.YtkbndchgmokabaaPartS4
namespace Go.Proofs.Ytkbndchgmokabaa
open Go.ChangeShapes Go.WideShapes Go.ChangeAt Go.RowKit
set_option linter.unusedVariables false
set_option linter.unusedSimpArgs false

theorem rd_len {α : Type} {size : Nat} {R : World → List Value → α → Prop} {w : World} {A : Option Addr} {n c : Nat} {l : List α} (h : Rd size R w (.slice A n c) l) : n = l.length ∧ n ≤ c := by
  obtain ⟨A0, c', e, h1, h2, h3⟩ := h
  injection e with e1 e2 e3
  subst e3
  exact ⟨e2, by omega⟩
theorem Rd.takeA {α : Type} {size : Nat} {R : World → List Value → α → Prop} {w : World} {A : Option Addr} {n c : Nat} {l : List α} (h : Rd size R w (.slice A n c) l) {j : Nat} (hj : j ≤ n) : Rd size R w (.slice A j c) (l.take j) := by
  obtain ⟨A0, c', e, h1, h2, h3⟩ := h
  injection e with e1 e2 e3
  subst e1 e2 e3
  refine ⟨_, _, by rw [List.length_take, Nat.min_eq_left hj], by rw [List.length_take]; omega, by first | (rw [List.length_take]; omega) | omega, fun hn => ?_⟩
  rw [List.length_take] at hn
  obtain ⟨b, off, rfl, hb, hc⟩ := h3 (by omega)
  refine ⟨b, off, rfl, hb, fun i x hx => ?_⟩
  exact hc i x (by rw [List.getElem?_take] at hx; split at hx; exact hx; cases hx)
theorem wpList_appAllN {P : Program} {ops : Array Oper} {rest : List Oper} {o : Oper} {a : Act} {Q : Exit → Act → World → Prop} {α : Type} {t E : TypeId} {z : Value} {size bytes : Nat} (R : Row P t E z size bytes)
    {enc : α → List Value} (henc : ∀ x, (enc x).length = size) (h1 : ∀ x, ∀ u ∈ enc x, u.oneCell' = true)
    {B : Nat} {w : World} (hB : B ≤ w.heap.size) {v : Value} {l : List α} (hown : OwnL E size enc B w v l) {A : Option Addr} {n c : Nat} {m : List α} (hn : m.length = n) (hm : Rd size (RE enc) w (.slice A n c) m)
    (hlen : (l.length + m.length) * bytes ≤ 140737488355328) (hlen2 : l.length + m.length ≤ maxLen) (hgd : o.guard = none)
    (s x : Operand) (ho : o.op = .call { callee := .builtin .append, args := #[s, x], argTypes := #[t, t] })
    (hs : a.eval s = v) (hx : a.eval x = .slice A n c)
    (h : ∀ v' w', OwnL E size enc B w' v' (l ++ m) → Below B w w' → (∃ A' c', v' = .slice A' (l.length + n) c') → wpList P ops Q rest (a.put o.dst v') w') :
    wpList P ops Q (o :: rest) a w := by
  subst hn
  exact wpList_appAll R henc h1 hB hown hm hlen hlen2 hgd s x ho hs hx h
theorem beforeS_of (x y : Int) (d : Bool) (x' y' : Int) (d' : Bool) (r : Bool) (w : World) (hd : domOk (x, y, d) = true) (hd' : domOk (x', y', d') = true) (hr : r = decide (domOrd (x, y, d) < domOrd (x', y', d'))) :
    Calls Try.prog 163 #[.agg #[.int .i64 x, .int .i64 y, .bool d], .agg #[.int .i64 x', .int .i64 y', .bool d']] w (Ret (.bool r) w) := by
  rw [hr]; exact beforeS_yes x y d x' y' d' w hd hd'

set_option maxHeartbeats 4000000 in
set_option maxRecDepth 100000 in
theorem sortS_any (v : Value) (l : List Dm) (w : World) (h : Rd 3 RDom w v l) : Calls Try.prog 182 #[v] w (RetOwn 73 3 eDom (sortD l) w) := by
  obtain ⟨A, c, rfl, hc, hm⟩ := h.form
  go_enter Try.func182, Try.ntmps182
  go_wp2
  go_loopw [3, 4] (fun s3 s4 wr => ∃ (k : Nat) (out : List Dm) (A3 : Option Addr) (c3 : Nat), k ≤ l.length ∧ s4 = .int .i64 k ∧ s3 = .slice A3 out.length c3 ∧ Hid (sortGo out (l.drop k) = sortD l) ∧ Hid (Sorted out) ∧ OwnL 73 3 eDom w.heap.size wr (.slice A3 out.length c3) out ∧ Below w.heap.size w wr) (fun _ i _ => l.length - (intOf i).toNat)
  case atStart => exact ⟨0, [], _, _, Nat.zero_le _, rfl, rfl, Lib.hid rfl, Lib.hid sorted_nil, own_mt w _ rfl _ (Nat.le_refl _), (Below.refl _ _).al _⟩
  case round =>
    obtain ⟨k, out, A3, c3, hk, rfl, rfl, Hg, Hso, hown, hbel⟩ := hrel
    have hol := sorted_len Hso.out
    obtain ⟨wo, rfl⟩ : ∃ wo : World, wo = wr := ⟨_, rfl⟩
    by_cases hlt : k < l.length
    · obtain ⟨b, off, rfl, hb, q1, q2, q3⟩ := (h.below RE.stays hbel).atDom hlt
      have hg := Hg.out
      rw [List.drop_eq_getElem_cons hlt, sortGo_cons] at hg
      obtain ⟨d, hd⟩ : ∃ d, d = l[k] := ⟨_, rfl⟩
      rw [← hd] at q1 q2 q3 hg
      obtain ⟨x, y, dn⟩ := d
      simp only at q1 q2 q3
      have hltI : (k : Int) < (l.length : Int) := by omega
      rcases hok : domOk (x, y, dn) with _ | _
      · have e : sortStep out (x, y, dn) = out := by unfold sortStep; rw [hok]; rfl
        rw [e] at hg
        have Hg2 := Lib.hid hg; have Hok := Lib.hid hok; clear hg hok hd e
        go_wp2_with fail
        refine (domOkS_any x y dn _).mono ?_
        rintro e w1 ⟨rfl, hb1⟩
        rw [Hok.out]
        go_wp2
        go_roundw
        case rel => exact ⟨k + 1, out, A3, c3, by omega, by go_num, rfl, Hg2, Hso, hown.below hb1, hbel.tr hb1⟩
        case measure => simp [intOf]; omega
      · have hst := sortStep_pos out hok
        have Hst := Lib.hid hst; have Hg2 := Lib.hid hg; have Hok := Lib.hid hok; have Hd := Lib.hid hd; clear hst hg hok hd
        go_wp2_with fail
        refine (domOkS_any x y dn _).mono ?_
        rintro e w1 ⟨rfl, hb1⟩
        rw [Hok.out]
        have QF : Hid (∀ wX : World, Below w.heap.size w wX → b < wX.heap.size ∧ wX.cell? ⟨b, off + k * 3, none⟩ = some (.int .i64 x) ∧ wX.cell? ⟨b, off + k * 3 + 1, none⟩ = some (.int .i64 y) ∧ wX.cell? ⟨b, off + k * 3 + 2, none⟩ = some (.bool dn)) := Lib.hid (fun wX hX => by
          obtain ⟨b9, off9, e9, r0, r1, r2, r3⟩ := (h.below RE.stays hX).atDom hlt
          injection e9 with e9; injection e9 with e91 e92 _; subst e91; subst e92
          rw [← Hd.out] at r1 r2 r3
          exact ⟨r0, r1, r2, r3⟩)
        have own1 := hown.below hb1
        have B1 := hbel.tr hb1
        obtain ⟨P, hP⟩ : ∃ P, P = posD (x, y, dn) out := ⟨_, rfl⟩
        have hPle : P ≤ out.length := by rw [hP]; exact posD_le _ _
        have hbef : ∀ j, (hj : j < out.length) → (domOrd out[j] < domOrd (x, y, dn) ↔ j < P) := fun j hj => by rw [hP]; exact sorted_pos Hso.out hj
        rw [← hP] at Hst
        have Hbef := Lib.hid hbef; have HP := Lib.hid hP; clear hbef hP
        go_wp2
        go_loopw [5] (fun s5 wr => ∃ j : Nat, j ≤ P ∧ s5 = .int .i64 j ∧ OwnL 73 3 eDom w.heap.size wr (.slice A3 out.length c3) out ∧ Below w.heap.size w wr) (fun i _ => P - (intOf i).toNat)
        case atStart => exact ⟨0, Nat.zero_le _, rfl, own1, B1⟩
        case round =>
          obtain ⟨j, hj, rfl, hown2, hbel2⟩ := hrel
          clear own1 B1 hown hbel q1 q2 q3 hb1 hb
          obtain ⟨hb, q1, q2, q3⟩ := QF.out _ hbel2
          by_cases hjo : j < out.length
          · obtain ⟨g, hA, hg0, hg1⟩ := hown2.split hjo
            subst hA
            obtain ⟨e, he⟩ : ∃ e, e = out[j] := ⟨_, rfl⟩
            have hsl := hown2.slot lenDom (by decide) hjo
            rw [← he] at hsl
            have heo : domOk e = true := by rw [he]; exact Hso.out.1 _ (List.getElem_mem hjo)
            have hcmp := Hbef.out j hjo
            rw [← he] at hcmp
            obtain ⟨ex, ey, ed⟩ := e
            have z0 := hsl 0 _ rfl
            have z1 := hsl 1 _ rfl
            have z2 := hsl 2 _ rfl
            simp only [Nat.add_zero] at z0
            have Heo := Lib.hid heo; have He := Lib.hid he; clear hsl heo he
            have hjI : (j : Int) < (out.length : Int) := by omega
            have Bw : Below wr.heap.size wr wr.drew := (Below.refl _ _).drew
            have hz : wr.heap.size ≤ wr.drew.heap.size := by simp
            by_cases hjP : j < P
            · have Hr : Hid (true = decide (domOrd (ex, ey, ed) < domOrd (x, y, dn))) := Lib.hid (by rw [decide_eq_true (hcmp.2 hjP)])
              clear hcmp
              go_wp2_with fail
              refine wp_region_held_drew (S := (fun w' => w'.cell? ⟨g, j * 3, none⟩ = some (.int .i64 ex) ∧ w'.cell? ⟨g, j * 3 + 1, none⟩ = some (.int .i64 ey) ∧ w'.cell? ⟨g, j * 3 + 2, none⟩ = some (.bool ed) ∧ w'.cell? ⟨b, off + k * 3, none⟩ = some (.int .i64 x) ∧ w'.cell? ⟨b, off + k * 3 + 1, none⟩ = some (.int .i64 y) ∧ w'.cell? ⟨b, off + k * 3 + 2, none⟩ = some (.bool dn))) (by kernel_rfl) ?_ (fun hHeld => ?_)
              · (try dsimp only); (try go_keep)
              refine wpAnyH_take (i := 0) (oi := { dst := some 20, op := Go.Op.move (Go.Operand.tmp 5), type := 3, pos := "l06_tiling.go:45", after := #[], guard := none }) (v := ?_) rfl (by kernel_rfl) (by kernel_rfl) (by kernel_rfl) (fun _ _ _ h => h) (Or.inl ⟨by rfl, ?_⟩) (by assumption) ?_
              rotate_left 1
              · (intro wS hSw; (try dsimp only at hSw); go_simp; (all_goals with_reducible rfl))
              simp only [Act.put, List.setIfInBounds_toArray, List.set_cons_zero, List.set_cons_succ]
              refine wpAnyH_take (i := 1) (oi := { dst := some 21, op := Go.Op.move (Go.Operand.tmp 3), type := 37, pos := "l06_tiling.go:45", after := #[], guard := none }) (v := ?_) rfl (by kernel_rfl) (by kernel_rfl) (by kernel_rfl) (fun _ _ _ h => h) (Or.inl ⟨by rfl, ?_⟩) (by assumption) ?_
              rotate_left 1
              · (intro wS hSw; (try dsimp only at hSw); go_simp; (all_goals with_reducible rfl))
              simp only [Act.put, List.setIfInBounds_toArray, List.set_cons_zero, List.set_cons_succ]
              refine wpAnyH_take (i := 2) (oi := { dst := some 22, op := Go.Op.call { callee := Go.Callee.builtin Go.Builtin.len, args := #[Go.Operand.tmp 21], argTypes := #[37] }, type := 3, pos := "l06_tiling.go:45", after := #[{ on := 1, ground := Go.Ground.data }], guard := none }) (v := ?_) rfl (by kernel_rfl) (by kernel_rfl) (by kernel_rfl) (fun _ _ _ h => h) (Or.inl ⟨by rfl, ?_⟩) (by assumption) ?_
              rotate_left 1
              · (intro wS hSw; (try dsimp only at hSw); go_simp; (all_goals with_reducible rfl))
              simp only [Act.put, List.setIfInBounds_toArray, List.set_cons_zero, List.set_cons_succ]
              refine wpAnyH_take (i := 3) (oi := { dst := some 23, op := Go.Op.binOp Go.BinOp.lss 3 (Go.Operand.tmp 20) (Go.Operand.tmp 22) 3, type := 4, pos := "l06_tiling.go:45", after := #[{ on := 0, ground := Go.Ground.data }, { on := 2, ground := Go.Ground.data }], guard := none }) (v := ?_) rfl (by kernel_rfl) (by kernel_rfl) (by kernel_rfl) (fun _ _ _ h => h) (Or.inl ⟨by rfl, ?_⟩) (by assumption) ?_
              rotate_left 1
              · (intro wS hSw; (try dsimp only at hSw); go_simp; (all_goals with_reducible rfl))
              simp only [Act.put, List.setIfInBounds_toArray, List.set_cons_zero, List.set_cons_succ]
              refine wpAnyH_take (i := 4) (oi := { dst := some 24, op := Go.Op.move (Go.Operand.tmp 23), type := 4, pos := "l06_tiling.go:45", after := #[{ on := 3, ground := Go.Ground.data }], guard := none }) (v := ?_) rfl (by kernel_rfl) (by kernel_rfl) (by kernel_rfl) (fun _ _ _ h => h) (Or.inl ⟨by rfl, ?_⟩) (by assumption) ?_
              rotate_left 1
              · (intro wS hSw; (try dsimp only at hSw); go_simp; (all_goals with_reducible rfl))
              simp only [Act.put, List.setIfInBounds_toArray, List.set_cons_zero, List.set_cons_succ]
              refine wpAnyH_take (i := 5) (oi := { dst := some 25, op := Go.Op.move (Go.Operand.tmp 3), type := 37, pos := "l06_tiling.go:45", after := #[{ on := 4, ground := Go.Ground.guard }], guard := some (4, true) }) (v := ?_) rfl (by kernel_rfl) (by kernel_rfl) (by kernel_rfl) (fun _ _ _ h => h) (Or.inl ⟨by rfl, ?_⟩) (by assumption) ?_
              rotate_left 1
              · (intro wS hSw; (try dsimp only at hSw); go_simp; (all_goals with_reducible rfl))
              simp only [Act.put, List.setIfInBounds_toArray, List.set_cons_zero, List.set_cons_succ]
              refine wpAnyH_take (i := 6) (oi := { dst := some 26, op := Go.Op.move (Go.Operand.tmp 5), type := 3, pos := "l06_tiling.go:45", after := #[{ on := 4, ground := Go.Ground.guard }], guard := some (4, true) }) (v := ?_) rfl (by kernel_rfl) (by kernel_rfl) (by kernel_rfl) (fun _ _ _ h => h) (Or.inl ⟨by rfl, ?_⟩) (by assumption) ?_
              rotate_left 1
              · (intro wS hSw; (try dsimp only at hSw); go_simp; (all_goals with_reducible rfl))
              simp only [Act.put, List.setIfInBounds_toArray, List.set_cons_zero, List.set_cons_succ]
              refine wpAnyH_take (i := 7) (oi := { dst := some 27, op := Go.Op.indexAddr 37 (Go.Operand.tmp 25) (Go.Operand.tmp 26), type := 0, pos := "l06_tiling.go:45", after := #[{ on := 5, ground := Go.Ground.data }, { on := 6, ground := Go.Ground.data }, { on := 4, ground := Go.Ground.guard }], guard := some (4, true) }) (v := ?_) rfl (by kernel_rfl) (by kernel_rfl) (by kernel_rfl) (fun _ _ _ h => h) (Or.inl ⟨by rfl, ?_⟩) (by assumption) ?_
              rotate_left 1
              · (intro wS hSw; (try dsimp only at hSw); go_simp; (all_goals with_reducible rfl))
              simp only [Act.put, List.setIfInBounds_toArray, List.set_cons_zero, List.set_cons_succ]
              refine wpAnyH_take (i := 8) (oi := { dst := some 28, op := Go.Op.load 73 (Go.Operand.tmp 27), type := 73, pos := "l06_tiling.go:45", after := #[{ on := 7, ground := Go.Ground.data }, { on := 4, ground := Go.Ground.guard }], guard := some (4, true) }) (v := ?_) rfl (by kernel_rfl) (by kernel_rfl) (by kernel_rfl) (fun _ _ _ h => h) (Or.inl ⟨by rfl, ?_⟩) (by assumption) ?_
              rotate_left 1
              · (intro wS hSw; (try dsimp only at hSw); go_simp; (all_goals with_reducible rfl))
              simp only [Act.put, List.setIfInBounds_toArray, List.set_cons_zero, List.set_cons_succ]
              refine wpAnyH_take (i := 9) (oi := { dst := some 29, op := Go.Op.move (Go.Operand.tmp 0), type := 37, pos := "l06_tiling.go:45", after := #[{ on := 4, ground := Go.Ground.guard }], guard := some (4, true) }) (v := ?_) rfl (by kernel_rfl) (by kernel_rfl) (by kernel_rfl) (fun _ _ _ h => h) (Or.inl ⟨by rfl, ?_⟩) (by assumption) ?_
              rotate_left 1
              · (intro wS hSw; (try dsimp only at hSw); go_simp; (all_goals with_reducible rfl))
              simp only [Act.put, List.setIfInBounds_toArray, List.set_cons_zero, List.set_cons_succ]
              refine wpAnyH_take (i := 10) (oi := { dst := some 30, op := Go.Op.move (Go.Operand.tmp 4), type := 3, pos := "l06_tiling.go:45", after := #[{ on := 4, ground := Go.Ground.guard }], guard := some (4, true) }) (v := ?_) rfl (by kernel_rfl) (by kernel_rfl) (by kernel_rfl) (fun _ _ _ h => h) (Or.inl ⟨by rfl, ?_⟩) (by assumption) ?_
              rotate_left 1
              · (intro wS hSw; (try dsimp only at hSw); go_simp; (all_goals with_reducible rfl))
              simp only [Act.put, List.setIfInBounds_toArray, List.set_cons_zero, List.set_cons_succ]
              refine wpAnyH_take (i := 11) (oi := { dst := some 31, op := Go.Op.indexAddr 37 (Go.Operand.tmp 29) (Go.Operand.tmp 30), type := 0, pos := "l06_tiling.go:45", after := #[{ on := 9, ground := Go.Ground.data }, { on := 10, ground := Go.Ground.data }, { on := 4, ground := Go.Ground.guard }], guard := some (4, true) }) (v := ?_) rfl (by kernel_rfl) (by kernel_rfl) (by kernel_rfl) (fun _ _ _ h => h) (Or.inl ⟨by rfl, ?_⟩) (by assumption) ?_
              rotate_left 1
              · (intro wS hSw; (try dsimp only at hSw); go_simp; (all_goals with_reducible rfl))
              simp only [Act.put, List.setIfInBounds_toArray, List.set_cons_zero, List.set_cons_succ]
              refine wpAnyH_take (i := 12) (oi := { dst := some 32, op := Go.Op.load 73 (Go.Operand.tmp 31), type := 73, pos := "l06_tiling.go:45", after := #[{ on := 11, ground := Go.Ground.data }, { on := 4, ground := Go.Ground.guard }], guard := some (4, true) }) (v := ?_) rfl (by kernel_rfl) (by kernel_rfl) (by kernel_rfl) (fun _ _ _ h => h) (Or.inl ⟨by rfl, ?_⟩) (by assumption) ?_
              rotate_left 1
              · (intro wS hSw; (try dsimp only at hSw); go_simp; (all_goals with_reducible rfl))
              simp only [Act.put, List.setIfInBounds_toArray, List.set_cons_zero, List.set_cons_succ]
              refine wpAnyH_ready (rs := [13]) (by kernel_rfl) (by simp) ?_
              refine AllReadyH.cons (o := { dst := some 33, op := Go.Op.call { callee := Go.Callee.value (Go.Operand.func 163), args := #[Go.Operand.tmp 28, Go.Operand.tmp 32], argTypes := #[73, 73] }, type := 4, pos := "l06_tiling.go:45", after := #[{ on := 8, ground := Go.Ground.data }, { on := 12, ground := Go.Ground.data }, { on := 4, ground := Go.Ground.chain }, { on := 4, ground := Go.Ground.guard }], guard := some (4, true) }) rfl (fun K hK => ?_) AllReadyH.nil
              go_simp
              (first | (go_at_call 163; go_must (refine (beforeS_of ex ey ed x y dn true _ Heo.out Hok.out Hr.out).mono ?_; rintro e wX ⟨rfl, hbX⟩; obtain ⟨hcX, hfX, hzX⟩ := bkn hbX wr.heap.size hz; have hz := hzX; have Bw := Bw.tr hbX); (try go_wp2_with fail)))
              refine hK.out _ _ ?_ (fun hHeld => ?_)
              · (try dsimp only); (try go_keep)
              clear hK K
              (try simp only [Act.put, List.setIfInBounds_toArray, List.set_cons_zero, List.set_cons_succ])
              refine wpAnyH_take (i := 14) (oi := { dst := some 34, op := Go.Op.pick (Go.Operand.tmp 24) (Go.Operand.tmp 33) (Go.Operand.const (Go.Value.bool false)), type := 4, pos := "l06_tiling.go:45", after := #[{ on := 4, ground := Go.Ground.data }, { on := 13, ground := Go.Ground.data }], guard := none }) (v := ?_) rfl (by kernel_rfl) (by kernel_rfl) (by kernel_rfl) (fun _ _ _ h => h) (Or.inl ⟨by rfl, ?_⟩) (by assumption) ?_
              rotate_left 1
              · (intro wS hSw; (try dsimp only at hSw); go_simp; (all_goals with_reducible rfl))
              simp only [Act.put, List.setIfInBounds_toArray, List.set_cons_zero, List.set_cons_succ]
              refine wpAnyH_done (by kernel_rfl) ?_ _
              all_goals
                go_wp2
                go_roundw
                case rel => exact ⟨j + 1, by omega, by go_num, hown2.below Bw, hbel2.tr Bw⟩
                case measure => simp [intOf]; omega
            · obtain rfl : P = j := by omega
              have Hr : Hid (false = decide (domOrd (ex, ey, ed) < domOrd (x, y, dn))) := Lib.hid (by rw [decide_eq_false (mt hcmp.1 hjP)])
              clear hcmp
              go_wp2_with fail
              refine wp_region_held_drew (S := (fun w' => w'.cell? ⟨g, P * 3, none⟩ = some (.int .i64 ex) ∧ w'.cell? ⟨g, P * 3 + 1, none⟩ = some (.int .i64 ey) ∧ w'.cell? ⟨g, P * 3 + 2, none⟩ = some (.bool ed) ∧ w'.cell? ⟨b, off + k * 3, none⟩ = some (.int .i64 x) ∧ w'.cell? ⟨b, off + k * 3 + 1, none⟩ = some (.int .i64 y) ∧ w'.cell? ⟨b, off + k * 3 + 2, none⟩ = some (.bool dn))) (by kernel_rfl) ?_ (fun hHeld => ?_)
              · (try dsimp only); (try go_keep)
              refine wpAnyH_take (i := 0) (oi := { dst := some 20, op := Go.Op.move (Go.Operand.tmp 5), type := 3, pos := "l06_tiling.go:45", after := #[], guard := none }) (v := ?_) rfl (by kernel_rfl) (by kernel_rfl) (by kernel_rfl) (fun _ _ _ h => h) (Or.inl ⟨by rfl, ?_⟩) (by assumption) ?_
              rotate_left 1
              · (intro wS hSw; (try dsimp only at hSw); go_simp; (all_goals with_reducible rfl))
              simp only [Act.put, List.setIfInBounds_toArray, List.set_cons_zero, List.set_cons_succ]
              refine wpAnyH_take (i := 1) (oi := { dst := some 21, op := Go.Op.move (Go.Operand.tmp 3), type := 37, pos := "l06_tiling.go:45", after := #[], guard := none }) (v := ?_) rfl (by kernel_rfl) (by kernel_rfl) (by kernel_rfl) (fun _ _ _ h => h) (Or.inl ⟨by rfl, ?_⟩) (by assumption) ?_
              rotate_left 1
              · (intro wS hSw; (try dsimp only at hSw); go_simp; (all_goals with_reducible rfl))
              simp only [Act.put, List.setIfInBounds_toArray, List.set_cons_zero, List.set_cons_succ]
              refine wpAnyH_take (i := 2) (oi := { dst := some 22, op := Go.Op.call { callee := Go.Callee.builtin Go.Builtin.len, args := #[Go.Operand.tmp 21], argTypes := #[37] }, type := 3, pos := "l06_tiling.go:45", after := #[{ on := 1, ground := Go.Ground.data }], guard := none }) (v := ?_) rfl (by kernel_rfl) (by kernel_rfl) (by kernel_rfl) (fun _ _ _ h => h) (Or.inl ⟨by rfl, ?_⟩) (by assumption) ?_
              rotate_left 1
              · (intro wS hSw; (try dsimp only at hSw); go_simp; (all_goals with_reducible rfl))
              simp only [Act.put, List.setIfInBounds_toArray, List.set_cons_zero, List.set_cons_succ]
              refine wpAnyH_take (i := 3) (oi := { dst := some 23, op := Go.Op.binOp Go.BinOp.lss 3 (Go.Operand.tmp 20) (Go.Operand.tmp 22) 3, type := 4, pos := "l06_tiling.go:45", after := #[{ on := 0, ground := Go.Ground.data }, { on := 2, ground := Go.Ground.data }], guard := none }) (v := ?_) rfl (by kernel_rfl) (by kernel_rfl) (by kernel_rfl) (fun _ _ _ h => h) (Or.inl ⟨by rfl, ?_⟩) (by assumption) ?_
              rotate_left 1
              · (intro wS hSw; (try dsimp only at hSw); go_simp; (all_goals with_reducible rfl))
              simp only [Act.put, List.setIfInBounds_toArray, List.set_cons_zero, List.set_cons_succ]
              refine wpAnyH_take (i := 4) (oi := { dst := some 24, op := Go.Op.move (Go.Operand.tmp 23), type := 4, pos := "l06_tiling.go:45", after := #[{ on := 3, ground := Go.Ground.data }], guard := none }) (v := ?_) rfl (by kernel_rfl) (by kernel_rfl) (by kernel_rfl) (fun _ _ _ h => h) (Or.inl ⟨by rfl, ?_⟩) (by assumption) ?_
              rotate_left 1
              · (intro wS hSw; (try dsimp only at hSw); go_simp; (all_goals with_reducible rfl))
              simp only [Act.put, List.setIfInBounds_toArray, List.set_cons_zero, List.set_cons_succ]
              refine wpAnyH_take (i := 5) (oi := { dst := some 25, op := Go.Op.move (Go.Operand.tmp 3), type := 37, pos := "l06_tiling.go:45", after := #[{ on := 4, ground := Go.Ground.guard }], guard := some (4, true) }) (v := ?_) rfl (by kernel_rfl) (by kernel_rfl) (by kernel_rfl) (fun _ _ _ h => h) (Or.inl ⟨by rfl, ?_⟩) (by assumption) ?_
              rotate_left 1
              · (intro wS hSw; (try dsimp only at hSw); go_simp; (all_goals with_reducible rfl))
              simp only [Act.put, List.setIfInBounds_toArray, List.set_cons_zero, List.set_cons_succ]
              refine wpAnyH_take (i := 6) (oi := { dst := some 26, op := Go.Op.move (Go.Operand.tmp 5), type := 3, pos := "l06_tiling.go:45", after := #[{ on := 4, ground := Go.Ground.guard }], guard := some (4, true) }) (v := ?_) rfl (by kernel_rfl) (by kernel_rfl) (by kernel_rfl) (fun _ _ _ h => h) (Or.inl ⟨by rfl, ?_⟩) (by assumption) ?_
              rotate_left 1
              · (intro wS hSw; (try dsimp only at hSw); go_simp; (all_goals with_reducible rfl))
              simp only [Act.put, List.setIfInBounds_toArray, List.set_cons_zero, List.set_cons_succ]
              refine wpAnyH_take (i := 7) (oi := { dst := some 27, op := Go.Op.indexAddr 37 (Go.Operand.tmp 25) (Go.Operand.tmp 26), type := 0, pos := "l06_tiling.go:45", after := #[{ on := 5, ground := Go.Ground.data }, { on := 6, ground := Go.Ground.data }, { on := 4, ground := Go.Ground.guard }], guard := some (4, true) }) (v := ?_) rfl (by kernel_rfl) (by kernel_rfl) (by kernel_rfl) (fun _ _ _ h => h) (Or.inl ⟨by rfl, ?_⟩) (by assumption) ?_
              rotate_left 1
              · (intro wS hSw; (try dsimp only at hSw); go_simp; (all_goals with_reducible rfl))
              simp only [Act.put, List.setIfInBounds_toArray, List.set_cons_zero, List.set_cons_succ]
              refine wpAnyH_take (i := 8) (oi := { dst := some 28, op := Go.Op.load 73 (Go.Operand.tmp 27), type := 73, pos := "l06_tiling.go:45", after := #[{ on := 7, ground := Go.Ground.data }, { on := 4, ground := Go.Ground.guard }], guard := some (4, true) }) (v := ?_) rfl (by kernel_rfl) (by kernel_rfl) (by kernel_rfl) (fun _ _ _ h => h) (Or.inl ⟨by rfl, ?_⟩) (by assumption) ?_
              rotate_left 1
              · (intro wS hSw; (try dsimp only at hSw); go_simp; (all_goals with_reducible rfl))
              simp only [Act.put, List.setIfInBounds_toArray, List.set_cons_zero, List.set_cons_succ]
              refine wpAnyH_take (i := 9) (oi := { dst := some 29, op := Go.Op.move (Go.Operand.tmp 0), type := 37, pos := "l06_tiling.go:45", after := #[{ on := 4, ground := Go.Ground.guard }], guard := some (4, true) }) (v := ?_) rfl (by kernel_rfl) (by kernel_rfl) (by kernel_rfl) (fun _ _ _ h => h) (Or.inl ⟨by rfl, ?_⟩) (by assumption) ?_
              rotate_left 1
              · (intro wS hSw; (try dsimp only at hSw); go_simp; (all_goals with_reducible rfl))
              simp only [Act.put, List.setIfInBounds_toArray, List.set_cons_zero, List.set_cons_succ]
              refine wpAnyH_take (i := 10) (oi := { dst := some 30, op := Go.Op.move (Go.Operand.tmp 4), type := 3, pos := "l06_tiling.go:45", after := #[{ on := 4, ground := Go.Ground.guard }], guard := some (4, true) }) (v := ?_) rfl (by kernel_rfl) (by kernel_rfl) (by kernel_rfl) (fun _ _ _ h => h) (Or.inl ⟨by rfl, ?_⟩) (by assumption) ?_
              rotate_left 1
              · (intro wS hSw; (try dsimp only at hSw); go_simp; (all_goals with_reducible rfl))
              simp only [Act.put, List.setIfInBounds_toArray, List.set_cons_zero, List.set_cons_succ]
              refine wpAnyH_take (i := 11) (oi := { dst := some 31, op := Go.Op.indexAddr 37 (Go.Operand.tmp 29) (Go.Operand.tmp 30), type := 0, pos := "l06_tiling.go:45", after := #[{ on := 9, ground := Go.Ground.data }, { on := 10, ground := Go.Ground.data }, { on := 4, ground := Go.Ground.guard }], guard := some (4, true) }) (v := ?_) rfl (by kernel_rfl) (by kernel_rfl) (by kernel_rfl) (fun _ _ _ h => h) (Or.inl ⟨by rfl, ?_⟩) (by assumption) ?_
              rotate_left 1
              · (intro wS hSw; (try dsimp only at hSw); go_simp; (all_goals with_reducible rfl))
              simp only [Act.put, List.setIfInBounds_toArray, List.set_cons_zero, List.set_cons_succ]
              refine wpAnyH_take (i := 12) (oi := { dst := some 32, op := Go.Op.load 73 (Go.Operand.tmp 31), type := 73, pos := "l06_tiling.go:45", after := #[{ on := 11, ground := Go.Ground.data }, { on := 4, ground := Go.Ground.guard }], guard := some (4, true) }) (v := ?_) rfl (by kernel_rfl) (by kernel_rfl) (by kernel_rfl) (fun _ _ _ h => h) (Or.inl ⟨by rfl, ?_⟩) (by assumption) ?_
              rotate_left 1
              · (intro wS hSw; (try dsimp only at hSw); go_simp; (all_goals with_reducible rfl))
              simp only [Act.put, List.setIfInBounds_toArray, List.set_cons_zero, List.set_cons_succ]
              refine wpAnyH_ready (rs := [13]) (by kernel_rfl) (by simp) ?_
              refine AllReadyH.cons (o := { dst := some 33, op := Go.Op.call { callee := Go.Callee.value (Go.Operand.func 163), args := #[Go.Operand.tmp 28, Go.Operand.tmp 32], argTypes := #[73, 73] }, type := 4, pos := "l06_tiling.go:45", after := #[{ on := 8, ground := Go.Ground.data }, { on := 12, ground := Go.Ground.data }, { on := 4, ground := Go.Ground.chain }, { on := 4, ground := Go.Ground.guard }], guard := some (4, true) }) rfl (fun K hK => ?_) AllReadyH.nil
              go_simp
              (first | (go_at_call 163; go_must (refine (beforeS_of ex ey ed x y dn false _ Heo.out Hok.out Hr.out).mono ?_; rintro e wX ⟨rfl, hbX⟩; obtain ⟨hcX, hfX, hzX⟩ := bkn hbX wr.heap.size hz; have hz := hzX; have Bw := Bw.tr hbX); (try go_wp2_with fail)))
              refine hK.out _ _ ?_ (fun hHeld => ?_)
              · (try dsimp only); (try go_keep)
              clear hK K
              (try simp only [Act.put, List.setIfInBounds_toArray, List.set_cons_zero, List.set_cons_succ])
              refine wpAnyH_take (i := 14) (oi := { dst := some 34, op := Go.Op.pick (Go.Operand.tmp 24) (Go.Operand.tmp 33) (Go.Operand.const (Go.Value.bool false)), type := 4, pos := "l06_tiling.go:45", after := #[{ on := 4, ground := Go.Ground.data }, { on := 13, ground := Go.Ground.data }], guard := none }) (v := ?_) rfl (by kernel_rfl) (by kernel_rfl) (by kernel_rfl) (fun _ _ _ h => h) (Or.inl ⟨by rfl, ?_⟩) (by assumption) ?_
              rotate_left 1
              · (intro wS hSw; (try dsimp only at hSw); go_simp; (all_goals with_reducible rfl))
              simp only [Act.put, List.setIfInBounds_toArray, List.set_cons_zero, List.set_cons_succ]
              refine wpAnyH_done (by kernel_rfl) ?_ _
              have own3 := hown2.below Bw
              have B3 := hbel2.tr Bw
              clear hHeld z0 z1 z2 hb q1 q2 q3 hown2 hbel2 Bw hz hcX hfX hzX hbX
              obtain ⟨W4, hW4⟩ : ∃ W4, W4 = wX := ⟨_, rfl⟩
              subst hW4
              have hsl := own3.slot lenDom (by decide) hjo
              rw [← He.out] at hsl
              have z0 := hsl 0 _ rfl
              have z1 := hsl 1 _ rfl
              have z2 := hsl 2 _ rfl
              simp only [Nat.add_zero] at z0
              clear hsl
              obtain ⟨hb, q1, q2, q3⟩ := QF.out _ B3
              by_cases hyes : out[P]? = some (x, y, dn)
              · have he2 : (ex, ey, ed) = (x, y, dn) := by
                  rw [List.getElem?_eq_getElem hjo, Option.some.injEq] at hyes
                  rw [He.out, hyes]
                simp only [Prod.mk.injEq] at he2
                obtain ⟨rfl, rfl, rfl⟩ := he2
                have HG : Hid (sortGo out (l.drop (k + 1)) = sortD l) := Lib.hid (by rw [← Hg2.out, Hst.out, if_pos hyes])
                clear hyes
                go_wp2_with fail
                refine wp_region_held_drew (S := (fun w' => w'.cell? ⟨g, P * 3, none⟩ = some (.int .i64 ex) ∧ w'.cell? ⟨g, P * 3 + 1, none⟩ = some (.int .i64 ey) ∧ w'.cell? ⟨g, P * 3 + 2, none⟩ = some (.bool ed) ∧ w'.cell? ⟨b, off + k * 3, none⟩ = some (.int .i64 ex) ∧ w'.cell? ⟨b, off + k * 3 + 1, none⟩ = some (.int .i64 ey) ∧ w'.cell? ⟨b, off + k * 3 + 2, none⟩ = some (.bool ed))) (by kernel_rfl) ?_ (fun hHeld => ?_)
                · (try dsimp only); (try go_keep)
                refine wpAnyH_take (i := 0) (oi := { dst := some 37, op := Go.Op.move (Go.Operand.tmp 5), type := 3, pos := "l06_tiling.go:48", after := #[], guard := none }) (v := ?_) rfl (by kernel_rfl) (by kernel_rfl) (by kernel_rfl) (fun _ _ _ h => h) (Or.inl ⟨by rfl, ?_⟩) (by assumption) ?_
                rotate_left 1
                · (intro wS hSw; (try dsimp only at hSw); go_simp; (all_goals with_reducible rfl))
                simp only [Act.put, List.setIfInBounds_toArray, List.set_cons_zero, List.set_cons_succ]
                refine wpAnyH_take (i := 1) (oi := { dst := some 38, op := Go.Op.move (Go.Operand.tmp 3), type := 37, pos := "l06_tiling.go:48", after := #[], guard := none }) (v := ?_) rfl (by kernel_rfl) (by kernel_rfl) (by kernel_rfl) (fun _ _ _ h => h) (Or.inl ⟨by rfl, ?_⟩) (by assumption) ?_
                rotate_left 1
                · (intro wS hSw; (try dsimp only at hSw); go_simp; (all_goals with_reducible rfl))
                simp only [Act.put, List.setIfInBounds_toArray, List.set_cons_zero, List.set_cons_succ]
                refine wpAnyH_take (i := 2) (oi := { dst := some 39, op := Go.Op.call { callee := Go.Callee.builtin Go.Builtin.len, args := #[Go.Operand.tmp 38], argTypes := #[37] }, type := 3, pos := "l06_tiling.go:48", after := #[{ on := 1, ground := Go.Ground.data }], guard := none }) (v := ?_) rfl (by kernel_rfl) (by kernel_rfl) (by kernel_rfl) (fun _ _ _ h => h) (Or.inl ⟨by rfl, ?_⟩) (by assumption) ?_
                rotate_left 1
                · (intro wS hSw; (try dsimp only at hSw); go_simp; (all_goals with_reducible rfl))
                simp only [Act.put, List.setIfInBounds_toArray, List.set_cons_zero, List.set_cons_succ]
                refine wpAnyH_take (i := 3) (oi := { dst := some 40, op := Go.Op.binOp Go.BinOp.lss 3 (Go.Operand.tmp 37) (Go.Operand.tmp 39) 3, type := 4, pos := "l06_tiling.go:48", after := #[{ on := 0, ground := Go.Ground.data }, { on := 2, ground := Go.Ground.data }], guard := none }) (v := ?_) rfl (by kernel_rfl) (by kernel_rfl) (by kernel_rfl) (fun _ _ _ h => h) (Or.inl ⟨by rfl, ?_⟩) (by assumption) ?_
                rotate_left 1
                · (intro wS hSw; (try dsimp only at hSw); go_simp; (all_goals with_reducible rfl))
                simp only [Act.put, List.setIfInBounds_toArray, List.set_cons_zero, List.set_cons_succ]
                refine wpAnyH_take (i := 4) (oi := { dst := some 41, op := Go.Op.move (Go.Operand.tmp 40), type := 4, pos := "l06_tiling.go:48", after := #[{ on := 3, ground := Go.Ground.data }], guard := none }) (v := ?_) rfl (by kernel_rfl) (by kernel_rfl) (by kernel_rfl) (fun _ _ _ h => h) (Or.inl ⟨by rfl, ?_⟩) (by assumption) ?_
                rotate_left 1
                · (intro wS hSw; (try dsimp only at hSw); go_simp; (all_goals with_reducible rfl))
                simp only [Act.put, List.setIfInBounds_toArray, List.set_cons_zero, List.set_cons_succ]
                refine wpAnyH_take (i := 5) (oi := { dst := some 42, op := Go.Op.move (Go.Operand.tmp 3), type := 37, pos := "l06_tiling.go:48", after := #[{ on := 4, ground := Go.Ground.guard }], guard := some (4, true) }) (v := ?_) rfl (by kernel_rfl) (by kernel_rfl) (by kernel_rfl) (fun _ _ _ h => h) (Or.inl ⟨by rfl, ?_⟩) (by assumption) ?_
                rotate_left 1
                · (intro wS hSw; (try dsimp only at hSw); go_simp; (all_goals with_reducible rfl))
                simp only [Act.put, List.setIfInBounds_toArray, List.set_cons_zero, List.set_cons_succ]
                refine wpAnyH_take (i := 6) (oi := { dst := some 43, op := Go.Op.move (Go.Operand.tmp 5), type := 3, pos := "l06_tiling.go:48", after := #[{ on := 4, ground := Go.Ground.guard }], guard := some (4, true) }) (v := ?_) rfl (by kernel_rfl) (by kernel_rfl) (by kernel_rfl) (fun _ _ _ h => h) (Or.inl ⟨by rfl, ?_⟩) (by assumption) ?_
                rotate_left 1
                · (intro wS hSw; (try dsimp only at hSw); go_simp; (all_goals with_reducible rfl))
                simp only [Act.put, List.setIfInBounds_toArray, List.set_cons_zero, List.set_cons_succ]
                refine wpAnyH_take (i := 7) (oi := { dst := some 44, op := Go.Op.indexAddr 37 (Go.Operand.tmp 42) (Go.Operand.tmp 43), type := 0, pos := "l06_tiling.go:48", after := #[{ on := 5, ground := Go.Ground.data }, { on := 6, ground := Go.Ground.data }, { on := 4, ground := Go.Ground.guard }], guard := some (4, true) }) (v := ?_) rfl (by kernel_rfl) (by kernel_rfl) (by kernel_rfl) (fun _ _ _ h => h) (Or.inl ⟨by rfl, ?_⟩) (by assumption) ?_
                rotate_left 1
                · (intro wS hSw; (try dsimp only at hSw); go_simp; (all_goals with_reducible rfl))
                simp only [Act.put, List.setIfInBounds_toArray, List.set_cons_zero, List.set_cons_succ]
                refine wpAnyH_take (i := 8) (oi := { dst := some 45, op := Go.Op.load 73 (Go.Operand.tmp 44), type := 73, pos := "l06_tiling.go:48", after := #[{ on := 7, ground := Go.Ground.data }, { on := 4, ground := Go.Ground.guard }], guard := some (4, true) }) (v := ?_) rfl (by kernel_rfl) (by kernel_rfl) (by kernel_rfl) (fun _ _ _ h => h) (Or.inl ⟨by rfl, ?_⟩) (by assumption) ?_
                rotate_left 1
                · (intro wS hSw; (try dsimp only at hSw); go_simp; (all_goals with_reducible rfl))
                simp only [Act.put, List.setIfInBounds_toArray, List.set_cons_zero, List.set_cons_succ]
                refine wpAnyH_take (i := 9) (oi := { dst := some 46, op := Go.Op.move (Go.Operand.tmp 0), type := 37, pos := "l06_tiling.go:48", after := #[{ on := 4, ground := Go.Ground.guard }], guard := some (4, true) }) (v := ?_) rfl (by kernel_rfl) (by kernel_rfl) (by kernel_rfl) (fun _ _ _ h => h) (Or.inl ⟨by rfl, ?_⟩) (by assumption) ?_
                rotate_left 1
                · (intro wS hSw; (try dsimp only at hSw); go_simp; (all_goals with_reducible rfl))
                simp only [Act.put, List.setIfInBounds_toArray, List.set_cons_zero, List.set_cons_succ]
                refine wpAnyH_take (i := 10) (oi := { dst := some 47, op := Go.Op.move (Go.Operand.tmp 4), type := 3, pos := "l06_tiling.go:48", after := #[{ on := 4, ground := Go.Ground.guard }], guard := some (4, true) }) (v := ?_) rfl (by kernel_rfl) (by kernel_rfl) (by kernel_rfl) (fun _ _ _ h => h) (Or.inl ⟨by rfl, ?_⟩) (by assumption) ?_
                rotate_left 1
                · (intro wS hSw; (try dsimp only at hSw); go_simp; (all_goals with_reducible rfl))
                simp only [Act.put, List.setIfInBounds_toArray, List.set_cons_zero, List.set_cons_succ]
                refine wpAnyH_take (i := 11) (oi := { dst := some 48, op := Go.Op.indexAddr 37 (Go.Operand.tmp 46) (Go.Operand.tmp 47), type := 0, pos := "l06_tiling.go:48", after := #[{ on := 9, ground := Go.Ground.data }, { on := 10, ground := Go.Ground.data }, { on := 4, ground := Go.Ground.guard }], guard := some (4, true) }) (v := ?_) rfl (by kernel_rfl) (by kernel_rfl) (by kernel_rfl) (fun _ _ _ h => h) (Or.inl ⟨by rfl, ?_⟩) (by assumption) ?_
                rotate_left 1
                · (intro wS hSw; (try dsimp only at hSw); go_simp; (all_goals with_reducible rfl))
                simp only [Act.put, List.setIfInBounds_toArray, List.set_cons_zero, List.set_cons_succ]
                refine wpAnyH_take (i := 12) (oi := { dst := some 49, op := Go.Op.load 73 (Go.Operand.tmp 48), type := 73, pos := "l06_tiling.go:48", after := #[{ on := 11, ground := Go.Ground.data }, { on := 4, ground := Go.Ground.guard }], guard := some (4, true) }) (v := ?_) rfl (by kernel_rfl) (by kernel_rfl) (by kernel_rfl) (fun _ _ _ h => h) (Or.inl ⟨by rfl, ?_⟩) (by assumption) ?_
                rotate_left 1
                · (intro wS hSw; (try dsimp only at hSw); go_simp; (all_goals with_reducible rfl))
                simp only [Act.put, List.setIfInBounds_toArray, List.set_cons_zero, List.set_cons_succ]
                refine wpAnyH_take (i := 13) (oi := { dst := some 50, op := Go.Op.binOp Go.BinOp.eql 73 (Go.Operand.tmp 45) (Go.Operand.tmp 49) 73, type := 4, pos := "l06_tiling.go:48", after := #[{ on := 8, ground := Go.Ground.data }, { on := 12, ground := Go.Ground.data }, { on := 4, ground := Go.Ground.guard }], guard := some (4, true) }) (v := ?_) rfl (by kernel_rfl) (by kernel_rfl) (by kernel_rfl) (fun _ _ _ h => h) (Or.inl ⟨by rfl, ?_⟩) (by assumption) ?_
                rotate_left 1
                · (intro wS hSw; (try dsimp only at hSw); go_simp; (all_goals with_reducible rfl))
                simp only [Act.put, List.setIfInBounds_toArray, List.set_cons_zero, List.set_cons_succ]
                refine wpAnyH_take (i := 14) (oi := { dst := some 51, op := Go.Op.pick (Go.Operand.tmp 41) (Go.Operand.tmp 50) (Go.Operand.const (Go.Value.bool false)), type := 4, pos := "l06_tiling.go:48", after := #[{ on := 4, ground := Go.Ground.data }, { on := 13, ground := Go.Ground.data }], guard := none }) (v := ?_) rfl (by kernel_rfl) (by kernel_rfl) (by kernel_rfl) (fun _ _ _ h => h) (Or.inl ⟨by rfl, ?_⟩) (by assumption) ?_
                rotate_left 1
                · (intro wS hSw; (try dsimp only at hSw); go_simp; (all_goals with_reducible rfl))
                simp only [Act.put, List.setIfInBounds_toArray, List.set_cons_zero, List.set_cons_succ]
                refine wpAnyH_done (by kernel_rfl) ?_ _
                go_wp2
                go_roundw
                case rel => exact ⟨k + 1, out, _, c3, by omega, by go_num, rfl, HG, Hso, own3.below ((Below.refl _ _).drew), B3.drew⟩
                case measure => simp [intOf]; omega
              · have HNo := Lib.hid hyes; clear hyes
                have hne : ¬ (ex, ey, ed) = (x, y, dn) := fun q => HNo.out (by rw [List.getElem?_eq_getElem hjo, ← He.out, q])
                by_cases h1 : ex = x
                · obtain rfl : x = ex := h1.symm
                  by_cases h2 : ey = y
                  · obtain rfl : y = ey := h2.symm
                    by_cases h3 : ed = dn
                    · exfalso; apply hne; rw [h3]
                    · have Hne := Lib.hid hne; clear hne
                      go_wp2_with fail
                      refine wp_region_held_drew (S := (fun w' => w'.cell? ⟨g, P * 3, none⟩ = some (.int .i64 x) ∧ w'.cell? ⟨g, P * 3 + 1, none⟩ = some (.int .i64 y) ∧ w'.cell? ⟨g, P * 3 + 2, none⟩ = some (.bool ed) ∧ w'.cell? ⟨b, off + k * 3, none⟩ = some (.int .i64 x) ∧ w'.cell? ⟨b, off + k * 3 + 1, none⟩ = some (.int .i64 y) ∧ w'.cell? ⟨b, off + k * 3 + 2, none⟩ = some (.bool dn))) (by kernel_rfl) ?_ (fun hHeld => ?_)
                      · (try dsimp only); (try go_keep)
                      refine wpAnyH_take (i := 0) (oi := { dst := some 37, op := Go.Op.move (Go.Operand.tmp 5), type := 3, pos := "l06_tiling.go:48", after := #[], guard := none }) (v := ?_) rfl (by kernel_rfl) (by kernel_rfl) (by kernel_rfl) (fun _ _ _ h => h) (Or.inl ⟨by rfl, ?_⟩) (by assumption) ?_
                      rotate_left 1
                      · (intro wS hSw; (try dsimp only at hSw); go_simp; (all_goals with_reducible rfl))
                      simp only [Act.put, List.setIfInBounds_toArray, List.set_cons_zero, List.set_cons_succ]
                      refine wpAnyH_take (i := 1) (oi := { dst := some 38, op := Go.Op.move (Go.Operand.tmp 3), type := 37, pos := "l06_tiling.go:48", after := #[], guard := none }) (v := ?_) rfl (by kernel_rfl) (by kernel_rfl) (by kernel_rfl) (fun _ _ _ h => h) (Or.inl ⟨by rfl, ?_⟩) (by assumption) ?_
                      rotate_left 1
                      · (intro wS hSw; (try dsimp only at hSw); go_simp; (all_goals with_reducible rfl))
                      simp only [Act.put, List.setIfInBounds_toArray, List.set_cons_zero, List.set_cons_succ]
                      refine wpAnyH_take (i := 2) (oi := { dst := some 39, op := Go.Op.call { callee := Go.Callee.builtin Go.Builtin.len, args := #[Go.Operand.tmp 38], argTypes := #[37] }, type := 3, pos := "l06_tiling.go:48", after := #[{ on := 1, ground := Go.Ground.data }], guard := none }) (v := ?_) rfl (by kernel_rfl) (by kernel_rfl) (by kernel_rfl) (fun _ _ _ h => h) (Or.inl ⟨by rfl, ?_⟩) (by assumption) ?_
                      rotate_left 1
                      · (intro wS hSw; (try dsimp only at hSw); go_simp; (all_goals with_reducible rfl))
                      simp only [Act.put, List.setIfInBounds_toArray, List.set_cons_zero, List.set_cons_succ]
                      refine wpAnyH_take (i := 3) (oi := { dst := some 40, op := Go.Op.binOp Go.BinOp.lss 3 (Go.Operand.tmp 37) (Go.Operand.tmp 39) 3, type := 4, pos := "l06_tiling.go:48", after := #[{ on := 0, ground := Go.Ground.data }, { on := 2, ground := Go.Ground.data }], guard := none }) (v := ?_) rfl (by kernel_rfl) (by kernel_rfl) (by kernel_rfl) (fun _ _ _ h => h) (Or.inl ⟨by rfl, ?_⟩) (by assumption) ?_
                      rotate_left 1
                      · (intro wS hSw; (try dsimp only at hSw); go_simp; (all_goals with_reducible rfl))
                      simp only [Act.put, List.setIfInBounds_toArray, List.set_cons_zero, List.set_cons_succ]
                      refine wpAnyH_take (i := 4) (oi := { dst := some 41, op := Go.Op.move (Go.Operand.tmp 40), type := 4, pos := "l06_tiling.go:48", after := #[{ on := 3, ground := Go.Ground.data }], guard := none }) (v := ?_) rfl (by kernel_rfl) (by kernel_rfl) (by kernel_rfl) (fun _ _ _ h => h) (Or.inl ⟨by rfl, ?_⟩) (by assumption) ?_
                      rotate_left 1
                      · (intro wS hSw; (try dsimp only at hSw); go_simp; (all_goals with_reducible rfl))
                      simp only [Act.put, List.setIfInBounds_toArray, List.set_cons_zero, List.set_cons_succ]
                      refine wpAnyH_take (i := 5) (oi := { dst := some 42, op := Go.Op.move (Go.Operand.tmp 3), type := 37, pos := "l06_tiling.go:48", after := #[{ on := 4, ground := Go.Ground.guard }], guard := some (4, true) }) (v := ?_) rfl (by kernel_rfl) (by kernel_rfl) (by kernel_rfl) (fun _ _ _ h => h) (Or.inl ⟨by rfl, ?_⟩) (by assumption) ?_
                      rotate_left 1
                      · (intro wS hSw; (try dsimp only at hSw); go_simp; (all_goals with_reducible rfl))
                      simp only [Act.put, List.setIfInBounds_toArray, List.set_cons_zero, List.set_cons_succ]
                      refine wpAnyH_take (i := 6) (oi := { dst := some 43, op := Go.Op.move (Go.Operand.tmp 5), type := 3, pos := "l06_tiling.go:48", after := #[{ on := 4, ground := Go.Ground.guard }], guard := some (4, true) }) (v := ?_) rfl (by kernel_rfl) (by kernel_rfl) (by kernel_rfl) (fun _ _ _ h => h) (Or.inl ⟨by rfl, ?_⟩) (by assumption) ?_
                      rotate_left 1
                      · (intro wS hSw; (try dsimp only at hSw); go_simp; (all_goals with_reducible rfl))
                      simp only [Act.put, List.setIfInBounds_toArray, List.set_cons_zero, List.set_cons_succ]
                      refine wpAnyH_take (i := 7) (oi := { dst := some 44, op := Go.Op.indexAddr 37 (Go.Operand.tmp 42) (Go.Operand.tmp 43), type := 0, pos := "l06_tiling.go:48", after := #[{ on := 5, ground := Go.Ground.data }, { on := 6, ground := Go.Ground.data }, { on := 4, ground := Go.Ground.guard }], guard := some (4, true) }) (v := ?_) rfl (by kernel_rfl) (by kernel_rfl) (by kernel_rfl) (fun _ _ _ h => h) (Or.inl ⟨by rfl, ?_⟩) (by assumption) ?_
                      rotate_left 1
                      · (intro wS hSw; (try dsimp only at hSw); go_simp; (all_goals with_reducible rfl))
                      simp only [Act.put, List.setIfInBounds_toArray, List.set_cons_zero, List.set_cons_succ]
                      refine wpAnyH_take (i := 8) (oi := { dst := some 45, op := Go.Op.load 73 (Go.Operand.tmp 44), type := 73, pos := "l06_tiling.go:48", after := #[{ on := 7, ground := Go.Ground.data }, { on := 4, ground := Go.Ground.guard }], guard := some (4, true) }) (v := ?_) rfl (by kernel_rfl) (by kernel_rfl) (by kernel_rfl) (fun _ _ _ h => h) (Or.inl ⟨by rfl, ?_⟩) (by assumption) ?_
                      rotate_left 1
                      · (intro wS hSw; (try dsimp only at hSw); go_simp; (all_goals with_reducible rfl))
                      simp only [Act.put, List.setIfInBounds_toArray, List.set_cons_zero, List.set_cons_succ]
                      refine wpAnyH_take (i := 9) (oi := { dst := some 46, op := Go.Op.move (Go.Operand.tmp 0), type := 37, pos := "l06_tiling.go:48", after := #[{ on := 4, ground := Go.Ground.guard }], guard := some (4, true) }) (v := ?_) rfl (by kernel_rfl) (by kernel_rfl) (by kernel_rfl) (fun _ _ _ h => h) (Or.inl ⟨by rfl, ?_⟩) (by assumption) ?_
                      rotate_left 1
                      · (intro wS hSw; (try dsimp only at hSw); go_simp; (all_goals with_reducible rfl))
                      simp only [Act.put, List.setIfInBounds_toArray, List.set_cons_zero, List.set_cons_succ]
                      refine wpAnyH_take (i := 10) (oi := { dst := some 47, op := Go.Op.move (Go.Operand.tmp 4), type := 3, pos := "l06_tiling.go:48", after := #[{ on := 4, ground := Go.Ground.guard }], guard := some (4, true) }) (v := ?_) rfl (by kernel_rfl) (by kernel_rfl) (by kernel_rfl) (fun _ _ _ h => h) (Or.inl ⟨by rfl, ?_⟩) (by assumption) ?_
                      rotate_left 1
                      · (intro wS hSw; (try dsimp only at hSw); go_simp; (all_goals with_reducible rfl))
                      simp only [Act.put, List.setIfInBounds_toArray, List.set_cons_zero, List.set_cons_succ]
                      refine wpAnyH_take (i := 11) (oi := { dst := some 48, op := Go.Op.indexAddr 37 (Go.Operand.tmp 46) (Go.Operand.tmp 47), type := 0, pos := "l06_tiling.go:48", after := #[{ on := 9, ground := Go.Ground.data }, { on := 10, ground := Go.Ground.data }, { on := 4, ground := Go.Ground.guard }], guard := some (4, true) }) (v := ?_) rfl (by kernel_rfl) (by kernel_rfl) (by kernel_rfl) (fun _ _ _ h => h) (Or.inl ⟨by rfl, ?_⟩) (by assumption) ?_
                      rotate_left 1
                      · (intro wS hSw; (try dsimp only at hSw); go_simp; (all_goals with_reducible rfl))
                      simp only [Act.put, List.setIfInBounds_toArray, List.set_cons_zero, List.set_cons_succ]
                      refine wpAnyH_take (i := 12) (oi := { dst := some 49, op := Go.Op.load 73 (Go.Operand.tmp 48), type := 73, pos := "l06_tiling.go:48", after := #[{ on := 11, ground := Go.Ground.data }, { on := 4, ground := Go.Ground.guard }], guard := some (4, true) }) (v := ?_) rfl (by kernel_rfl) (by kernel_rfl) (by kernel_rfl) (fun _ _ _ h => h) (Or.inl ⟨by rfl, ?_⟩) (by assumption) ?_
                      rotate_left 1
                      · (intro wS hSw; (try dsimp only at hSw); go_simp; (all_goals with_reducible rfl))
                      simp only [Act.put, List.setIfInBounds_toArray, List.set_cons_zero, List.set_cons_succ]
                      refine wpAnyH_take (i := 13) (oi := { dst := some 50, op := Go.Op.binOp Go.BinOp.eql 73 (Go.Operand.tmp 45) (Go.Operand.tmp 49) 73, type := 4, pos := "l06_tiling.go:48", after := #[{ on := 8, ground := Go.Ground.data }, { on := 12, ground := Go.Ground.data }, { on := 4, ground := Go.Ground.guard }], guard := some (4, true) }) (v := ?_) rfl (by kernel_rfl) (by kernel_rfl) (by kernel_rfl) (fun _ _ _ h => h) (Or.inl ⟨by rfl, ?_⟩) (by assumption) ?_
                      rotate_left 1
                      · (intro wS hSw; (try dsimp only at hSw); go_simp; (all_goals with_reducible rfl))
                      simp only [Act.put, List.setIfInBounds_toArray, List.set_cons_zero, List.set_cons_succ]
                      refine wpAnyH_take (i := 14) (oi := { dst := some 51, op := Go.Op.pick (Go.Operand.tmp 41) (Go.Operand.tmp 50) (Go.Operand.const (Go.Value.bool false)), type := 4, pos := "l06_tiling.go:48", after := #[{ on := 4, ground := Go.Ground.data }, { on := 13, ground := Go.Ground.data }], guard := none }) (v := ?_) rfl (by kernel_rfl) (by kernel_rfl) (by kernel_rfl) (fun _ _ _ h => h) (Or.inl ⟨by rfl, ?_⟩) (by assumption) ?_
                      rotate_left 1
                      · (intro wS hSw; (try dsimp only at hSw); go_simp; (all_goals with_reducible rfl))
                      simp only [Act.put, List.setIfInBounds_toArray, List.set_cons_zero, List.set_cons_succ]
                      refine wpAnyH_done (by kernel_rfl) ?_ _
                      have HO := own3.below ((Below.refl _ _).drew)
                      have B6 := B3.drew
                      clear hHeld z0 z1 z2 hb q1 q2 q3 own3 B3
                      obtain ⟨W5, hW5⟩ : ∃ W5, W5 = W4.drew := ⟨_, rfl⟩
                      rw [← hW5] at HO B6 ⊢
                      clear hW5
                      have Hins : Hid (sortGo (out.take P ++ (x, y, dn) :: out.drop P) (l.drop (k + 1)) = sortD l) := Lib.hid (by rw [← Hg2.out, Hst.out, if_neg HNo.out])
                      have Hsi : Hid (Sorted (out.take P ++ (x, y, dn) :: out.drop P)) := Lib.hid (by have := sorted_step Hso.out (x, y, dn); rw [Hst.out, if_neg HNo.out] at this; exact this)
                      obtain ⟨NW, hNW⟩ : ∃ NW, NW = out.take P ++ (x, y, dn) :: out.drop P := ⟨_, rfl⟩
                      have hNl : NW.length = out.length + 1 := by rw [hNW]; simp; omega
                      have hN2 : (out.take P ++ [(x, y, dn)]) ++ out.drop P = NW := by rw [hNW]; simp
                      rw [← hNW] at Hins Hsi
                      have hrd := HO.rd lenDom (by decide)
                      obtain ⟨_, h3b⟩ := rd_len hrd
                      have hrA := (hrd.below RE.stays ((Below.refl _ _).al (.cells #[] 73))).takeA hPle
                      have htl : (out.take P).length = P := by simp; omega
                      have hdl : (out.drop P).length = out.length - P := by simp
                      have hPc : P ≤ c3 := by omega
                      have hPcI : (P : Int) ≤ (c3 : Int) := by omega
                      have hPo : (P : Int) ≤ (out.length : Int) := by omega
                      obtain ⟨TK, hTK⟩ : ∃ TK, TK = out.take P := ⟨_, rfl⟩
                      obtain ⟨DR, hDR⟩ : ∃ DR, DR = out.drop P := ⟨_, rfl⟩
                      rw [← hTK] at hrA htl hN2
                      rw [← hDR] at hdl hN2
                      have HNl := Lib.hid hNl; have HN2 := Lib.hid hN2; have HTK := Lib.hid hTK; have HDR := Lib.hid hDR; have Htl := Lib.hid htl; have Hdl := Lib.hid hdl
                      have H8a : Hid ((0 + TK.length) * 24 ≤ 140737488355328) := Lib.hid (by omega)
                      have HMa : Hid (0 + TK.length ≤ maxLen) := Lib.hid (by unfold maxLen; omega)
                      have H8b : Hid ((TK.length + 1) * 24 ≤ 140737488355328) := Lib.hid (by omega)
                      have HMb : Hid (TK.length + 1 ≤ maxLen) := Lib.hid (by unfold maxLen; omega)
                      have hTl : (TK ++ [((x, y, dn) : Dm)]).length = P + 1 := by simp; omega
                      have H8c : Hid (((TK ++ [((x, y, dn) : Dm)]).length + DR.length) * 24 ≤ 140737488355328) := Lib.hid (by rw [hTl]; omega)
                      have HMc : Hid ((TK ++ [((x, y, dn) : Dm)]).length + DR.length ≤ maxLen) := Lib.hid (by rw [hTl]; unfold maxLen; omega)
                      have HTl := Lib.hid hTl
                      have hJP : Hid ((P : Int) = ((P : Nat) : Int)) := Lib.hid rfl
                      clear hNl hN2 hNW hTK hDR htl hdl hTl hrd
                      go_wp2_with (first | (at_builtin; (refine wpList_appAllN (enc := eDom) rowDom lenDom oneDom (B := W5.heap.size) (by simp) (own_mt W5 _ rfl _ (Nat.le_refl _)) (n := P) Htl.out hrA H8a.out HMa.out rfl _ _ rfl rfl rfl ?_); intro v6 w6 own6 hb6 hv6; obtain ⟨A6, c6, rfl⟩ := hv6; simp only [List.nil_append, List.length_nil, Nat.zero_add] at own6 ⊢; have B56 : Below W5.heap.size W5 w6 := ((Below.refl _ _).al _).trans hb6; obtain ⟨hb, q1, q2, q3⟩ := QF.out _ (B6.tr B56)) | (at_builtin; (refine wpList_appAllN (enc := eDom) rowDom lenDom oneDom (B := W5.heap.size) hb7.size own7 (n := out.length - P) Hdl.out hr8 H8c.out HMc.out rfl _ _ rfl rfl rfl ?_); intro v9 w9 own9 hb9 hv9; obtain ⟨A9, c9, rfl⟩ := hv9; rw [HN2.out] at own9) | ((with_reducible refine wpList_tail rowDom hrd7 P hPle hJP.out rfl _ _ rfl rfl rfl ?_); intro A8 c8 hr8; rw [← HDR.out] at hr8) | (at_builtin; go_must ((refine wpList_app1 (enc := eDom) rowDom lenDom oneDom B56 own6 ((x, y, dn) : Dm) H8b.out HMb.out rfl _ _ rfl rfl rfl ?_); intro v7 w7 own7 hb7 hg7 hd7; obtain ⟨A7, c7, rfl, hc7, hm7⟩ := own7.form; rw [HTl.out] at own7 ⊢; have hrd7 := (HO.below hb7).rd lenDom (by decide))))
                      have hNA : TK.length + 1 + (out.length - P) = NW.length := by rw [HNl.out, Htl.out]; omega
                      have hNB : (TK ++ [((x, y, dn) : Dm)]).length + (out.length - P) = NW.length := by rw [HNl.out, HTl.out]; omega
                      rw [hNB] at own9
                      go_roundw
                      case rel => exact ⟨k + 1, NW, A9, c9, by omega, by go_num, by rw [hNA], Hins, Hsi, own9.mono B6.size, B6.trans (hb7.trans hb9 |>.mono B6.size)⟩
                      case measure => simp [intOf]; omega
                  · have Hne := Lib.hid hne; clear hne
                    go_wp2_with fail
                    refine wp_region_held_drew (S := (fun w' => w'.cell? ⟨g, P * 3, none⟩ = some (.int .i64 x) ∧ w'.cell? ⟨g, P * 3 + 1, none⟩ = some (.int .i64 ey) ∧ w'.cell? ⟨g, P * 3 + 2, none⟩ = some (.bool ed) ∧ w'.cell? ⟨b, off + k * 3, none⟩ = some (.int .i64 x) ∧ w'.cell? ⟨b, off + k * 3 + 1, none⟩ = some (.int .i64 y) ∧ w'.cell? ⟨b, off + k * 3 + 2, none⟩ = some (.bool dn))) (by kernel_rfl) ?_ (fun hHeld => ?_)
                    · (try dsimp only); (try go_keep)
                    refine wpAnyH_take (i := 0) (oi := { dst := some 37, op := Go.Op.move (Go.Operand.tmp 5), type := 3, pos := "l06_tiling.go:48", after := #[], guard := none }) (v := ?_) rfl (by kernel_rfl) (by kernel_rfl) (by kernel_rfl) (fun _ _ _ h => h) (Or.inl ⟨by rfl, ?_⟩) (by assumption) ?_
                    rotate_left 1
                    · (intro wS hSw; (try dsimp only at hSw); go_simp; (all_goals with_reducible rfl))
                    simp only [Act.put, List.setIfInBounds_toArray, List.set_cons_zero, List.set_cons_succ]
                    refine wpAnyH_take (i := 1) (oi := { dst := some 38, op := Go.Op.move (Go.Operand.tmp 3), type := 37, pos := "l06_tiling.go:48", after := #[], guard := none }) (v := ?_) rfl (by kernel_rfl) (by kernel_rfl) (by kernel_rfl) (fun _ _ _ h => h) (Or.inl ⟨by rfl, ?_⟩) (by assumption) ?_
                    rotate_left 1
                    · (intro wS hSw; (try dsimp only at hSw); go_simp; (all_goals with_reducible rfl))
                    simp only [Act.put, List.setIfInBounds_toArray, List.set_cons_zero, List.set_cons_succ]
                    refine wpAnyH_take (i := 2) (oi := { dst := some 39, op := Go.Op.call { callee := Go.Callee.builtin Go.Builtin.len, args := #[Go.Operand.tmp 38], argTypes := #[37] }, type := 3, pos := "l06_tiling.go:48", after := #[{ on := 1, ground := Go.Ground.data }], guard := none }) (v := ?_) rfl (by kernel_rfl) (by kernel_rfl) (by kernel_rfl) (fun _ _ _ h => h) (Or.inl ⟨by rfl, ?_⟩) (by assumption) ?_
                    rotate_left 1
                    · (intro wS hSw; (try dsimp only at hSw); go_simp; (all_goals with_reducible rfl))
                    simp only [Act.put, List.setIfInBounds_toArray, List.set_cons_zero, List.set_cons_succ]
                    refine wpAnyH_take (i := 3) (oi := { dst := some 40, op := Go.Op.binOp Go.BinOp.lss 3 (Go.Operand.tmp 37) (Go.Operand.tmp 39) 3, type := 4, pos := "l06_tiling.go:48", after := #[{ on := 0, ground := Go.Ground.data }, { on := 2, ground := Go.Ground.data }], guard := none }) (v := ?_) rfl (by kernel_rfl) (by kernel_rfl) (by kernel_rfl) (fun _ _ _ h => h) (Or.inl ⟨by rfl, ?_⟩) (by assumption) ?_
                    rotate_left 1
                    · (intro wS hSw; (try dsimp only at hSw); go_simp; (all_goals with_reducible rfl))
                    simp only [Act.put, List.setIfInBounds_toArray, List.set_cons_zero, List.set_cons_succ]
                    refine wpAnyH_take (i := 4) (oi := { dst := some 41, op := Go.Op.move (Go.Operand.tmp 40), type := 4, pos := "l06_tiling.go:48", after := #[{ on := 3, ground := Go.Ground.data }], guard := none }) (v := ?_) rfl (by kernel_rfl) (by kernel_rfl) (by kernel_rfl) (fun _ _ _ h => h) (Or.inl ⟨by rfl, ?_⟩) (by assumption) ?_
                    rotate_left 1
                    · (intro wS hSw; (try dsimp only at hSw); go_simp; (all_goals with_reducible rfl))
                    simp only [Act.put, List.setIfInBounds_toArray, List.set_cons_zero, List.set_cons_succ]
                    refine wpAnyH_take (i := 5) (oi := { dst := some 42, op := Go.Op.move (Go.Operand.tmp 3), type := 37, pos := "l06_tiling.go:48", after := #[{ on := 4, ground := Go.Ground.guard }], guard := some (4, true) }) (v := ?_) rfl (by kernel_rfl) (by kernel_rfl) (by kernel_rfl) (fun _ _ _ h => h) (Or.inl ⟨by rfl, ?_⟩) (by assumption) ?_
                    rotate_left 1
                    · (intro wS hSw; (try dsimp only at hSw); go_simp; (all_goals with_reducible rfl))
                    simp only [Act.put, List.setIfInBounds_toArray, List.set_cons_zero, List.set_cons_succ]
                    refine wpAnyH_take (i := 6) (oi := { dst := some 43, op := Go.Op.move (Go.Operand.tmp 5), type := 3, pos := "l06_tiling.go:48", after := #[{ on := 4, ground := Go.Ground.guard }], guard := some (4, true) }) (v := ?_) rfl (by kernel_rfl) (by kernel_rfl) (by kernel_rfl) (fun _ _ _ h => h) (Or.inl ⟨by rfl, ?_⟩) (by assumption) ?_
                    rotate_left 1
                    · (intro wS hSw; (try dsimp only at hSw); go_simp; (all_goals with_reducible rfl))
                    simp only [Act.put, List.setIfInBounds_toArray, List.set_cons_zero, List.set_cons_succ]
                    refine wpAnyH_take (i := 7) (oi := { dst := some 44, op := Go.Op.indexAddr 37 (Go.Operand.tmp 42) (Go.Operand.tmp 43), type := 0, pos := "l06_tiling.go:48", after := #[{ on := 5, ground := Go.Ground.data }, { on := 6, ground := Go.Ground.data }, { on := 4, ground := Go.Ground.guard }], guard := some (4, true) }) (v := ?_) rfl (by kernel_rfl) (by kernel_rfl) (by kernel_rfl) (fun _ _ _ h => h) (Or.inl ⟨by rfl, ?_⟩) (by assumption) ?_
                    rotate_left 1
                    · (intro wS hSw; (try dsimp only at hSw); go_simp; (all_goals with_reducible rfl))
                    simp only [Act.put, List.setIfInBounds_toArray, List.set_cons_zero, List.set_cons_succ]
                    refine wpAnyH_take (i := 8) (oi := { dst := some 45, op := Go.Op.load 73 (Go.Operand.tmp 44), type := 73, pos := "l06_tiling.go:48", after := #[{ on := 7, ground := Go.Ground.data }, { on := 4, ground := Go.Ground.guard }], guard := some (4, true) }) (v := ?_) rfl (by kernel_rfl) (by kernel_rfl) (by kernel_rfl) (fun _ _ _ h => h) (Or.inl ⟨by rfl, ?_⟩) (by assumption) ?_
                    rotate_left 1
                    · (intro wS hSw; (try dsimp only at hSw); go_simp; (all_goals with_reducible rfl))
                    simp only [Act.put, List.setIfInBounds_toArray, List.set_cons_zero, List.set_cons_succ]
                    refine wpAnyH_take (i := 9) (oi := { dst := some 46, op := Go.Op.move (Go.Operand.tmp 0), type := 37, pos := "l06_tiling.go:48", after := #[{ on := 4, ground := Go.Ground.guard }], guard := some (4, true) }) (v := ?_) rfl (by kernel_rfl) (by kernel_rfl) (by kernel_rfl) (fun _ _ _ h => h) (Or.inl ⟨by rfl, ?_⟩) (by assumption) ?_
                    rotate_left 1
                    · (intro wS hSw; (try dsimp only at hSw); go_simp; (all_goals with_reducible rfl))
                    simp only [Act.put, List.setIfInBounds_toArray, List.set_cons_zero, List.set_cons_succ]
                    refine wpAnyH_take (i := 10) (oi := { dst := some 47, op := Go.Op.move (Go.Operand.tmp 4), type := 3, pos := "l06_tiling.go:48", after := #[{ on := 4, ground := Go.Ground.guard }], guard := some (4, true) }) (v := ?_) rfl (by kernel_rfl) (by kernel_rfl) (by kernel_rfl) (fun _ _ _ h => h) (Or.inl ⟨by rfl, ?_⟩) (by assumption) ?_
                    rotate_left 1
                    · (intro wS hSw; (try dsimp only at hSw); go_simp; (all_goals with_reducible rfl))
                    simp only [Act.put, List.setIfInBounds_toArray, List.set_cons_zero, List.set_cons_succ]
                    refine wpAnyH_take (i := 11) (oi := { dst := some 48, op := Go.Op.indexAddr 37 (Go.Operand.tmp 46) (Go.Operand.tmp 47), type := 0, pos := "l06_tiling.go:48", after := #[{ on := 9, ground := Go.Ground.data }, { on := 10, ground := Go.Ground.data }, { on := 4, ground := Go.Ground.guard }], guard := some (4, true) }) (v := ?_) rfl (by kernel_rfl) (by kernel_rfl) (by kernel_rfl) (fun _ _ _ h => h) (Or.inl ⟨by rfl, ?_⟩) (by assumption) ?_
                    rotate_left 1
                    · (intro wS hSw; (try dsimp only at hSw); go_simp; (all_goals with_reducible rfl))
                    simp only [Act.put, List.setIfInBounds_toArray, List.set_cons_zero, List.set_cons_succ]
                    refine wpAnyH_take (i := 12) (oi := { dst := some 49, op := Go.Op.load 73 (Go.Operand.tmp 48), type := 73, pos := "l06_tiling.go:48", after := #[{ on := 11, ground := Go.Ground.data }, { on := 4, ground := Go.Ground.guard }], guard := some (4, true) }) (v := ?_) rfl (by kernel_rfl) (by kernel_rfl) (by kernel_rfl) (fun _ _ _ h => h) (Or.inl ⟨by rfl, ?_⟩) (by assumption) ?_
                    rotate_left 1
                    · (intro wS hSw; (try dsimp only at hSw); go_simp; (all_goals with_reducible rfl))
                    simp only [Act.put, List.setIfInBounds_toArray, List.set_cons_zero, List.set_cons_succ]
                    refine wpAnyH_take (i := 13) (oi := { dst := some 50, op := Go.Op.binOp Go.BinOp.eql 73 (Go.Operand.tmp 45) (Go.Operand.tmp 49) 73, type := 4, pos := "l06_tiling.go:48", after := #[{ on := 8, ground := Go.Ground.data }, { on := 12, ground := Go.Ground.data }, { on := 4, ground := Go.Ground.guard }], guard := some (4, true) }) (v := ?_) rfl (by kernel_rfl) (by kernel_rfl) (by kernel_rfl) (fun _ _ _ h => h) (Or.inl ⟨by rfl, ?_⟩) (by assumption) ?_
                    rotate_left 1
                    · (intro wS hSw; (try dsimp only at hSw); go_simp; (all_goals with_reducible rfl))
                    simp only [Act.put, List.setIfInBounds_toArray, List.set_cons_zero, List.set_cons_succ]
                    refine wpAnyH_take (i := 14) (oi := { dst := some 51, op := Go.Op.pick (Go.Operand.tmp 41) (Go.Operand.tmp 50) (Go.Operand.const (Go.Value.bool false)), type := 4, pos := "l06_tiling.go:48", after := #[{ on := 4, ground := Go.Ground.data }, { on := 13, ground := Go.Ground.data }], guard := none }) (v := ?_) rfl (by kernel_rfl) (by kernel_rfl) (by kernel_rfl) (fun _ _ _ h => h) (Or.inl ⟨by rfl, ?_⟩) (by assumption) ?_
                    rotate_left 1
                    · (intro wS hSw; (try dsimp only at hSw); go_simp; (all_goals with_reducible rfl))
                    simp only [Act.put, List.setIfInBounds_toArray, List.set_cons_zero, List.set_cons_succ]
                    refine wpAnyH_done (by kernel_rfl) ?_ _
                    have HO := own3.below ((Below.refl _ _).drew)
                    have B6 := B3.drew
                    clear hHeld z0 z1 z2 hb q1 q2 q3 own3 B3
                    obtain ⟨W5, hW5⟩ : ∃ W5, W5 = W4.drew := ⟨_, rfl⟩
                    rw [← hW5] at HO B6 ⊢
                    clear hW5
                    have Hins : Hid (sortGo (out.take P ++ (x, y, dn) :: out.drop P) (l.drop (k + 1)) = sortD l) := Lib.hid (by rw [← Hg2.out, Hst.out, if_neg HNo.out])
                    have Hsi : Hid (Sorted (out.take P ++ (x, y, dn) :: out.drop P)) := Lib.hid (by have := sorted_step Hso.out (x, y, dn); rw [Hst.out, if_neg HNo.out] at this; exact this)
                    obtain ⟨NW, hNW⟩ : ∃ NW, NW = out.take P ++ (x, y, dn) :: out.drop P := ⟨_, rfl⟩
                    have hNl : NW.length = out.length + 1 := by rw [hNW]; simp; omega
                    have hN2 : (out.take P ++ [(x, y, dn)]) ++ out.drop P = NW := by rw [hNW]; simp
                    rw [← hNW] at Hins Hsi
                    have hrd := HO.rd lenDom (by decide)
                    obtain ⟨_, h3b⟩ := rd_len hrd
                    have hrA := (hrd.below RE.stays ((Below.refl _ _).al (.cells #[] 73))).takeA hPle
                    have htl : (out.take P).length = P := by simp; omega
                    have hdl : (out.drop P).length = out.length - P := by simp
                    have hPc : P ≤ c3 := by omega
                    have hPcI : (P : Int) ≤ (c3 : Int) := by omega
                    have hPo : (P : Int) ≤ (out.length : Int) := by omega
                    obtain ⟨TK, hTK⟩ : ∃ TK, TK = out.take P := ⟨_, rfl⟩
                    obtain ⟨DR, hDR⟩ : ∃ DR, DR = out.drop P := ⟨_, rfl⟩
                    rw [← hTK] at hrA htl hN2
                    rw [← hDR] at hdl hN2
                    have HNl := Lib.hid hNl; have HN2 := Lib.hid hN2; have HTK := Lib.hid hTK; have HDR := Lib.hid hDR; have Htl := Lib.hid htl; have Hdl := Lib.hid hdl
                    have H8a : Hid ((0 + TK.length) * 24 ≤ 140737488355328) := Lib.hid (by omega)
                    have HMa : Hid (0 + TK.length ≤ maxLen) := Lib.hid (by unfold maxLen; omega)
                    have H8b : Hid ((TK.length + 1) * 24 ≤ 140737488355328) := Lib.hid (by omega)
                    have HMb : Hid (TK.length + 1 ≤ maxLen) := Lib.hid (by unfold maxLen; omega)
                    have hTl : (TK ++ [((x, y, dn) : Dm)]).length = P + 1 := by simp; omega
                    have H8c : Hid (((TK ++ [((x, y, dn) : Dm)]).length + DR.length) * 24 ≤ 140737488355328) := Lib.hid (by rw [hTl]; omega)
                    have HMc : Hid ((TK ++ [((x, y, dn) : Dm)]).length + DR.length ≤ maxLen) := Lib.hid (by rw [hTl]; unfold maxLen; omega)
                    have HTl := Lib.hid hTl
                    have hJP : Hid ((P : Int) = ((P : Nat) : Int)) := Lib.hid rfl
                    clear hNl hN2 hNW hTK hDR htl hdl hTl hrd
                    go_wp2_with (first | (at_builtin; (refine wpList_appAllN (enc := eDom) rowDom lenDom oneDom (B := W5.heap.size) (by simp) (own_mt W5 _ rfl _ (Nat.le_refl _)) (n := P) Htl.out hrA H8a.out HMa.out rfl _ _ rfl rfl rfl ?_); intro v6 w6 own6 hb6 hv6; obtain ⟨A6, c6, rfl⟩ := hv6; simp only [List.nil_append, List.length_nil, Nat.zero_add] at own6 ⊢; have B56 : Below W5.heap.size W5 w6 := ((Below.refl _ _).al _).trans hb6; obtain ⟨hb, q1, q2, q3⟩ := QF.out _ (B6.tr B56)) | (at_builtin; (refine wpList_appAllN (enc := eDom) rowDom lenDom oneDom (B := W5.heap.size) hb7.size own7 (n := out.length - P) Hdl.out hr8 H8c.out HMc.out rfl _ _ rfl rfl rfl ?_); intro v9 w9 own9 hb9 hv9; obtain ⟨A9, c9, rfl⟩ := hv9; rw [HN2.out] at own9) | ((with_reducible refine wpList_tail rowDom hrd7 P hPle hJP.out rfl _ _ rfl rfl rfl ?_); intro A8 c8 hr8; rw [← HDR.out] at hr8) | (at_builtin; go_must ((refine wpList_app1 (enc := eDom) rowDom lenDom oneDom B56 own6 ((x, y, dn) : Dm) H8b.out HMb.out rfl _ _ rfl rfl rfl ?_); intro v7 w7 own7 hb7 hg7 hd7; obtain ⟨A7, c7, rfl, hc7, hm7⟩ := own7.form; rw [HTl.out] at own7 ⊢; have hrd7 := (HO.below hb7).rd lenDom (by decide))))
                    have hNA : TK.length + 1 + (out.length - P) = NW.length := by rw [HNl.out, Htl.out]; omega
                    have hNB : (TK ++ [((x, y, dn) : Dm)]).length + (out.length - P) = NW.length := by rw [HNl.out, HTl.out]; omega
                    rw [hNB] at own9
                    go_roundw
                    case rel => exact ⟨k + 1, NW, A9, c9, by omega, by go_num, by rw [hNA], Hins, Hsi, own9.mono B6.size, B6.trans (hb7.trans hb9 |>.mono B6.size)⟩
                    case measure => simp [intOf]; omega
                · have Hne := Lib.hid hne; clear hne
                  go_wp2_with fail
                  refine wp_region_held_drew (S := (fun w' => w'.cell? ⟨g, P * 3, none⟩ = some (.int .i64 ex) ∧ w'.cell? ⟨g, P * 3 + 1, none⟩ = some (.int .i64 ey) ∧ w'.cell? ⟨g, P * 3 + 2, none⟩ = some (.bool ed) ∧ w'.cell? ⟨b, off + k * 3, none⟩ = some (.int .i64 x) ∧ w'.cell? ⟨b, off + k * 3 + 1, none⟩ = some (.int .i64 y) ∧ w'.cell? ⟨b, off + k * 3 + 2, none⟩ = some (.bool dn))) (by kernel_rfl) ?_ (fun hHeld => ?_)
                  · (try dsimp only); (try go_keep)
                  refine wpAnyH_take (i := 0) (oi := { dst := some 37, op := Go.Op.move (Go.Operand.tmp 5), type := 3, pos := "l06_tiling.go:48", after := #[], guard := none }) (v := ?_) rfl (by kernel_rfl) (by kernel_rfl) (by kernel_rfl) (fun _ _ _ h => h) (Or.inl ⟨by rfl, ?_⟩) (by assumption) ?_
                  rotate_left 1
                  · (intro wS hSw; (try dsimp only at hSw); go_simp; (all_goals with_reducible rfl))
                  simp only [Act.put, List.setIfInBounds_toArray, List.set_cons_zero, List.set_cons_succ]
                  refine wpAnyH_take (i := 1) (oi := { dst := some 38, op := Go.Op.move (Go.Operand.tmp 3), type := 37, pos := "l06_tiling.go:48", after := #[], guard := none }) (v := ?_) rfl (by kernel_rfl) (by kernel_rfl) (by kernel_rfl) (fun _ _ _ h => h) (Or.inl ⟨by rfl, ?_⟩) (by assumption) ?_
                  rotate_left 1
                  · (intro wS hSw; (try dsimp only at hSw); go_simp; (all_goals with_reducible rfl))
                  simp only [Act.put, List.setIfInBounds_toArray, List.set_cons_zero, List.set_cons_succ]
                  refine wpAnyH_take (i := 2) (oi := { dst := some 39, op := Go.Op.call { callee := Go.Callee.builtin Go.Builtin.len, args := #[Go.Operand.tmp 38], argTypes := #[37] }, type := 3, pos := "l06_tiling.go:48", after := #[{ on := 1, ground := Go.Ground.data }], guard := none }) (v := ?_) rfl (by kernel_rfl) (by kernel_rfl) (by kernel_rfl) (fun _ _ _ h => h) (Or.inl ⟨by rfl, ?_⟩) (by assumption) ?_
                  rotate_left 1
                  · (intro wS hSw; (try dsimp only at hSw); go_simp; (all_goals with_reducible rfl))
                  simp only [Act.put, List.setIfInBounds_toArray, List.set_cons_zero, List.set_cons_succ]
                  refine wpAnyH_take (i := 3) (oi := { dst := some 40, op := Go.Op.binOp Go.BinOp.lss 3 (Go.Operand.tmp 37) (Go.Operand.tmp 39) 3, type := 4, pos := "l06_tiling.go:48", after := #[{ on := 0, ground := Go.Ground.data }, { on := 2, ground := Go.Ground.data }], guard := none }) (v := ?_) rfl (by kernel_rfl) (by kernel_rfl) (by kernel_rfl) (fun _ _ _ h => h) (Or.inl ⟨by rfl, ?_⟩) (by assumption) ?_
                  rotate_left 1
                  · (intro wS hSw; (try dsimp only at hSw); go_simp; (all_goals with_reducible rfl))
                  simp only [Act.put, List.setIfInBounds_toArray, List.set_cons_zero, List.set_cons_succ]
                  refine wpAnyH_take (i := 4) (oi := { dst := some 41, op := Go.Op.move (Go.Operand.tmp 40), type := 4, pos := "l06_tiling.go:48", after := #[{ on := 3, ground := Go.Ground.data }], guard := none }) (v := ?_) rfl (by kernel_rfl) (by kernel_rfl) (by kernel_rfl) (fun _ _ _ h => h) (Or.inl ⟨by rfl, ?_⟩) (by assumption) ?_
                  rotate_left 1
                  · (intro wS hSw; (try dsimp only at hSw); go_simp; (all_goals with_reducible rfl))
                  simp only [Act.put, List.setIfInBounds_toArray, List.set_cons_zero, List.set_cons_succ]
                  refine wpAnyH_take (i := 5) (oi := { dst := some 42, op := Go.Op.move (Go.Operand.tmp 3), type := 37, pos := "l06_tiling.go:48", after := #[{ on := 4, ground := Go.Ground.guard }], guard := some (4, true) }) (v := ?_) rfl (by kernel_rfl) (by kernel_rfl) (by kernel_rfl) (fun _ _ _ h => h) (Or.inl ⟨by rfl, ?_⟩) (by assumption) ?_
                  rotate_left 1
                  · (intro wS hSw; (try dsimp only at hSw); go_simp; (all_goals with_reducible rfl))
                  simp only [Act.put, List.setIfInBounds_toArray, List.set_cons_zero, List.set_cons_succ]
                  refine wpAnyH_take (i := 6) (oi := { dst := some 43, op := Go.Op.move (Go.Operand.tmp 5), type := 3, pos := "l06_tiling.go:48", after := #[{ on := 4, ground := Go.Ground.guard }], guard := some (4, true) }) (v := ?_) rfl (by kernel_rfl) (by kernel_rfl) (by kernel_rfl) (fun _ _ _ h => h) (Or.inl ⟨by rfl, ?_⟩) (by assumption) ?_
                  rotate_left 1
                  · (intro wS hSw; (try dsimp only at hSw); go_simp; (all_goals with_reducible rfl))
                  simp only [Act.put, List.setIfInBounds_toArray, List.set_cons_zero, List.set_cons_succ]
                  refine wpAnyH_take (i := 7) (oi := { dst := some 44, op := Go.Op.indexAddr 37 (Go.Operand.tmp 42) (Go.Operand.tmp 43), type := 0, pos := "l06_tiling.go:48", after := #[{ on := 5, ground := Go.Ground.data }, { on := 6, ground := Go.Ground.data }, { on := 4, ground := Go.Ground.guard }], guard := some (4, true) }) (v := ?_) rfl (by kernel_rfl) (by kernel_rfl) (by kernel_rfl) (fun _ _ _ h => h) (Or.inl ⟨by rfl, ?_⟩) (by assumption) ?_
                  rotate_left 1
                  · (intro wS hSw; (try dsimp only at hSw); go_simp; (all_goals with_reducible rfl))
                  simp only [Act.put, List.setIfInBounds_toArray, List.set_cons_zero, List.set_cons_succ]
                  refine wpAnyH_take (i := 8) (oi := { dst := some 45, op := Go.Op.load 73 (Go.Operand.tmp 44), type := 73, pos := "l06_tiling.go:48", after := #[{ on := 7, ground := Go.Ground.data }, { on := 4, ground := Go.Ground.guard }], guard := some (4, true) }) (v := ?_) rfl (by kernel_rfl) (by kernel_rfl) (by kernel_rfl) (fun _ _ _ h => h) (Or.inl ⟨by rfl, ?_⟩) (by assumption) ?_
                  rotate_left 1
                  · (intro wS hSw; (try dsimp only at hSw); go_simp; (all_goals with_reducible rfl))
                  simp only [Act.put, List.setIfInBounds_toArray, List.set_cons_zero, List.set_cons_succ]
                  refine wpAnyH_take (i := 9) (oi := { dst := some 46, op := Go.Op.move (Go.Operand.tmp 0), type := 37, pos := "l06_tiling.go:48", after := #[{ on := 4, ground := Go.Ground.guard }], guard := some (4, true) }) (v := ?_) rfl (by kernel_rfl) (by kernel_rfl) (by kernel_rfl) (fun _ _ _ h => h) (Or.inl ⟨by rfl, ?_⟩) (by assumption) ?_
                  rotate_left 1
                  · (intro wS hSw; (try dsimp only at hSw); go_simp; (all_goals with_reducible rfl))
                  simp only [Act.put, List.setIfInBounds_toArray, List.set_cons_zero, List.set_cons_succ]
                  refine wpAnyH_take (i := 10) (oi := { dst := some 47, op := Go.Op.move (Go.Operand.tmp 4), type := 3, pos := "l06_tiling.go:48", after := #[{ on := 4, ground := Go.Ground.guard }], guard := some (4, true) }) (v := ?_) rfl (by kernel_rfl) (by kernel_rfl) (by kernel_rfl) (fun _ _ _ h => h) (Or.inl ⟨by rfl, ?_⟩) (by assumption) ?_
                  rotate_left 1
                  · (intro wS hSw; (try dsimp only at hSw); go_simp; (all_goals with_reducible rfl))
                  simp only [Act.put, List.setIfInBounds_toArray, List.set_cons_zero, List.set_cons_succ]
                  refine wpAnyH_take (i := 11) (oi := { dst := some 48, op := Go.Op.indexAddr 37 (Go.Operand.tmp 46) (Go.Operand.tmp 47), type := 0, pos := "l06_tiling.go:48", after := #[{ on := 9, ground := Go.Ground.data }, { on := 10, ground := Go.Ground.data }, { on := 4, ground := Go.Ground.guard }], guard := some (4, true) }) (v := ?_) rfl (by kernel_rfl) (by kernel_rfl) (by kernel_rfl) (fun _ _ _ h => h) (Or.inl ⟨by rfl, ?_⟩) (by assumption) ?_
                  rotate_left 1
                  · (intro wS hSw; (try dsimp only at hSw); go_simp; (all_goals with_reducible rfl))
                  simp only [Act.put, List.setIfInBounds_toArray, List.set_cons_zero, List.set_cons_succ]
                  refine wpAnyH_take (i := 12) (oi := { dst := some 49, op := Go.Op.load 73 (Go.Operand.tmp 48), type := 73, pos := "l06_tiling.go:48", after := #[{ on := 11, ground := Go.Ground.data }, { on := 4, ground := Go.Ground.guard }], guard := some (4, true) }) (v := ?_) rfl (by kernel_rfl) (by kernel_rfl) (by kernel_rfl) (fun _ _ _ h => h) (Or.inl ⟨by rfl, ?_⟩) (by assumption) ?_
                  rotate_left 1
                  · (intro wS hSw; (try dsimp only at hSw); go_simp; (all_goals with_reducible rfl))
                  simp only [Act.put, List.setIfInBounds_toArray, List.set_cons_zero, List.set_cons_succ]
                  refine wpAnyH_take (i := 13) (oi := { dst := some 50, op := Go.Op.binOp Go.BinOp.eql 73 (Go.Operand.tmp 45) (Go.Operand.tmp 49) 73, type := 4, pos := "l06_tiling.go:48", after := #[{ on := 8, ground := Go.Ground.data }, { on := 12, ground := Go.Ground.data }, { on := 4, ground := Go.Ground.guard }], guard := some (4, true) }) (v := ?_) rfl (by kernel_rfl) (by kernel_rfl) (by kernel_rfl) (fun _ _ _ h => h) (Or.inl ⟨by rfl, ?_⟩) (by assumption) ?_
                  rotate_left 1
                  · (intro wS hSw; (try dsimp only at hSw); go_simp; (all_goals with_reducible rfl))
                  simp only [Act.put, List.setIfInBounds_toArray, List.set_cons_zero, List.set_cons_succ]
                  refine wpAnyH_take (i := 14) (oi := { dst := some 51, op := Go.Op.pick (Go.Operand.tmp 41) (Go.Operand.tmp 50) (Go.Operand.const (Go.Value.bool false)), type := 4, pos := "l06_tiling.go:48", after := #[{ on := 4, ground := Go.Ground.data }, { on := 13, ground := Go.Ground.data }], guard := none }) (v := ?_) rfl (by kernel_rfl) (by kernel_rfl) (by kernel_rfl) (fun _ _ _ h => h) (Or.inl ⟨by rfl, ?_⟩) (by assumption) ?_
                  rotate_left 1
                  · (intro wS hSw; (try dsimp only at hSw); go_simp; (all_goals with_reducible rfl))
                  simp only [Act.put, List.setIfInBounds_toArray, List.set_cons_zero, List.set_cons_succ]
                  refine wpAnyH_done (by kernel_rfl) ?_ _
                  have HO := own3.below ((Below.refl _ _).drew)
                  have B6 := B3.drew
                  clear hHeld z0 z1 z2 hb q1 q2 q3 own3 B3
                  obtain ⟨W5, hW5⟩ : ∃ W5, W5 = W4.drew := ⟨_, rfl⟩
                  rw [← hW5] at HO B6 ⊢
                  clear hW5
                  have Hins : Hid (sortGo (out.take P ++ (x, y, dn) :: out.drop P) (l.drop (k + 1)) = sortD l) := Lib.hid (by rw [← Hg2.out, Hst.out, if_neg HNo.out])
                  have Hsi : Hid (Sorted (out.take P ++ (x, y, dn) :: out.drop P)) := Lib.hid (by have := sorted_step Hso.out (x, y, dn); rw [Hst.out, if_neg HNo.out] at this; exact this)
                  obtain ⟨NW, hNW⟩ : ∃ NW, NW = out.take P ++ (x, y, dn) :: out.drop P := ⟨_, rfl⟩
                  have hNl : NW.length = out.length + 1 := by rw [hNW]; simp; omega
                  have hN2 : (out.take P ++ [(x, y, dn)]) ++ out.drop P = NW := by rw [hNW]; simp
                  rw [← hNW] at Hins Hsi
                  have hrd := HO.rd lenDom (by decide)
                  obtain ⟨_, h3b⟩ := rd_len hrd
                  have hrA := (hrd.below RE.stays ((Below.refl _ _).al (.cells #[] 73))).takeA hPle
                  have htl : (out.take P).length = P := by simp; omega
                  have hdl : (out.drop P).length = out.length - P := by simp
                  have hPc : P ≤ c3 := by omega
                  have hPcI : (P : Int) ≤ (c3 : Int) := by omega
                  have hPo : (P : Int) ≤ (out.length : Int) := by omega
                  obtain ⟨TK, hTK⟩ : ∃ TK, TK = out.take P := ⟨_, rfl⟩
                  obtain ⟨DR, hDR⟩ : ∃ DR, DR = out.drop P := ⟨_, rfl⟩
                  rw [← hTK] at hrA htl hN2
                  rw [← hDR] at hdl hN2
                  have HNl := Lib.hid hNl; have HN2 := Lib.hid hN2; have HTK := Lib.hid hTK; have HDR := Lib.hid hDR; have Htl := Lib.hid htl; have Hdl := Lib.hid hdl
                  have H8a : Hid ((0 + TK.length) * 24 ≤ 140737488355328) := Lib.hid (by omega)
                  have HMa : Hid (0 + TK.length ≤ maxLen) := Lib.hid (by unfold maxLen; omega)
                  have H8b : Hid ((TK.length + 1) * 24 ≤ 140737488355328) := Lib.hid (by omega)
                  have HMb : Hid (TK.length + 1 ≤ maxLen) := Lib.hid (by unfold maxLen; omega)
                  have hTl : (TK ++ [((x, y, dn) : Dm)]).length = P + 1 := by simp; omega
                  have H8c : Hid (((TK ++ [((x, y, dn) : Dm)]).length + DR.length) * 24 ≤ 140737488355328) := Lib.hid (by rw [hTl]; omega)
                  have HMc : Hid ((TK ++ [((x, y, dn) : Dm)]).length + DR.length ≤ maxLen) := Lib.hid (by rw [hTl]; unfold maxLen; omega)
                  have HTl := Lib.hid hTl
                  have hJP : Hid ((P : Int) = ((P : Nat) : Int)) := Lib.hid rfl
                  clear hNl hN2 hNW hTK hDR htl hdl hTl hrd
                  go_wp2_with (first | (at_builtin; (refine wpList_appAllN (enc := eDom) rowDom lenDom oneDom (B := W5.heap.size) (by simp) (own_mt W5 _ rfl _ (Nat.le_refl _)) (n := P) Htl.out hrA H8a.out HMa.out rfl _ _ rfl rfl rfl ?_); intro v6 w6 own6 hb6 hv6; obtain ⟨A6, c6, rfl⟩ := hv6; simp only [List.nil_append, List.length_nil, Nat.zero_add] at own6 ⊢; have B56 : Below W5.heap.size W5 w6 := ((Below.refl _ _).al _).trans hb6; obtain ⟨hb, q1, q2, q3⟩ := QF.out _ (B6.tr B56)) | (at_builtin; (refine wpList_appAllN (enc := eDom) rowDom lenDom oneDom (B := W5.heap.size) hb7.size own7 (n := out.length - P) Hdl.out hr8 H8c.out HMc.out rfl _ _ rfl rfl rfl ?_); intro v9 w9 own9 hb9 hv9; obtain ⟨A9, c9, rfl⟩ := hv9; rw [HN2.out] at own9) | ((with_reducible refine wpList_tail rowDom hrd7 P hPle hJP.out rfl _ _ rfl rfl rfl ?_); intro A8 c8 hr8; rw [← HDR.out] at hr8) | (at_builtin; go_must ((refine wpList_app1 (enc := eDom) rowDom lenDom oneDom B56 own6 ((x, y, dn) : Dm) H8b.out HMb.out rfl _ _ rfl rfl rfl ?_); intro v7 w7 own7 hb7 hg7 hd7; obtain ⟨A7, c7, rfl, hc7, hm7⟩ := own7.form; rw [HTl.out] at own7 ⊢; have hrd7 := (HO.below hb7).rd lenDom (by decide))))
                  have hNA : TK.length + 1 + (out.length - P) = NW.length := by rw [HNl.out, Htl.out]; omega
                  have hNB : (TK ++ [((x, y, dn) : Dm)]).length + (out.length - P) = NW.length := by rw [HNl.out, HTl.out]; omega
                  rw [hNB] at own9
                  go_roundw
                  case rel => exact ⟨k + 1, NW, A9, c9, by omega, by go_num, by rw [hNA], Hins, Hsi, own9.mono B6.size, B6.trans (hb7.trans hb9 |>.mono B6.size)⟩
                  case measure => simp [intOf]; omega
          · have hjP : P = j := by omega
            subst hjP
            have hjz : (out.length : Int) ≤ (P : Int) := by omega
            have HNo : Hid (¬ out[P]? = some (x, y, dn)) := Lib.hid (by rw [List.getElem?_eq_none (by omega)]; simp)
            have hn3 : decide (P < out.length) = false := by simp; omega
            clear hb q1 q2 q3
            go_wp2_with fail
            refine wp_region_held_drew (S := (fun _ => True)) (by kernel_rfl) ?_ (fun hHeld => ?_)
            · (try dsimp only); (try go_keep)
            refine wpAnyH_take (i := 0) (oi := { dst := some 20, op := Go.Op.move (Go.Operand.tmp 5), type := 3, pos := "l06_tiling.go:45", after := #[], guard := none }) (v := ?_) rfl (by kernel_rfl) (by kernel_rfl) (by kernel_rfl) (fun _ _ _ h => h) (Or.inl ⟨by rfl, ?_⟩) (by assumption) ?_
            rotate_left 1
            · (intro wS hSw; (try dsimp only at hSw); go_simp; (all_goals with_reducible rfl))
            simp only [Act.put, List.setIfInBounds_toArray, List.set_cons_zero, List.set_cons_succ]
            refine wpAnyH_take (i := 1) (oi := { dst := some 21, op := Go.Op.move (Go.Operand.tmp 3), type := 37, pos := "l06_tiling.go:45", after := #[], guard := none }) (v := ?_) rfl (by kernel_rfl) (by kernel_rfl) (by kernel_rfl) (fun _ _ _ h => h) (Or.inl ⟨by rfl, ?_⟩) (by assumption) ?_
            rotate_left 1
            · (intro wS hSw; (try dsimp only at hSw); go_simp; (all_goals with_reducible rfl))
            simp only [Act.put, List.setIfInBounds_toArray, List.set_cons_zero, List.set_cons_succ]
            refine wpAnyH_take (i := 2) (oi := { dst := some 22, op := Go.Op.call { callee := Go.Callee.builtin Go.Builtin.len, args := #[Go.Operand.tmp 21], argTypes := #[37] }, type := 3, pos := "l06_tiling.go:45", after := #[{ on := 1, ground := Go.Ground.data }], guard := none }) (v := ?_) rfl (by kernel_rfl) (by kernel_rfl) (by kernel_rfl) (fun _ _ _ h => h) (Or.inl ⟨by rfl, ?_⟩) (by assumption) ?_
            rotate_left 1
            · (intro wS hSw; (try dsimp only at hSw); go_simp; (all_goals with_reducible rfl))
            simp only [Act.put, List.setIfInBounds_toArray, List.set_cons_zero, List.set_cons_succ]
            refine wpAnyH_take (i := 3) (oi := { dst := some 23, op := Go.Op.binOp Go.BinOp.lss 3 (Go.Operand.tmp 20) (Go.Operand.tmp 22) 3, type := 4, pos := "l06_tiling.go:45", after := #[{ on := 0, ground := Go.Ground.data }, { on := 2, ground := Go.Ground.data }], guard := none }) (v := ?_) rfl (by kernel_rfl) (by kernel_rfl) (by kernel_rfl) (fun _ _ _ h => h) (Or.inl ⟨by rfl, ?_⟩) (by assumption) ?_
            rotate_left 1
            · (intro wS hSw; (try dsimp only at hSw); go_simp; (all_goals with_reducible rfl))
            simp only [Act.put, List.setIfInBounds_toArray, List.set_cons_zero, List.set_cons_succ]
            refine wpAnyH_take (i := 4) (oi := { dst := some 24, op := Go.Op.move (Go.Operand.tmp 23), type := 4, pos := "l06_tiling.go:45", after := #[{ on := 3, ground := Go.Ground.data }], guard := none }) (v := ?_) rfl (by kernel_rfl) (by kernel_rfl) (by kernel_rfl) (fun _ _ _ h => h) (Or.inl ⟨by rfl, ?_⟩) (by assumption) ?_
            rotate_left 1
            · (intro wS hSw; (try dsimp only at hSw); go_simp; (all_goals with_reducible rfl))
            simp only [Act.put, List.setIfInBounds_toArray, List.set_cons_zero, List.set_cons_succ]
            refine wpAnyH_take (i := 5) (oi := { dst := some 25, op := Go.Op.move (Go.Operand.tmp 3), type := 37, pos := "l06_tiling.go:45", after := #[{ on := 4, ground := Go.Ground.guard }], guard := some (4, true) }) (v := undef) rfl (by kernel_rfl) (by kernel_rfl) (by kernel_rfl) (fun _ _ _ h => h) (Or.inr ⟨by rfl, rfl⟩) (by assumption) ?_
            simp only [Act.put, List.setIfInBounds_toArray, List.set_cons_zero, List.set_cons_succ]
            refine wpAnyH_take (i := 6) (oi := { dst := some 26, op := Go.Op.move (Go.Operand.tmp 5), type := 3, pos := "l06_tiling.go:45", after := #[{ on := 4, ground := Go.Ground.guard }], guard := some (4, true) }) (v := undef) rfl (by kernel_rfl) (by kernel_rfl) (by kernel_rfl) (fun _ _ _ h => h) (Or.inr ⟨by rfl, rfl⟩) (by assumption) ?_
            simp only [Act.put, List.setIfInBounds_toArray, List.set_cons_zero, List.set_cons_succ]
            refine wpAnyH_take (i := 7) (oi := { dst := some 27, op := Go.Op.indexAddr 37 (Go.Operand.tmp 25) (Go.Operand.tmp 26), type := 0, pos := "l06_tiling.go:45", after := #[{ on := 5, ground := Go.Ground.data }, { on := 6, ground := Go.Ground.data }, { on := 4, ground := Go.Ground.guard }], guard := some (4, true) }) (v := undef) rfl (by kernel_rfl) (by kernel_rfl) (by kernel_rfl) (fun _ _ _ h => h) (Or.inr ⟨by rfl, rfl⟩) (by assumption) ?_
            simp only [Act.put, List.setIfInBounds_toArray, List.set_cons_zero, List.set_cons_succ]
            refine wpAnyH_take (i := 8) (oi := { dst := some 28, op := Go.Op.load 73 (Go.Operand.tmp 27), type := 73, pos := "l06_tiling.go:45", after := #[{ on := 7, ground := Go.Ground.data }, { on := 4, ground := Go.Ground.guard }], guard := some (4, true) }) (v := undef) rfl (by kernel_rfl) (by kernel_rfl) (by kernel_rfl) (fun _ _ _ h => h) (Or.inr ⟨by rfl, rfl⟩) (by assumption) ?_
            simp only [Act.put, List.setIfInBounds_toArray, List.set_cons_zero, List.set_cons_succ]
            refine wpAnyH_take (i := 9) (oi := { dst := some 29, op := Go.Op.move (Go.Operand.tmp 0), type := 37, pos := "l06_tiling.go:45", after := #[{ on := 4, ground := Go.Ground.guard }], guard := some (4, true) }) (v := undef) rfl (by kernel_rfl) (by kernel_rfl) (by kernel_rfl) (fun _ _ _ h => h) (Or.inr ⟨by rfl, rfl⟩) (by assumption) ?_
            simp only [Act.put, List.setIfInBounds_toArray, List.set_cons_zero, List.set_cons_succ]
            refine wpAnyH_take (i := 10) (oi := { dst := some 30, op := Go.Op.move (Go.Operand.tmp 4), type := 3, pos := "l06_tiling.go:45", after := #[{ on := 4, ground := Go.Ground.guard }], guard := some (4, true) }) (v := undef) rfl (by kernel_rfl) (by kernel_rfl) (by kernel_rfl) (fun _ _ _ h => h) (Or.inr ⟨by rfl, rfl⟩) (by assumption) ?_
            simp only [Act.put, List.setIfInBounds_toArray, List.set_cons_zero, List.set_cons_succ]
            refine wpAnyH_take (i := 11) (oi := { dst := some 31, op := Go.Op.indexAddr 37 (Go.Operand.tmp 29) (Go.Operand.tmp 30), type := 0, pos := "l06_tiling.go:45", after := #[{ on := 9, ground := Go.Ground.data }, { on := 10, ground := Go.Ground.data }, { on := 4, ground := Go.Ground.guard }], guard := some (4, true) }) (v := undef) rfl (by kernel_rfl) (by kernel_rfl) (by kernel_rfl) (fun _ _ _ h => h) (Or.inr ⟨by rfl, rfl⟩) (by assumption) ?_
            simp only [Act.put, List.setIfInBounds_toArray, List.set_cons_zero, List.set_cons_succ]
            refine wpAnyH_take (i := 12) (oi := { dst := some 32, op := Go.Op.load 73 (Go.Operand.tmp 31), type := 73, pos := "l06_tiling.go:45", after := #[{ on := 11, ground := Go.Ground.data }, { on := 4, ground := Go.Ground.guard }], guard := some (4, true) }) (v := undef) rfl (by kernel_rfl) (by kernel_rfl) (by kernel_rfl) (fun _ _ _ h => h) (Or.inr ⟨by rfl, rfl⟩) (by assumption) ?_
            simp only [Act.put, List.setIfInBounds_toArray, List.set_cons_zero, List.set_cons_succ]
            refine wpAnyH_take (i := 13) (oi := { dst := some 33, op := Go.Op.call { callee := Go.Callee.value (Go.Operand.func 163), args := #[Go.Operand.tmp 28, Go.Operand.tmp 32], argTypes := #[73, 73] }, type := 4, pos := "l06_tiling.go:45", after := #[{ on := 8, ground := Go.Ground.data }, { on := 12, ground := Go.Ground.data }, { on := 4, ground := Go.Ground.chain }, { on := 4, ground := Go.Ground.guard }], guard := some (4, true) }) (v := undef) rfl (by kernel_rfl) (by kernel_rfl) (by kernel_rfl) (fun _ _ _ h => h) (Or.inr ⟨by rfl, rfl⟩) (by assumption) ?_
            simp only [Act.put, List.setIfInBounds_toArray, List.set_cons_zero, List.set_cons_succ]
            refine wpAnyH_take (i := 14) (oi := { dst := some 34, op := Go.Op.pick (Go.Operand.tmp 24) (Go.Operand.tmp 33) (Go.Operand.const (Go.Value.bool false)), type := 4, pos := "l06_tiling.go:45", after := #[{ on := 4, ground := Go.Ground.data }, { on := 13, ground := Go.Ground.data }], guard := none }) (v := ?_) rfl (by kernel_rfl) (by kernel_rfl) (by kernel_rfl) (fun _ _ _ h => h) (Or.inl ⟨by rfl, ?_⟩) (by assumption) ?_
            rotate_left 1
            · (intro wS hSw; (try dsimp only at hSw); go_simp; (all_goals with_reducible rfl))
            simp only [Act.put, List.setIfInBounds_toArray, List.set_cons_zero, List.set_cons_succ]
            refine wpAnyH_done (by kernel_rfl) ?_ _
            go_wp2_with fail
            refine wp_region_held_drew (S := (fun _ => True)) (by kernel_rfl) ?_ (fun hHeld => ?_)
            · (try dsimp only); (try go_keep)
            refine wpAnyH_take (i := 0) (oi := { dst := some 37, op := Go.Op.move (Go.Operand.tmp 5), type := 3, pos := "l06_tiling.go:48", after := #[], guard := none }) (v := ?_) rfl (by kernel_rfl) (by kernel_rfl) (by kernel_rfl) (fun _ _ _ h => h) (Or.inl ⟨by rfl, ?_⟩) (by assumption) ?_
            rotate_left 1
            · (intro wS hSw; (try dsimp only at hSw); go_simp; (all_goals with_reducible rfl))
            simp only [Act.put, List.setIfInBounds_toArray, List.set_cons_zero, List.set_cons_succ]
            refine wpAnyH_take (i := 1) (oi := { dst := some 38, op := Go.Op.move (Go.Operand.tmp 3), type := 37, pos := "l06_tiling.go:48", after := #[], guard := none }) (v := ?_) rfl (by kernel_rfl) (by kernel_rfl) (by kernel_rfl) (fun _ _ _ h => h) (Or.inl ⟨by rfl, ?_⟩) (by assumption) ?_
            rotate_left 1
            · (intro wS hSw; (try dsimp only at hSw); go_simp; (all_goals with_reducible rfl))
            simp only [Act.put, List.setIfInBounds_toArray, List.set_cons_zero, List.set_cons_succ]
            refine wpAnyH_take (i := 2) (oi := { dst := some 39, op := Go.Op.call { callee := Go.Callee.builtin Go.Builtin.len, args := #[Go.Operand.tmp 38], argTypes := #[37] }, type := 3, pos := "l06_tiling.go:48", after := #[{ on := 1, ground := Go.Ground.data }], guard := none }) (v := ?_) rfl (by kernel_rfl) (by kernel_rfl) (by kernel_rfl) (fun _ _ _ h => h) (Or.inl ⟨by rfl, ?_⟩) (by assumption) ?_
            rotate_left 1
            · (intro wS hSw; (try dsimp only at hSw); go_simp; (all_goals with_reducible rfl))
            simp only [Act.put, List.setIfInBounds_toArray, List.set_cons_zero, List.set_cons_succ]
            refine wpAnyH_take (i := 3) (oi := { dst := some 40, op := Go.Op.binOp Go.BinOp.lss 3 (Go.Operand.tmp 37) (Go.Operand.tmp 39) 3, type := 4, pos := "l06_tiling.go:48", after := #[{ on := 0, ground := Go.Ground.data }, { on := 2, ground := Go.Ground.data }], guard := none }) (v := ?_) rfl (by kernel_rfl) (by kernel_rfl) (by kernel_rfl) (fun _ _ _ h => h) (Or.inl ⟨by rfl, ?_⟩) (by assumption) ?_
            rotate_left 1
            · (intro wS hSw; (try dsimp only at hSw); go_simp; (all_goals with_reducible rfl))
            simp only [Act.put, List.setIfInBounds_toArray, List.set_cons_zero, List.set_cons_succ]
            refine wpAnyH_take (i := 4) (oi := { dst := some 41, op := Go.Op.move (Go.Operand.tmp 40), type := 4, pos := "l06_tiling.go:48", after := #[{ on := 3, ground := Go.Ground.data }], guard := none }) (v := ?_) rfl (by kernel_rfl) (by kernel_rfl) (by kernel_rfl) (fun _ _ _ h => h) (Or.inl ⟨by rfl, ?_⟩) (by assumption) ?_
            rotate_left 1
            · (intro wS hSw; (try dsimp only at hSw); go_simp; (all_goals with_reducible rfl))
            simp only [Act.put, List.setIfInBounds_toArray, List.set_cons_zero, List.set_cons_succ]
            refine wpAnyH_take (i := 5) (oi := { dst := some 42, op := Go.Op.move (Go.Operand.tmp 3), type := 37, pos := "l06_tiling.go:48", after := #[{ on := 4, ground := Go.Ground.guard }], guard := some (4, true) }) (v := undef) rfl (by kernel_rfl) (by kernel_rfl) (by kernel_rfl) (fun _ _ _ h => h) (Or.inr ⟨by rfl, rfl⟩) (by assumption) ?_
            simp only [Act.put, List.setIfInBounds_toArray, List.set_cons_zero, List.set_cons_succ]
            refine wpAnyH_take (i := 6) (oi := { dst := some 43, op := Go.Op.move (Go.Operand.tmp 5), type := 3, pos := "l06_tiling.go:48", after := #[{ on := 4, ground := Go.Ground.guard }], guard := some (4, true) }) (v := undef) rfl (by kernel_rfl) (by kernel_rfl) (by kernel_rfl) (fun _ _ _ h => h) (Or.inr ⟨by rfl, rfl⟩) (by assumption) ?_
            simp only [Act.put, List.setIfInBounds_toArray, List.set_cons_zero, List.set_cons_succ]
            refine wpAnyH_take (i := 7) (oi := { dst := some 44, op := Go.Op.indexAddr 37 (Go.Operand.tmp 42) (Go.Operand.tmp 43), type := 0, pos := "l06_tiling.go:48", after := #[{ on := 5, ground := Go.Ground.data }, { on := 6, ground := Go.Ground.data }, { on := 4, ground := Go.Ground.guard }], guard := some (4, true) }) (v := undef) rfl (by kernel_rfl) (by kernel_rfl) (by kernel_rfl) (fun _ _ _ h => h) (Or.inr ⟨by rfl, rfl⟩) (by assumption) ?_
            simp only [Act.put, List.setIfInBounds_toArray, List.set_cons_zero, List.set_cons_succ]
            refine wpAnyH_take (i := 8) (oi := { dst := some 45, op := Go.Op.load 73 (Go.Operand.tmp 44), type := 73, pos := "l06_tiling.go:48", after := #[{ on := 7, ground := Go.Ground.data }, { on := 4, ground := Go.Ground.guard }], guard := some (4, true) }) (v := undef) rfl (by kernel_rfl) (by kernel_rfl) (by kernel_rfl) (fun _ _ _ h => h) (Or.inr ⟨by rfl, rfl⟩) (by assumption) ?_
            simp only [Act.put, List.setIfInBounds_toArray, List.set_cons_zero, List.set_cons_succ]
            refine wpAnyH_take (i := 9) (oi := { dst := some 46, op := Go.Op.move (Go.Operand.tmp 0), type := 37, pos := "l06_tiling.go:48", after := #[{ on := 4, ground := Go.Ground.guard }], guard := some (4, true) }) (v := undef) rfl (by kernel_rfl) (by kernel_rfl) (by kernel_rfl) (fun _ _ _ h => h) (Or.inr ⟨by rfl, rfl⟩) (by assumption) ?_
            simp only [Act.put, List.setIfInBounds_toArray, List.set_cons_zero, List.set_cons_succ]
            refine wpAnyH_take (i := 10) (oi := { dst := some 47, op := Go.Op.move (Go.Operand.tmp 4), type := 3, pos := "l06_tiling.go:48", after := #[{ on := 4, ground := Go.Ground.guard }], guard := some (4, true) }) (v := undef) rfl (by kernel_rfl) (by kernel_rfl) (by kernel_rfl) (fun _ _ _ h => h) (Or.inr ⟨by rfl, rfl⟩) (by assumption) ?_
            simp only [Act.put, List.setIfInBounds_toArray, List.set_cons_zero, List.set_cons_succ]
            refine wpAnyH_take (i := 11) (oi := { dst := some 48, op := Go.Op.indexAddr 37 (Go.Operand.tmp 46) (Go.Operand.tmp 47), type := 0, pos := "l06_tiling.go:48", after := #[{ on := 9, ground := Go.Ground.data }, { on := 10, ground := Go.Ground.data }, { on := 4, ground := Go.Ground.guard }], guard := some (4, true) }) (v := undef) rfl (by kernel_rfl) (by kernel_rfl) (by kernel_rfl) (fun _ _ _ h => h) (Or.inr ⟨by rfl, rfl⟩) (by assumption) ?_
            simp only [Act.put, List.setIfInBounds_toArray, List.set_cons_zero, List.set_cons_succ]
            refine wpAnyH_take (i := 12) (oi := { dst := some 49, op := Go.Op.load 73 (Go.Operand.tmp 48), type := 73, pos := "l06_tiling.go:48", after := #[{ on := 11, ground := Go.Ground.data }, { on := 4, ground := Go.Ground.guard }], guard := some (4, true) }) (v := undef) rfl (by kernel_rfl) (by kernel_rfl) (by kernel_rfl) (fun _ _ _ h => h) (Or.inr ⟨by rfl, rfl⟩) (by assumption) ?_
            simp only [Act.put, List.setIfInBounds_toArray, List.set_cons_zero, List.set_cons_succ]
            refine wpAnyH_take (i := 13) (oi := { dst := some 50, op := Go.Op.binOp Go.BinOp.eql 73 (Go.Operand.tmp 45) (Go.Operand.tmp 49) 73, type := 4, pos := "l06_tiling.go:48", after := #[{ on := 8, ground := Go.Ground.data }, { on := 12, ground := Go.Ground.data }, { on := 4, ground := Go.Ground.guard }], guard := some (4, true) }) (v := undef) rfl (by kernel_rfl) (by kernel_rfl) (by kernel_rfl) (fun _ _ _ h => h) (Or.inr ⟨by rfl, rfl⟩) (by assumption) ?_
            simp only [Act.put, List.setIfInBounds_toArray, List.set_cons_zero, List.set_cons_succ]
            refine wpAnyH_take (i := 14) (oi := { dst := some 51, op := Go.Op.pick (Go.Operand.tmp 41) (Go.Operand.tmp 50) (Go.Operand.const (Go.Value.bool false)), type := 4, pos := "l06_tiling.go:48", after := #[{ on := 4, ground := Go.Ground.data }, { on := 13, ground := Go.Ground.data }], guard := none }) (v := ?_) rfl (by kernel_rfl) (by kernel_rfl) (by kernel_rfl) (fun _ _ _ h => h) (Or.inl ⟨by rfl, ?_⟩) (by assumption) ?_
            rotate_left 1
            · (intro wS hSw; (try dsimp only at hSw); go_simp; (all_goals with_reducible rfl))
            simp only [Act.put, List.setIfInBounds_toArray, List.set_cons_zero, List.set_cons_succ]
            refine wpAnyH_done (by kernel_rfl) ?_ _
            have Bw : Below wr.heap.size wr wr.drew.drew := (Below.refl _ _).drew.drew
            have own6 := hown2.below Bw
            have B6 := hbel2.tr Bw
            clear hHeld hown2 hbel2 Bw
            obtain ⟨W5, hW5⟩ : ∃ W5, W5 = wr.drew.drew := ⟨_, rfl⟩
            rw [← hW5] at own6 B6 ⊢
            clear hW5 hn3
            have HO := own6; clear own6
            have Hins : Hid (sortGo (out.take P ++ (x, y, dn) :: out.drop P) (l.drop (k + 1)) = sortD l) := Lib.hid (by rw [← Hg2.out, Hst.out, if_neg HNo.out])
            have Hsi : Hid (Sorted (out.take P ++ (x, y, dn) :: out.drop P)) := Lib.hid (by have := sorted_step Hso.out (x, y, dn); rw [Hst.out, if_neg HNo.out] at this; exact this)
            obtain ⟨NW, hNW⟩ : ∃ NW, NW = out.take P ++ (x, y, dn) :: out.drop P := ⟨_, rfl⟩
            have hNl : NW.length = out.length + 1 := by rw [hNW]; simp; omega
            have hN2 : (out.take P ++ [(x, y, dn)]) ++ out.drop P = NW := by rw [hNW]; simp
            rw [← hNW] at Hins Hsi
            have hrd := HO.rd lenDom (by decide)
            obtain ⟨_, h3b⟩ := rd_len hrd
            have hrA := (hrd.below RE.stays ((Below.refl _ _).al (.cells #[] 73))).takeA hPle
            have htl : (out.take P).length = P := by simp; omega
            have hdl : (out.drop P).length = out.length - P := by simp
            have hPc : P ≤ c3 := by omega
            have hPcI : (P : Int) ≤ (c3 : Int) := by omega
            have hPo : (P : Int) ≤ (out.length : Int) := by omega
            obtain ⟨TK, hTK⟩ : ∃ TK, TK = out.take P := ⟨_, rfl⟩
            obtain ⟨DR, hDR⟩ : ∃ DR, DR = out.drop P := ⟨_, rfl⟩
            rw [← hTK] at hrA htl hN2
            rw [← hDR] at hdl hN2
            have HNl := Lib.hid hNl; have HN2 := Lib.hid hN2; have HTK := Lib.hid hTK; have HDR := Lib.hid hDR; have Htl := Lib.hid htl; have Hdl := Lib.hid hdl
            have H8a : Hid ((0 + TK.length) * 24 ≤ 140737488355328) := Lib.hid (by omega)
            have HMa : Hid (0 + TK.length ≤ maxLen) := Lib.hid (by unfold maxLen; omega)
            have H8b : Hid ((TK.length + 1) * 24 ≤ 140737488355328) := Lib.hid (by omega)
            have HMb : Hid (TK.length + 1 ≤ maxLen) := Lib.hid (by unfold maxLen; omega)
            have hTl : (TK ++ [((x, y, dn) : Dm)]).length = P + 1 := by simp; omega
            have H8c : Hid (((TK ++ [((x, y, dn) : Dm)]).length + DR.length) * 24 ≤ 140737488355328) := Lib.hid (by rw [hTl]; omega)
            have HMc : Hid ((TK ++ [((x, y, dn) : Dm)]).length + DR.length ≤ maxLen) := Lib.hid (by rw [hTl]; unfold maxLen; omega)
            have HTl := Lib.hid hTl
            have hJP : Hid ((P : Int) = ((P : Nat) : Int)) := Lib.hid rfl
            clear hNl hN2 hNW hTK hDR htl hdl hTl hrd
            go_wp2_with (first | (at_builtin; (refine wpList_appAllN (enc := eDom) rowDom lenDom oneDom (B := W5.heap.size) (by simp) (own_mt W5 _ rfl _ (Nat.le_refl _)) (n := P) Htl.out hrA H8a.out HMa.out rfl _ _ rfl rfl rfl ?_); intro v6 w6 own6 hb6 hv6; obtain ⟨A6, c6, rfl⟩ := hv6; simp only [List.nil_append, List.length_nil, Nat.zero_add] at own6 ⊢; have B56 : Below W5.heap.size W5 w6 := ((Below.refl _ _).al _).trans hb6; obtain ⟨hb, q1, q2, q3⟩ := QF.out _ (B6.tr B56)) | (at_builtin; (refine wpList_appAllN (enc := eDom) rowDom lenDom oneDom (B := W5.heap.size) hb7.size own7 (n := out.length - P) Hdl.out hr8 H8c.out HMc.out rfl _ _ rfl rfl rfl ?_); intro v9 w9 own9 hb9 hv9; obtain ⟨A9, c9, rfl⟩ := hv9; rw [HN2.out] at own9) | ((with_reducible refine wpList_tail rowDom hrd7 P hPle hJP.out rfl _ _ rfl rfl rfl ?_); intro A8 c8 hr8; rw [← HDR.out] at hr8) | (at_builtin; go_must ((refine wpList_app1 (enc := eDom) rowDom lenDom oneDom B56 own6 ((x, y, dn) : Dm) H8b.out HMb.out rfl _ _ rfl rfl rfl ?_); intro v7 w7 own7 hb7 hg7 hd7; obtain ⟨A7, c7, rfl, hc7, hm7⟩ := own7.form; rw [HTl.out] at own7 ⊢; have hrd7 := (HO.below hb7).rd lenDom (by decide))))
            have hNA : TK.length + 1 + (out.length - P) = NW.length := by rw [HNl.out, Htl.out]; omega
            have hNB : (TK ++ [((x, y, dn) : Dm)]).length + (out.length - P) = NW.length := by rw [HNl.out, HTl.out]; omega
            rw [hNB] at own9
            go_roundw
            case rel => exact ⟨k + 1, NW, A9, c9, by omega, by go_num, by rw [hNA], Hins, Hsi, own9.mono B6.size, B6.trans (hb7.trans hb9 |>.mono B6.size)⟩
            case measure => simp [intOf]; omega
    · obtain rfl : k = l.length := by omega
      have hg := Hg.out
      rw [List.drop_of_length_le (Nat.le_refl _)] at hg
      have hg2 : out = sortD l := hg
      clear hg
      subst hg2
      go_wp2
      go_ret
      exact ⟨_, _, rfl, hown, hbel⟩
end Go.Proofs.Ytkbndchgmokabaa
