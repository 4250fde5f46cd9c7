/- A region with 1 to 300 tilings, drawn; and one of its tilings. No conditions but sizes. -/
import Derived.Test.YtmmeomjclfgljaaDrawG
import Derived.Test.YtmmeomjclfgljaaListS
namespace Go.Proofs.Ytmmeomjclfgljaa
open Go.ChangeShapes Go.WideShapes Go.ChangeAt Go.RowKit
set_option linter.unusedVariables false
set_option linter.unusedSimpArgs false

theorem wpList_storeRowQ {P : Program} {ops : Array Oper} {rest : List Oper} {o : Oper} {a : Act} {w : World} {Q : Exit → Act → World → Prop} (hgd : o.guard = none) (ty : TypeId) (x y : Operand) (ho : o.op = .store ty x y)
    (g : Nat) (cells : Array Value) (hx : a.eval x = .pointer (some ⟨g, 0, none⟩)) (hy : a.eval y = .agg cells)
    (t : TypeId) (old : Array Value) (hg : Blk w g t old) (hi : (P.info? ty).map (·.size) = some cells.size) (hold : old.size = cells.size) (h1 : cells.all (·.oneCell') = true)
    (h : ∀ w', Blk w' g t cells → w.grownBy w' (some g) → wpList P ops Q rest (a.put o.dst undef) w') : wpList P ops Q (o :: rest) a w :=
  wpList_store_row hgd ty x y ho g cells hx hy t old hg hi hold h1 (h _ (setRow_heap w g old cells t (0, 0) hg) (gr_row cells))
theorem rect_cnt : ∀ a, a < 2 → ∀ b, b < 3 → 1 ≤ (tils (setOf (rectRows (2 + 2 * a) (2 + b)))).length ∧ (tils (setOf (rectRows (2 + 2 * a) (2 + b)))).length ≤ 300 := by decide +kernel
/-- A drawn region with few tilings. -/
def Few (rows : List Int) : Prop := RowsOk rows ∧ 1 ≤ cntRows rows ∧ cntRows rows ≤ 300
theorem few_rect {a b : Nat} (ha : a < 2) (hb : b < 3) : Few (rectRows (2 + 2 * a) (2 + b)) := by
  have hr : RowsOk (rectRows (2 + 2 * a) (2 + b)) := by
    refine ⟨by simp [rectRows]; omega, fun r hr => ?_⟩
    have := pow_in (w := 2 + 2 * a) (by omega)
    unfold rectRows at hr
    rw [(List.mem_replicate.1 hr).2]; omega
  have h := rect_cnt a ha b hb
  have e : cntRows (rectRows (2 + 2 * a) (2 + b)) = ((tils (setOf (rectRows (2 + 2 * a) (2 + b)))).length : Nat) := by
    unfold cntRows; rw [if_pos (regionOk_iff.2 hr), cntSet_is (setOf_lt hr)]
  exact ⟨hr, by omega, by omega⟩
def SomeFew (W : World) (g : Nat) (u : Value) (n : Nat) (w : World) (e : Ending) (w' : World) : Prop := ∃ (rows : List Int) (A : Option Addr) (c : Nat), e = .returned (.agg #[.slice A rows.length c]) ∧ OwnL 3 1 eInt w.heap.size w' (.slice A rows.length c) rows ∧ Few rows ∧ Cur w' g u n ∧ Below W.heap.size W w' ∧ KeptG w g w'
set_option maxHeartbeats 2000000 in
set_option maxRecDepth 100000 in
theorem fewDraw_any (W : World) (g : Nat) (v : Value) (l : List Int) (w : World) (h : Rd 1 RByte W v l) (Hok : Hid (AllOk (fun x => 0 ≤ x ∧ x ≤ 255) l)) (hg : W.heap.size ≤ g) (hbel : Below W.heap.size W w) (hcur : Cur w g v l.length) :
    Calls Try.prog 66 #[.pointer (some ⟨g, 0, none⟩)] w (SomeFew W g v l.length w) := by
  have hx0 := Blk.new_ w 26 #[.slice none 0 0]
  have hW := hbel.size
  have B0 := hbel.al (.cells #[.slice none 0 0] 26)
  have c0 := hcur.alloc (.cells #[.slice none 0 0] 26)
  have K0 := (KeptG.refl w g).al (.cells #[.slice none 0 0] 26)
  have hgx : w.heap.size ≠ g := c0.ne hx0 (by decide)
  go_enter Try.func66, Try.ntmps66
  go_wp2_with fail
  go_loopw [3] (fun s3 wr => ∃ k : Nat, k ≤ 6 ∧ s3 = .int .i64 k ∧ Cur wr g v l.length ∧ Blk wr w.heap.size 26 #[.slice none 0 0] ∧ Below W.heap.size W wr ∧ KeptG w g wr) (fun i _ => 6 - (intOf i).toNat)
  case atStart => exact ⟨0, by omega, rfl, c0, hx0, B0, K0⟩
  case round =>
    obtain ⟨k, hk, rfl, hc, hx, hB, hK⟩ := hrel
    clear c0 hx0 B0 K0
    by_cases hlt : k < 6
    · have hkI : decide ((k : Int) < 6) = true := decide_eq_true (by omega)
      go_wp2_with fail
      refine (regionDrawG_any W g v l _ h Hok hg hB hc).mono ?_
      rintro e w1 ⟨rows, A, c, rfl, own, h1, h5, hr, cur1, B1, k1⟩
      have hok : RowsOk rows := ⟨by omega, hr⟩
      have hx1 := (k1.blk hx hgx).alloc (.cells #[.slice A rows.length c] 26)
      have own1 := own.alloc (.cells #[.slice A rows.length c] 26)
      have cur2 := cur1.alloc (.cells #[.slice A rows.length c] 26)
      have B2 := B1.al (.cells #[.slice A rows.length c] 26)
      have k2 := (hK.tr k1).al (.cells #[.slice A rows.length c] 26)
      have bY := Blk.new_ w1 26 #[.slice A rows.length c]
      have own2 := own1.mono hK.1
      have hxl := (k1.blk hx hgx).lt
      have hxy : w.heap.size ≠ w1.heap.size := by omega
      obtain ⟨n, hn⟩ : ∃ n, n = cntSet (setOf rows) := ⟨_, rfl⟩
      have CC : ∀ (u : Value) (w : World), Rd 1 RInt w u rows → Calls Try.prog 91 #[.agg #[u]] w (Ret (.int .i64 n) w) := fun u w k1 => by rw [hn]; exact countS_yes u rows w k1 (Lib.hid hok)
      obtain ⟨i, hi⟩ : ∃ i, i = inB n 1 300 := ⟨_, rfl⟩
      have CI : ∀ (w : World), Calls Try.prog 49 #[.int .i64 n, .int .i64 1, .int .i64 300] w (Pure (.bool i) w) := fun w => by rw [hi]; exact in_any n 1 300 w
      have hfew : i = true → Few rows := fun q => by
        rw [hi] at q
        have h1 : 1 ≤ n ∧ n ≤ 300 := by simpa [inB] using q
        have : cntRows rows = n := by unfold cntRows; rw [if_pos (regionOk_iff.2 hok), hn]
        exact ⟨hok, by omega, by omega⟩
      have HF := Lib.hid hfew
      clear hn hi hfew hr h1 h5 hok own own1 cur1 B1 k1 hc hx hB hK
      go_upto_region 5 with (fail)
      obtain ⟨W2, hW2⟩ : ∃ W2, W2 = w1.alloc (.cells #[.slice A rows.length c] 26) := ⟨_, rfl⟩
      obtain ⟨gY, hgY⟩ : ∃ q, q = w1.heap.size := ⟨_, rfl⟩
      rw [← hW2] at hx1 own2 cur2 B2 k2 bY ⊢
      rw [← hgY] at bY hxy ⊢
      clear hW2 hgY
      have zy := bY.c1
      go_wp2_with fail
      refine (CC _ _ (own2.rd lenInt (by decide))).mono ?_
      rintro e w3 ⟨rfl, hb3⟩
      have hx3 := hx1.bl hb3
      have own3 := own2.below hb3
      have cur3 := cur2.bl hb3
      have B3 := B2.tr hb3
      have k3 := k2.bl hb3
      have bY3 := bY.bl hb3
      clear hx1 own2 cur2 B2 k2 bY zy hb3
      have zy := bY3.c1
      cases i
      · go_wp2_with (go_at_call 49; (with_reducible refine (CI _).mono ?_); rintro e w' ⟨rfl, rfl⟩)
        go_roundw
        case rel => exact ⟨k + 1, by omega, by go_num, cur3, hx3, B3, k3⟩
        case measure => simp [intOf]; omega
      · have z2 := hx3.frozen 0
        have z3 := hx3.lt
        have z6 := hx3.c1
        have z5 := (hx3.set_ 0 (.slice A rows.length c)).cell 0
        simp at z5
        go_wp2_with (go_at_call 49; (with_reducible refine (CI _).mono ?_); rintro e w' ⟨rfl, rfl⟩)
        refine bodyPost_ret (v := .agg #[.slice A rows.length c]) (by simp [results, Try.results66, go_sem, z5]) rfl ⟨rows, A, c, rfl, own3.far (fun e => own3.apart hx3 (by decide) e) _, by first | exact HF.out rfl | exact HF.out trivial, cur3.far (fun e => hgx e.symm) _, B3.st _ _ hW, k3.st (p := ⟨w.heap.size, 0, none⟩) (Nat.le_refl _) _⟩
    · obtain rfl : k = 6 := by omega
      go_wp2_with fail
      refine (below_any 2 W g v l _ h Hok hg hB hc (by decide)).mono ?_
      rintro e w1 ⟨a, rfl, ha, cur1, B1, g1⟩
      have hx1 := hx.cur hc (by decide) g1
      have k1 := hK.gr g1
      have haa : 0 ≤ a ∧ a ≤ 1 := by unfold InBelow at ha; omega
      obtain ⟨a, rfl⟩ := Int.eq_ofNat_of_zero_le haa.1
      have ha2 : a < 2 := by omega
      clear haa ha hx hK hc hB
      go_wp2_with fail
      refine (below_any 3 W g v l _ h Hok hg B1 cur1 (by decide)).mono ?_
      rintro e w2 ⟨b, rfl, hb, cur2, B2, g2⟩
      have hx2 := hx1.cur cur1 (by decide) g2
      have k2 := k1.gr g2
      have hbb : 0 ≤ b ∧ b ≤ 2 := by unfold InBelow at hb; omega
      obtain ⟨b, rfl⟩ := Int.eq_ofNat_of_zero_le hbb.1
      have hb3 : b < 3 := by omega
      clear hbb hb hx1 k1 cur1 B1
      have hfew := few_rect ha2 hb3
      go_wp2_with fail
      rw [show (2 : Int) + 2 * (a : Int) = ((2 + 2 * a : Nat) : Int) by omega, show (2 : Int) + (b : Int) = ((2 + b : Nat) : Int) by omega]
      obtain ⟨a', ha'⟩ : ∃ a', a' = 2 + 2 * a := ⟨_, rfl⟩
      obtain ⟨b', hb'⟩ : ∃ b', b' = 2 + b := ⟨_, rfl⟩
      rw [← ha', ← hb'] at hfew
      rw [← ha', ← hb']
      have ha1 : 1 ≤ a' ∧ a' ≤ 8 := by omega
      have hb1' : 1 ≤ b' ∧ b' ≤ 8 := by omega
      clear ha' hb' ha2 hb3
      obtain ⟨rows, hrows⟩ : ∃ rows, rows = rectRows a' b' := ⟨_, rfl⟩
      have CR := rectS_yes a' b' w2 ha1 hb1'
      rw [← hrows] at CR hfew
      clear hrows
      refine CR.mono ?_
      rintro e w3 ⟨A, c, rfl, own3, hb3⟩
      have hx3 := hx2.bl hb3
      have cur3 := cur2.bl hb3
      have B3 := B2.tr hb3
      have k3 := k2.bl hb3
      have own3 := own3.mono k2.1
      have z2 := hx3.frozen 0
      have z3 := hx3.lt
      have z6 := hx3.c1
      have z5 := (hx3.set_ 0 (.slice A rows.length c)).cell 0
      simp at z5
      go_wp2_with fail
      refine bodyPost_ret (v := .agg #[.slice A rows.length c]) (by simp [results, Try.results66, go_sem, z5]) rfl ⟨rows, A, c, rfl, own3.far (fun e => own3.apart hx3 (by decide) e) _, hfew, cur3.far (fun e => hgx e.symm) _, B3.st _ _ hW, k3.st (p := ⟨w.heap.size, 0, none⟩) (Nat.le_refl _) _⟩
/-- The state behind the list: the cursor, the list, the region's box, the result's box. -/
structure TSt (W w wr : World) (g : Nat) (v : Value) (n gY : Nat) (rows : List Int) (A : Option Addr) (c : Nat) (L : List (List Dm)) (AL : Option Addr) (cL : Nat) (xv : Value) : Prop where
  cur : Cur wr g v n
  B : Below W.heap.size W wr
  k : KeptG w g wr
  ro : OwnL 3 1 eInt w.heap.size wr (.slice A rows.length c) rows
  ll : OwnLL 27 66 3 eDom w.heap.size wr (.slice AL L.length cL) L
  y : Blk wr gY 26 #[.slice A rows.length c]
  x : Blk wr w.heap.size 26 #[xv]
theorem OwnLL.keptB {α : Type} {E0 E : TypeId} {size : Nat} {enc : α → List Value} {B b : Nat} {t : TypeId} {cs : Array Value} {w w' : World} {v : Value} {ls : List (List α)} (h : OwnLL E0 E size enc B w v ls) (hb : Blk w b t cs) (h1 : E0 ≠ t) (h2 : E ≠ t) (hg : w.grownBy w' (some b)) : OwnLL E0 E size enc B w' v ls := by
  obtain ⟨us, a1, a2, a3⟩ := h
  exact ⟨us, World.ownsRow.kept a1 hg (.inr (a1.apart hb h1)), a2, fun k u x hu hx => World.ownsRow.kept (a3 k u x hu hx) hg (.inr ((a3 k u x hu hx).apart hb h2))⟩
section
variable {W w wr w' : World} {g : Nat} {v : Value} {n gY : Nat} {rows : List Int} {A : Option Addr} {c : Nat} {L : List (List Dm)} {AL : Option Addr} {cL : Nat} {xv : Value}
theorem TSt.draw (h : TSt W w wr g v n gY rows A c L AL cL xv) (hc : Cur w' g v n) (hB : Below W.heap.size W w') (hg : wr.grownBy w' (some g)) : TSt W w w' g v n gY rows A c L AL cL xv := by
  obtain ⟨i, z, _, hb⟩ := h.cur
  exact ⟨hc, hB, h.k.gr hg, h.ro.cur h.cur (by decide) hg, h.ll.keptB hb (by decide) (by decide) hg, h.y.cur h.cur (by decide) hg, h.x.cur h.cur (by decide) hg⟩
theorem TSt.put (h : TSt W w wr g v n gY rows A c L AL cL xv) (hW : W.heap.size ≤ w.heap.size) (hgY : gY ≠ w.heap.size) (u : Value) : TSt W w (wr.setCell ⟨w.heap.size, 0, none⟩ u) g v n gY rows A c L AL cL u := by
  have hgx := h.cur.ne h.x (by decide)
  have hg : wr.grownBy (wr.setCell ⟨w.heap.size, 0, none⟩ u) (some w.heap.size) := gr_set (World.grownBy.refl _ _) 0 u
  exact ⟨h.cur.far (fun e => hgx e.symm) u, h.B.st _ _ hW, h.k.st (p := ⟨w.heap.size, 0, none⟩) (Nat.le_refl _) u, h.ro.far (fun e => h.ro.apart h.x (by decide) e) u, h.ll.keptB h.x (by decide) (by decide) hg, h.y.far hgY u, h.x.set_ 0 u⟩
theorem TSt.bl (h : TSt W w wr g v n gY rows A c L AL cL xv) (hb : Below wr.heap.size wr w') : TSt W w w' g v n gY rows A c L AL cL xv :=
  ⟨h.cur.bl hb, h.B.tr hb, h.k.bl hb, h.ro.below hb, h.ll.below hb, h.y.bl hb, h.x.bl hb⟩
end
theorem OwnLL.pickG {B g : Nat} {w : World} {n c : Nat} {ls : List (List Dm)} (h : OwnLL 27 66 3 eDom B w (.slice (some ⟨g, 0, none⟩) n c) ls) {k : Nat} (hk : k < ls.length) : ∃ D d, w.cell? ⟨g, k, none⟩ = some (.slice D ls[k].length d) ∧ OwnL 66 3 eDom B w (.slice D ls[k].length d) ls[k] ∧ g < w.heap.size := by
  obtain ⟨g', D, d, e, _, hl, z, q⟩ := h.pick hk
  injection e with e
  injection e with e
  subst e
  exact ⟨D, d, z, q, hl⟩
def SomeTil (W : World) (g : Nat) (u : Value) (n : Nat) (w : World) (e : Ending) (w' : World) : Prop := ∃ (rows : List Int) (A : Option Addr) (c : Nat) (t : List Dm) (T : Option Addr) (d : Nat), e = .returned (.tuple #[.agg #[.slice A rows.length c], .slice T t.length d]) ∧
  OwnL 3 1 eInt w.heap.size w' (.slice A rows.length c) rows ∧ OwnL 66 3 eDom w.heap.size w' (.slice T t.length d) t ∧ Few rows ∧ t ∈ tils (setOf rows) ∧ Cur w' g u n ∧ Below W.heap.size W w' ∧ KeptG w g w'
abbrev oTilDraw0 : Oper := { dst := some 10, op := Go.Op.load 26 (Go.Operand.tmp 4), type := 26, pos := "l08_list.go:86", after := #[], guard := none }
abbrev oTilDraw1 : Oper := { dst := some 11, op := Go.Op.move (Go.Operand.tmp 5), type := 56, pos := "l08_list.go:86", after := #[{ on := 8, ground := Go.Ground.gcOnly Go.Departure.lateStores }], guard := none }
abbrev oTilDraw2 : Oper := { dst := some 12, op := Go.Op.move (Go.Operand.tmp 0), type := 92, pos := "l08_list.go:86", after := #[], guard := none }
abbrev oTilDraw3 : Oper := { dst := some 13, op := Go.Op.move (Go.Operand.tmp 5), type := 56, pos := "l08_list.go:86", after := #[], guard := none }
abbrev oTilDraw4 : Oper := { dst := some 14, op := Go.Op.call { callee := Go.Callee.builtin Go.Builtin.len, args := #[Go.Operand.tmp 13], argTypes := #[56] }, type := 3, pos := "l08_list.go:86", after := #[{ on := 3, ground := Go.Ground.data }], guard := none }
abbrev oTilDraw5 : Oper := { dst := some 15, op := Go.Op.call { callee := Go.Callee.value (Go.Operand.func 116), args := #[Go.Operand.tmp 12, Go.Operand.tmp 14], argTypes := #[92, 3] }, type := 3, pos := "l08_list.go:86", after := #[{ on := 2, ground := Go.Ground.data }, { on := 4, ground := Go.Ground.data }], guard := none }
abbrev oTilDraw6 : Oper := { dst := some 16, op := Go.Op.indexAddr 56 (Go.Operand.tmp 11) (Go.Operand.tmp 15), type := 0, pos := "l08_list.go:86", after := #[{ on := 1, ground := Go.Ground.data }, { on := 5, ground := Go.Ground.data }, { on := 8, ground := Go.Ground.gcOnly Go.Departure.lateStores }], guard := none }
abbrev oTilDraw7 : Oper := { dst := some 17, op := Go.Op.load 27 (Go.Operand.tmp 16), type := 27, pos := "l08_list.go:86", after := #[{ on := 6, ground := Go.Ground.data }, { on := 8, ground := Go.Ground.gcOnly Go.Departure.lateStores }], guard := none }
abbrev oTilDraw8 : Oper := { dst := none, op := Go.Op.store 26 (Go.Operand.tmp 2) (Go.Operand.tmp 10), type := 0, pos := "l08_list.go:86", after := #[{ on := 0, ground := Go.Ground.data }, { on := 5, ground := Go.Ground.chain }, { on := 0, ground := Go.Ground.phase }, { on := 1, ground := Go.Ground.textOnly Go.Departure.lateStores }, { on := 2, ground := Go.Ground.textOnly Go.Departure.lateStores }, { on := 3, ground := Go.Ground.textOnly Go.Departure.lateStores }, { on := 4, ground := Go.Ground.textOnly Go.Departure.lateStoresUnsure }, { on := 5, ground := Go.Ground.textOnly Go.Departure.lateStoresUnsure }, { on := 6, ground := Go.Ground.textOnly Go.Departure.lateStores }, { on := 7, ground := Go.Ground.textOnly Go.Departure.lateStores }], guard := none }
abbrev oTilDraw9 : Oper := { dst := some 3, op := Go.Op.assign (Go.Operand.tmp 17), type := 27, pos := "l08_list.go:86", after := #[{ on := 7, ground := Go.Ground.data }, { on := 8, ground := Go.Ground.chain }, { on := 0, ground := Go.Ground.phase }, { on := 1, ground := Go.Ground.phase }, { on := 2, ground := Go.Ground.phase }, { on := 3, ground := Go.Ground.phase }, { on := 4, ground := Go.Ground.phase }, { on := 5, ground := Go.Ground.phase }, { on := 6, ground := Go.Ground.phase }, { on := 7, ground := Go.Ground.phase }, { on := 8, ground := Go.Ground.phase }], guard := none }
set_option maxHeartbeats 2000000 in
set_option maxRecDepth 100000 in
theorem tilDraw_any (W : World) (g : Nat) (v : Value) (l : List Int) (w : World) (h : Rd 1 RByte W v l) (Hok : Hid (AllOk (fun x => 0 ≤ x ∧ x ≤ 255) l)) (hg : W.heap.size ≤ g) (hbel : Below W.heap.size W w) (hcur : Cur w g v l.length) :
    Calls Try.prog 93 #[.pointer (some ⟨g, 0, none⟩)] w (SomeTil W g v l.length w) := by
  have hx0 := Blk.new_ w 26 #[.slice none 0 0]
  have hW := hbel.size
  have B0 := hbel.al (.cells #[.slice none 0 0] 26)
  have c0 := hcur.alloc (.cells #[.slice none 0 0] 26)
  have K0 := (KeptG.refl w g).al (.cells #[.slice none 0 0] 26)
  have hgx : w.heap.size ≠ g := c0.ne hx0 (by decide)
  go_enter Try.func93, Try.ntmps93
  go_wp2_with fail
  refine (fewDraw_any W g v l _ h Hok hg B0 c0).mono ?_
  rintro e w1 ⟨rows, A, c, rfl, own, hfew, cur1, B1, k1⟩
  have own1 := (own.mono (show w.heap.size ≤ _ by simp)).alloc (.cells #[.slice A rows.length c] 26)
  have hx1 := (k1.blk hx0 hgx).alloc (.cells #[.slice A rows.length c] 26)
  have cur2 := cur1.alloc (.cells #[.slice A rows.length c] 26)
  have B2 := B1.al (.cells #[.slice A rows.length c] 26)
  have k2 := (K0.tr k1).al (.cells #[.slice A rows.length c] 26)
  have bY := Blk.new_ w1 26 #[.slice A rows.length c]
  have hxl := (k1.blk hx0 hgx).lt
  have hxy : w1.heap.size ≠ w.heap.size := by omega
  have hcr := hfew.2
  have hrl : listRows rows = tils (setOf rows) := by unfold listRows; rw [if_pos (by simp [inB]; omega)]
  have hln := list_len rows
  rw [hrl] at hln
  have hcn : cntRows rows = ((tils (setOf rows)).length : Nat) := by unfold cntRows; rw [if_pos (regionOk_iff.2 hfew.1), cntSet_is (setOf_lt hfew.1)]
  obtain ⟨L, hL⟩ : ∃ L, L = tils (setOf rows) := ⟨_, rfl⟩
  have CL : ∀ (u : Value) (w : World), Rd 1 RInt w u rows → Calls Try.prog 29 #[.agg #[u]] w (RetLL L w) := fun u w k1 => by rw [hL, ← hrl]; exact listTilS_any u rows w k1
  rw [← hL] at hln hcn
  have hL0 : 1 ≤ L.length := by omega
  have HL := Lib.hid hL; have HF := Lib.hid hfew
  clear hL hfew hrl hcr hcn own hx0 c0 B0 K0 k1 cur1 B1
  go_upto_region 2 with (fail)
  obtain ⟨W2, hW2⟩ : ∃ W2, W2 = w1.alloc (.cells #[.slice A rows.length c] 26) := ⟨_, rfl⟩
  obtain ⟨gY, hgY⟩ : ∃ q, q = w1.heap.size := ⟨_, rfl⟩
  rw [← hW2] at hx1 own1 cur2 B2 k2 bY ⊢
  rw [← hgY] at bY hxy ⊢
  clear hW2 hgY hxl
  have zy := bY.c1
  go_wp2_with fail
  refine (CL _ _ (own1.rd lenInt (by decide))).mono ?_
  rintro e w3 ⟨AL, cL, rfl, oL, hb3⟩
  have st : TSt W w w3 g v l.length gY rows A c L AL cL (.slice none 0 0) := ⟨cur2.bl hb3, B2.tr hb3, k2.bl hb3, own1.below hb3, oL.mono k2.1, bY.bl hb3, hx1.bl hb3⟩
  clear hx1 own1 cur2 B2 k2 bY zy hb3 oL
  have hlp : 0 < L.length := by omega
  obtain ⟨gL, _, _, rfl, _⟩ := st.ll.pick hlp
  have hgl : w.heap.size ≠ gL := fun e => by
    obtain ⟨us, p1, _, _⟩ := st.ll
    exact p1.apart st.x (by decide) (by rw [e]; rfl)
  have stD := st.bl ((Below.refl _ _).drew)
  clear st
  go_upto_region 3 with (fail)
  have zy := stD.y.c1
  have zx := stD.x.c1
  have fx := fun j => stD.x.frozen j
  have lx := stD.x.lt
  have hnl : ((L.length : Nat) : Int) ≤ 9223372036854775807 := by omega
  refine wp_region_held_drew (S := (fun w' => w'.cell? ⟨gY, 0, none⟩ = some (.slice A rows.length c))) (by kernel_rfl) ?_ (fun hHeld => ?_)
  · (try dsimp only); (try go_keep)
  refine tk 0 oTilDraw0 rfl (by kernel_rfl) (v := ?_) (fun _ _ _ h => h) (Or.inl ⟨by rfl, ?_⟩) (by assumption) ?_
  rotate_left 1
  · (intro wS hSw; (try dsimp only at hSw); dsimp only [oTilDraw0]; go_simp; (all_goals with_reducible rfl))
  simp only [oTilDraw0, putL, List.set]
  refine tk 1 oTilDraw1 rfl (by kernel_rfl) (v := ?_) (fun _ _ _ h => h) (Or.inl ⟨by rfl, ?_⟩) (by assumption) ?_
  rotate_left 1
  · (intro wS hSw; (try dsimp only at hSw); dsimp only [oTilDraw1]; go_simp; (all_goals with_reducible rfl))
  simp only [oTilDraw1, putL, List.set]
  refine tk 2 oTilDraw2 rfl (by kernel_rfl) (v := ?_) (fun _ _ _ h => h) (Or.inl ⟨by rfl, ?_⟩) (by assumption) ?_
  rotate_left 1
  · (intro wS hSw; (try dsimp only at hSw); dsimp only [oTilDraw2]; go_simp; (all_goals with_reducible rfl))
  simp only [oTilDraw2, putL, List.set]
  refine tk 3 oTilDraw3 rfl (by kernel_rfl) (v := ?_) (fun _ _ _ h => h) (Or.inl ⟨by rfl, ?_⟩) (by assumption) ?_
  rotate_left 1
  · (intro wS hSw; (try dsimp only at hSw); dsimp only [oTilDraw3]; go_simp; (all_goals with_reducible rfl))
  simp only [oTilDraw3, putL, List.set]
  refine tk 4 oTilDraw4 rfl (by kernel_rfl) (v := ?_) (fun _ _ _ h => h) (Or.inl ⟨by rfl, ?_⟩) (by assumption) ?_
  rotate_left 1
  · (intro wS hSw; (try dsimp only at hSw); dsimp only [oTilDraw4]; go_simp; (all_goals with_reducible rfl))
  simp only [oTilDraw4, putL, List.set]
  refine wpAnyH_ready (rs := [5]) (by kernel_rfl) (by simp) ?_
  refine AllReadyH.cons (o := oTilDraw5) rfl (fun K hK => ?_) AllReadyH.nil
  dsimp only [oTilDraw5]
  (go_simp; go_at_call 116; go_must (refine (below_any L.length W g v l _ h Hok hg stD.B stD.cur hnl).mono ?_; rintro e wX ⟨x, rfl, hx, curX, BX, gX⟩; have stD := stD.draw curX BX gX; have zy := stD.y.c1; have zx := stD.x.c1; have fx := (fun j => stD.x.frozen j); have lx := stD.x.lt; obtain ⟨x, rfl⟩ := Int.eq_ofNat_of_zero_le (show 0 ≤ x by unfold InBelow at hx; omega); have hxL : x < L.length := (by unfold InBelow at hx; omega); have hxI : (x : Int) < (L.length : Int) := (by omega); obtain ⟨T, d, zt, oT, lt⟩ := stD.ll.pickG hxL; (try go_wp2_with fail)))
  refine hK.out _ _ ?_ (fun hHeld => ?_)
  · (try dsimp only); (try go_keep)
  clear hK K
  (try simp only [Act.put, List.setIfInBounds_toArray, List.set_cons_zero, List.set_cons_succ])
  refine tk 6 oTilDraw6 rfl (by kernel_rfl) (v := ?_) (fun _ _ _ h => h) (Or.inl ⟨by rfl, ?_⟩) (by assumption) ?_
  rotate_left 1
  · (intro wS hSw; (try dsimp only at hSw); dsimp only [oTilDraw6]; go_simp; (all_goals with_reducible rfl))
  simp only [oTilDraw6, putL, List.set]
  refine wpAnyH_ready (rs := [7, 8]) (by kernel_rfl) (by simp) ?_
  refine AllReadyH.cons (o := oTilDraw7) rfl (fun K hK => ?_) ?_
  dsimp only [oTilDraw7]
  go_simp
  refine hK.out _ _ ?_ (fun hHeld => ?_)
  · (try dsimp only); (try go_keep)
  clear hK K
  (try simp only [Act.put, List.setIfInBounds_toArray, List.set_cons_zero, List.set_cons_succ])
  refine wpAnyH_ready (rs := [8]) (by kernel_rfl) (by simp) ?_
  refine AllReadyH.cons (o := oTilDraw8) rfl (fun K hK => ?_) AllReadyH.nil
  (go_simp; (try (have oT := oT.far (a := ⟨w.heap.size, 0, none⟩) (fun e => oT.apart stD.x (by decide) e) (.slice A rows.length c); have zt := (World.cell?_setCell_far _ ⟨w.heap.size, 0, none⟩ ⟨gL, x, none⟩ (.slice A rows.length c) hgl).trans zt)); have stD := stD.put hW hxy (.slice A rows.length c); have zy := stD.y.c1)
  refine hK.out _ _ ?_ (fun hHeld => ?_)
  · (try dsimp only); (try go_keep)
  clear hK K
  (try simp only [Act.put, List.setIfInBounds_toArray, List.set_cons_zero, List.set_cons_succ])
  refine tk 9 oTilDraw9 rfl (by kernel_rfl) (v := ?_) (fun _ _ _ h => h) (Or.inl ⟨by rfl, ?_⟩) (by assumption) ?_
  rotate_left 1
  · (intro wS hSw; (try dsimp only at hSw); dsimp only [oTilDraw9]; go_simp; (all_goals with_reducible rfl))
  simp only [oTilDraw9, putL, List.set]
  refine wpAnyH_done (by kernel_rfl) ?_ _
  rotate_left 1
  refine AllReadyH.cons (o := oTilDraw8) rfl (fun K hK => ?_) AllReadyH.nil
  (go_simp; (try (have oT := oT.far (a := ⟨w.heap.size, 0, none⟩) (fun e => oT.apart stD.x (by decide) e) (.slice A rows.length c); have zt := (World.cell?_setCell_far _ ⟨w.heap.size, 0, none⟩ ⟨gL, x, none⟩ (.slice A rows.length c) hgl).trans zt)); have stD := stD.put hW hxy (.slice A rows.length c); have zy := stD.y.c1)
  refine hK.out _ _ ?_ (fun hHeld => ?_)
  · (try dsimp only); (try go_keep)
  clear hK K
  (try simp only [Act.put, List.setIfInBounds_toArray, List.set_cons_zero, List.set_cons_succ])
  refine wpAnyH_ready (rs := [7]) (by kernel_rfl) (by simp) ?_
  refine AllReadyH.cons (o := oTilDraw7) rfl (fun K hK => ?_) AllReadyH.nil
  dsimp only [oTilDraw7]
  go_simp
  refine hK.out _ _ ?_ (fun hHeld => ?_)
  · (try dsimp only); (try go_keep)
  clear hK K
  (try simp only [Act.put, List.setIfInBounds_toArray, List.set_cons_zero, List.set_cons_succ])
  refine tk 9 oTilDraw9 rfl (by kernel_rfl) (v := ?_) (fun _ _ _ h => h) (Or.inl ⟨by rfl, ?_⟩) (by assumption) ?_
  rotate_left 1
  · (intro wS hSw; (try dsimp only at hSw); dsimp only [oTilDraw9]; go_simp; (all_goals with_reducible rfl))
  simp only [oTilDraw9, putL, List.set]
  refine wpAnyH_done (by kernel_rfl) ?_ _
  all_goals
    go_wp2_with fail
    have q := stD.x.c1
    refine bodyPost_ret (v := .tuple #[.agg #[.slice A rows.length c], .slice T L[x].length d]) (by simp [results, Try.results93, go_sem, q]) rfl ⟨rows, A, c, L[x], T, d, rfl, stD.ro, oT, HF.out, by rw [← HL.out]; exact List.getElem_mem hxL, stD.cur, stD.B, stD.k⟩
/-- Drawn prices. -/
def PrIn (p : Pr) : Prop := (0 ≤ p.1 ∧ p.1 < 30) ∧ (0 ≤ p.2.1 ∧ p.2.1 < 30) ∧ (0 ≤ p.2.2.1 ∧ p.2.2.1 < 12) ∧ (1 ≤ p.2.2.2 ∧ p.2.2.2 ≤ 5)
def SomePr (W : World) (g : Nat) (u : Value) (n : Nat) (w : World) (e : Ending) (w' : World) : Prop := ∃ p : Pr, e = .returned (.agg #[.int .i64 p.1, .int .i64 p.2.1, .int .i64 p.2.2.1, .int .i64 p.2.2.2]) ∧ PrIn p ∧ Cur w' g u n ∧ Below W.heap.size W w' ∧ KeptG w g w'
set_option maxHeartbeats 1000000 in
set_option maxRecDepth 100000 in
theorem prDraw_any (W : World) (g : Nat) (v : Value) (l : List Int) (w : World) (h : Rd 1 RByte W v l) (Hok : Hid (AllOk (fun x => 0 ≤ x ∧ x ≤ 255) l)) (hg : W.heap.size ≤ g) (hbel : Below W.heap.size W w) (hcur : Cur w g v l.length) :
    Calls Try.prog 92 #[.pointer (some ⟨g, 0, none⟩)] w (SomePr W g v l.length w) := by
  have hx0 := Blk.new_ w 47 #[.int .i64 0, .int .i64 0, .int .i64 0, .int .i64 0]
  have hW := hbel.size
  have B0 := hbel.al (.cells #[.int .i64 0, .int .i64 0, .int .i64 0, .int .i64 0] 47)
  have c0 := hcur.alloc (.cells #[.int .i64 0, .int .i64 0, .int .i64 0, .int .i64 0] 47)
  have K0 := (KeptG.refl w g).al (.cells #[.int .i64 0, .int .i64 0, .int .i64 0, .int .i64 0] 47)
  have hgx : w.heap.size ≠ g := c0.ne hx0 (by decide)
  go_enter Try.func92, Try.ntmps92
  go_wp2_with fail
  refine (below_any 30 W g v l _ h Hok hg B0 c0 (by decide)).mono ?_
  rintro e w1 ⟨a, rfl, ha, cur1, B1, g1⟩
  have x1 := hx0.cur c0 (by decide) g1
  have k1 := K0.gr g1
  go_wp2_with fail
  refine (below_any 30 W g v l _ h Hok hg B1 cur1 (by decide)).mono ?_
  rintro e w2 ⟨b, rfl, hb, cur2, B2, g2⟩
  have x2 := x1.cur cur1 (by decide) g2
  have k2 := k1.gr g2
  go_wp2_with fail
  refine (below_any 12 W g v l _ h Hok hg B2 cur2 (by decide)).mono ?_
  rintro e w3 ⟨c, rfl, hc, cur3, B3, g3⟩
  have x3 := x2.cur cur2 (by decide) g3
  have k3 := k2.gr g3
  go_wp2_with fail
  refine (below_any 5 W g v l _ h Hok hg B3 cur3 (by decide)).mono ?_
  rintro e w4 ⟨d, rfl, hd, cur4, B4, g4⟩
  have x4 := x3.cur cur3 (by decide) g4
  have k4 := k3.gr g4
  have ha' : 0 ≤ a ∧ a < 30 := by unfold InBelow at ha; omega
  have hb' : 0 ≤ b ∧ b < 30 := by unfold InBelow at hb; omega
  have hc' : 0 ≤ c ∧ c < 12 := by unfold InBelow at hc; omega
  have hd' : 0 ≤ d ∧ d < 5 := by unfold InBelow at hd; omega
  clear ha hb hc hd x1 x2 x3 k1 k2 k3 cur1 cur2 cur3 B1 B2 B3 g1 g2 g3 g4 K0 c0 B0 hx0
  have hw : IntKind.i64.wrap (1 + d) = 1 + d := IntWalk.i64_in _ (by omega)
  have HP : Hid (PrIn (a, b, c, 1 + d)) := Lib.hid ⟨ha', hb', hc', by show 1 ≤ 1 + d; omega, by show 1 + d ≤ 5; omega⟩
  clear ha' hb' hc' hd'
  go_wp2_with (refine wpList_storeRowQ rfl 47 _ _ rfl w.heap.size #[.int .i64 a, .int .i64 b, .int .i64 c, .int .i64 (1 + d)] rfl rfl _ _ x4 (by kernel_rfl) rfl (by simp [Value.oneCell']) ?_; intro wS bS gS)
  have q_0 := bS.cell 0
  have q_1 := bS.cell 1
  have q_2 := bS.cell 2
  have q_3 := bS.cell 3
  simp only [List.getElem?_toArray, List.getElem?_cons_zero, List.getElem?_cons_succ] at q_0 q_1 q_2 q_3
  refine bodyPost_ret (v := .agg #[.int .i64 a, .int .i64 b, .int .i64 c, .int .i64 (1 + d)]) (by simp [results, Try.results92, go_sem, q_0, q_1, q_2, q_3]) rfl ⟨(a, b, c, 1 + d), rfl, HP.out, ?_, B4.grown gS B4.size (fun k hk => by injection hk with hk; omega), ?_⟩
  · obtain ⟨i, z, hi, hb⟩ := cur4
    exact ⟨i, z, hi, hb.grown gS (fun e => hgx (by injection e with e; exact e.symm))⟩
  · exact ⟨Nat.le_trans k4.1 gS.size, fun i hi hne => (gS.block i (by have := k4.1; omega) (fun e => by injection e with e; omega)).trans (k4.2 i hi hne)⟩
end Go.Proofs.Ytmmeomjclfgljaa
