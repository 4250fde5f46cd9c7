/- FormatWorkshop of both sides: the walks. Conditions: sizes that the laws let by; the library's table of powers, as its text lays it. -/
import Derived.Test.YtklgbjgjojelbaaGreatDoorFloorOkL
import Derived.Test.YtklgbjgjojelbaaGreatDoorK12
import Derived.Test.YtklgbjgjojelbaaGreatDoorFmtW
namespace Go.Proofs.YtklgbjgjojelbaaGreatDoor
open Go.ChangeShapes Go.WideShapes Go.ChangeAt Go.RowKit
set_option linter.unusedVariables false
set_option linter.unusedSimpArgs false

section
variable {P : Program} {α : Type} {t E : TypeId} {z : Value} {size bytes : Nat} {enc : α → List Value}
/-- append of a list of the call's own to another. -/
theorem step_appOwn {ops : Array Oper} {o : Oper} {a : Act} {w : World} {K : Act → World → Prop} {Q : Exit → Act → World → Prop} {E' : Prop} (R : Row P t E z size bytes)
    (henc : ∀ x, (enc x).length = size) (h1 : ∀ x, ∀ u ∈ enc x, u.oneCell' = true) {B B2 : Nat} (hB : B ≤ w.heap.size) {v : Value} {l m : List α} (hown : OwnL E size enc B w v l) {g c : Nat} (hm : OwnL E size enc B2 w (.slice (some ⟨g, 0, none⟩) m.length c) m)
    (hlen : (l.length + m.length) * bytes ≤ 140737488355328) (hlen2 : l.length + m.length ≤ maxLen) (hgd : o.guard = none)
    (s x : Operand) (ho : o.op = .call { callee := .builtin .append, args := #[s, x], argTypes := #[t, t] })
    (hs : a.eval s = v) (hx : a.eval x = .slice (some ⟨g, 0, none⟩) m.length c)
    (h : ∀ A c' w', OwnL E size enc B w' (.slice A (l.length + m.length) c') (l ++ m) → w.grownBy w' v.ownBlock → K (a.put o.dst (.slice A (l.length + m.length) c')) w') :
    if Region.wanted o (yielded ops a.tmps) = true then Oper.wp P o a w K Q else E' := by
  have hw : Region.wanted o (yielded ops a.tmps) = true := by simp [Region.wanted, hgd]
  rw [if_pos hw]
  obtain ⟨ht, hinfo, hzs, hsz⟩ := R
  obtain ⟨i0, hi, hz0, hz1, hz2⟩ := info_parts hinfo
  obtain ⟨v', w', hrun, h2, h3, _, h5⟩ := run_append_own_at (P := P) w B t o.type E i0 z size bytes ht hi hz0 hz1 hz2 hzs hsz v l.length (l.flatMap enc) hown
    ⟨g, 0, none⟩ m.length c (m.flatMap enc) (flat_len henc m) (World.ownsRow.cells (g := g) hm rfl) (one_of h1 m) hlen2 hlen hB
  have hO : OwnL E size enc B w' v' (l ++ m) := by
    unfold OwnL
    rw [List.length_append, List.flatMap_append]
    exact h2
  obtain ⟨A', c', e, _⟩ := hO.form
  rw [List.length_append] at e
  subst e
  unfold Oper.wp execOp
  simp only [ho, resolve, invoke, builtin, Sem.run_bind, Sem.run_pure, Result.andThen_ok, List.map_toArray, List.map_cons, List.map_nil, hs, hx, hrun]
  exact h A' c' w' hO h3
end
def wl (word : ByteArray) (x : Int) : ByteArray := word ++ numB x
def kFlips : ByteArray := ⟨#[102, 108, 105, 112, 115, 32]⟩
def kStock : ByteArray := ⟨#[115, 116, 111, 99, 107, 32]⟩
def kSpent : ByteArray := ⟨#[115, 112, 101, 110, 116, 32]⟩
def kReps : ByteArray := ⟨#[114, 101, 112, 97, 105, 114, 115, 32]⟩
theorem lineB_wl {word w2 : ByteArray} (h : w2.data = word.data ++ #[32]) (x : Int) : lineB word [x] = wl w2 x := by
  show word ++ (⟨#[32]⟩ : ByteArray) ++ numB x = w2 ++ numB x
  congr 1
  apply ByteArray.ext
  rw [ByteArray.data_append, h]
theorem wl_size {word : ByteArray} {x : Int} (hw : word.size ≤ 10) (h0 : 0 ≤ x) (h1 : x ≤ 9223372036854775807) : (wl word x).size ≤ 31 := by
  have := numB_size h0 h1
  unfold wl
  rw [ByteArray.size_append]; omega
/-- The lines of a workshop behind its floor's. -/
def wkTail (x : Wk) : List ByteArray := [wl kFlips x.1.2.2.2.length, wl kStock x.2.1, wl kSpent x.2.2.1, wl kReps x.2.2.2]
def wkTexts (x : Wk) : List ByteArray := if workOk x = true then floorLines x.1.1 x.1.2.2.1 ++ wkTail x else []
theorem floorLines_len (rows : List Int) (l : List Dm) : (floorLines rows l).length ≤ rows.length := by
  unfold floorLines
  split
  · simp [fText]
  · exact Nat.zero_le _
theorem workOk_num {x : Wk} (h : workOk x = true) : x.1.2.2.2.length ≤ 60 ∧ (0 ≤ x.2.1 ∧ x.2.1 ≤ 10000) ∧ (0 ≤ x.2.2.1 ∧ x.2.2.1 ≤ 10000) ∧ (0 ≤ x.2.2.2 ∧ x.2.2.2 ≤ 10000) := by
  unfold workOk floorOk inB at h
  simp at h
  omega
theorem workOk_rows {x : Wk} (h : workOk x = true) : x.1.1.length ≤ 8 := by
  unfold workOk floorOk isTiling at h
  simp only [Bool.and_eq_true] at h
  exact (isPartial_ok h.1.1.1.1.1).1.1
theorem wkTexts_len (x : Wk) : (wkTexts x).length ≤ 1048576 := by
  unfold wkTexts
  split
  · rename_i h
    have h1 := workOk_rows h
    have h2 := floorLines_len x.1.1 x.1.2.2.1
    rw [List.length_append]
    have : (wkTail x).length = 4 := rfl
    omega
  · exact Nat.zero_le _
theorem eqStrsL (u v : Value) (l : List ByteArray) (w : World) (h : Rd 1 (RE eStr) w u l) (h' : Rd 1 (RE eStr) w v l) : Calls Tryz.prog 8 #[u, v] w (Ret (.bool true) w) := by
  have := eqStrs_any u v l l w h h'; rw [decide_eq_true (rfl : l = l)] at this; exact this

/-- A number in a slice of the call's own. -/
def Ln (B : Nat) (W : World) (v : Value) (x : Int) : Prop := OwnL 3 1 eInt B W v [x] ∧ 0 ≤ x ∧ x ≤ 10000
theorem Ln.al {B : Nat} {W : World} {v : Value} {x : Int} (h : Ln B W v x) (o : Obj) : Ln B (W.alloc o) v x := ⟨h.1.alloc o, h.2⟩
theorem Ln.bl {B : Nat} {W W' : World} {v : Value} {x : Int} (h : Ln B W v x) (hb : Below W.heap.size W W') : Ln B W' v x := ⟨h.1.below hb, h.2⟩
theorem alloc_sz (w : World) (o : Obj) : (w.alloc o).heap.size = w.heap.size + 1 := by simp
theorem ln_new {w0 W : World} (Bw : Below w0.heap.size w0 W) {x : Int} (h : 0 ≤ x ∧ x ≤ 10000) : Ln w0.heap.size (W.alloc (.cells #[.int .i64 x] 3)) (.slice (some ⟨W.heap.size, 0, none⟩) 1 1) x :=
  ⟨(own_one W x rfl).mono Bw.size, h⟩
theorem run_b1 (w : World) (x : Int) : (Instr.buildSlice 22 1 #[(0, .int .i64 x)]).run Tryz.prog w = .ok (.slice (some ⟨w.heap.size, 0, none⟩) 1 1) (w.alloc (.cells #[.int .i64 x] 3)) := by
  obtain ⟨ht, hinfo, hzs, hsz⟩ := rowInt
  obtain ⟨i0, hi, hz0, hz1, hz2⟩ := info_parts hinfo
  simp [Instr.buildSlice, run_underlying ht, sizeOf, typeInfo, hi, hz1, hz0, newRow, Instr.fill, Value.cells, Array.range, Array.zipIdx]
  refine congrArg (fun cs => w.alloc (Obj.cells cs 3)) (Array.ext (by simp [hz1]) (fun i h1 h2 => ?_))
  obtain rfl : i = 0 := by simpa using h2
  simp
/-- A slice of one number made: its world and its place are new, and no more is said of them. -/
theorem step_build1 {ops : Array Oper} {o : Oper} {a : Act} {w : World} {K : Act → World → Prop} {Q : Exit → Act → World → Prop} {E' : Prop} {x : Int} (hgd : o.guard = none) (y : Operand) (ho : o.op = .buildSlice 22 1 #[(0, y)]) (hy : a.eval y = .int .i64 x)
    (h : ∀ g w', Below w.heap.size w w' → Blk w' g 3 #[.int .i64 x] → w.heap.size ≤ g → K (a.put o.dst (.slice (some ⟨g, 0, none⟩) 1 1)) w') :
    if Region.wanted o (yielded ops a.tmps) = true then Oper.wp Tryz.prog o a w K Q else E' := by
  have hw : Region.wanted o (yielded ops a.tmps) = true := by simp [Region.wanted, hgd]
  rw [if_pos hw]
  have hrun := run_b1 w x
  unfold Oper.wp execOp
  simp only [ho, Sem.run_bind, Sem.run_pure, Result.andThen_ok, List.map_toArray, List.map_cons, List.map_nil, hy, hrun]
  exact h _ _ ((Below.refl _ _).al _) (Blk.new_ w 3 #[.int .i64 x]) (Nat.le_refl _)
theorem ln_blk {B g : Nat} {W : World} {x : Int} (hB : B ≤ g) (hb : Blk W g 3 #[.int .i64 x]) (h : 0 ≤ x ∧ x ≤ 10000) : Ln B W (.slice (some ⟨g, 0, none⟩) 1 1) x :=
  ⟨⟨by simp [eInt], .inr ⟨g, 1, #[.int .i64 x], rfl, hB, hb, by simp, by simp [maxLen], by simp, by simp [eInt]⟩⟩, h⟩
theorem lineOf1_any {B : Nat} {v : Value} {x : Int} {W : World} (word w2 : ByteArray) (h : Ln B W v x) (hw : word.size ≤ 100) (h2 : w2.data = word.data ++ #[32]) (ht : Tab W) : Calls Tryz.prog 20 #[.string word, v] W (Ret (.string (wl w2 x)) W) := by
  rw [← lineB_wl h2]
  exact lineOfI_any word v [x] W (h.1.rd lenInt (by decide)) hw (by simp) (Lib.hid (by have := h.2; simp; omega)) ht
theorem own_four {w0 W : World} (Bw : Below w0.heap.size w0 W) {B : Nat} (hB : B ≤ w0.heap.size) (a b c d : ByteArray) : OwnL 9 1 eStr B (W.alloc (.cells #[.string a, .string b, .string c, .string d] 9)) (.slice (some ⟨W.heap.size, 0, none⟩) 4 4) [a, b, c, d] := by
  have e : [a, b, c, d].flatMap eStr = [.string a, .string b, .string c, .string d] := rfl
  unfold OwnL
  rw [e]
  exact ⟨by simp, .inr ⟨W.heap.size, 4, #[.string a, .string b, .string c, .string d], rfl, Nat.le_trans hB Bw.size, heap_alloc_new W _, by simp, by simp [maxLen], by simp, by simp⟩⟩

abbrev oFmtWk0 : Oper := { dst := some 14, op := Go.Op.move (Go.Operand.tmp 3), type := 32, pos := "l39_acts.go:98", after := #[], guard := none }
abbrev oFmtWk1 : Oper := { dst := some 15, op := Go.Op.fieldAddr 40 (Go.Operand.tmp 1) 0, type := 0, pos := "l39_acts.go:98", after := #[], guard := none }
abbrev oFmtWk2 : Oper := { dst := some 16, op := Go.Op.fieldAddr 38 (Go.Operand.tmp 15) 3, type := 0, pos := "l39_acts.go:98", after := #[{ on := 1, ground := Go.Ground.data }], guard := none }
abbrev oFmtWk3 : Oper := { dst := some 17, op := Go.Op.load 36 (Go.Operand.tmp 16), type := 36, pos := "l39_acts.go:98", after := #[{ on := 2, ground := Go.Ground.data }], guard := none }
abbrev oFmtWk4 : Oper := { dst := some 18, op := Go.Op.call { callee := Go.Callee.builtin Go.Builtin.len, args := #[Go.Operand.tmp 17], argTypes := #[36] }, type := 3, pos := "l39_acts.go:98", after := #[{ on := 3, ground := Go.Ground.data }], guard := none }
abbrev oFmtWk5 : Oper := { dst := some 21, op := Go.Op.fieldAddr 40 (Go.Operand.tmp 1) 1, type := 0, pos := "l39_acts.go:98", after := #[], guard := none }
abbrev oFmtWk6 : Oper := { dst := some 22, op := Go.Op.load 3 (Go.Operand.tmp 21), type := 3, pos := "l39_acts.go:98", after := #[{ on := 7, ground := Go.Ground.data }], guard := none }
abbrev oFmtWk7 : Oper := { dst := some 25, op := Go.Op.fieldAddr 40 (Go.Operand.tmp 1) 2, type := 0, pos := "l39_acts.go:98", after := #[], guard := none }
abbrev oFmtWk8 : Oper := { dst := some 26, op := Go.Op.load 3 (Go.Operand.tmp 25), type := 3, pos := "l39_acts.go:98", after := #[{ on := 11, ground := Go.Ground.data }], guard := none }
abbrev oFmtWk9 : Oper := { dst := some 29, op := Go.Op.fieldAddr 40 (Go.Operand.tmp 1) 3, type := 0, pos := "l39_acts.go:98", after := #[], guard := none }
abbrev oFmtWk10 : Oper := { dst := some 30, op := Go.Op.load 3 (Go.Operand.tmp 29), type := 3, pos := "l39_acts.go:98", after := #[{ on := 15, ground := Go.Ground.data }], guard := none }
abbrev oFmtWk11 : Oper := { dst := some 19, op := Go.Op.buildSlice 22 1 #[(0, Go.Operand.tmp 18)], type := 22, pos := "l39_acts.go:98", after := #[{ on := 4, ground := Go.Ground.data }], guard := none }
abbrev oFmtWk12 : Oper := { dst := some 20, op := Go.Op.call { callee := Go.Callee.value (Go.Operand.func 20), args := #[Go.Operand.const (Go.Value.string { data := #[102, 108, 105, 112, 115] }), Go.Operand.tmp 19], argTypes := #[9, 22] }, type := 9, pos := "l39_acts.go:98", after := #[{ on := 5, ground := Go.Ground.data }], guard := none }
abbrev oFmtWk13 : Oper := { dst := some 23, op := Go.Op.buildSlice 22 1 #[(0, Go.Operand.tmp 22)], type := 22, pos := "l39_acts.go:98", after := #[{ on := 8, ground := Go.Ground.data }], guard := none }
abbrev oFmtWk14 : Oper := { dst := some 24, op := Go.Op.call { callee := Go.Callee.value (Go.Operand.func 20), args := #[Go.Operand.const (Go.Value.string { data := #[115, 116, 111, 99, 107] }), Go.Operand.tmp 23], argTypes := #[9, 22] }, type := 9, pos := "l39_acts.go:98", after := #[{ on := 9, ground := Go.Ground.data }, { on := 6, ground := Go.Ground.chain }], guard := none }
abbrev oFmtWk15 : Oper := { dst := some 27, op := Go.Op.buildSlice 22 1 #[(0, Go.Operand.tmp 26)], type := 22, pos := "l39_acts.go:98", after := #[{ on := 12, ground := Go.Ground.data }], guard := none }
abbrev oFmtWk16 : Oper := { dst := some 28, op := Go.Op.call { callee := Go.Callee.value (Go.Operand.func 20), args := #[Go.Operand.const (Go.Value.string { data := #[115, 112, 101, 110, 116] }), Go.Operand.tmp 27], argTypes := #[9, 22] }, type := 9, pos := "l39_acts.go:98", after := #[{ on := 13, ground := Go.Ground.data }, { on := 10, ground := Go.Ground.chain }], guard := none }
abbrev oFmtWk17 : Oper := { dst := some 31, op := Go.Op.buildSlice 22 1 #[(0, Go.Operand.tmp 30)], type := 22, pos := "l39_acts.go:98", after := #[{ on := 16, ground := Go.Ground.data }], guard := none }
abbrev oFmtWk18 : Oper := { dst := some 32, op := Go.Op.call { callee := Go.Callee.value (Go.Operand.func 20), args := #[Go.Operand.const (Go.Value.string { data := #[114, 101, 112, 97, 105, 114, 115] }), Go.Operand.tmp 31], argTypes := #[9, 22] }, type := 9, pos := "l39_acts.go:98", after := #[{ on := 17, ground := Go.Ground.data }, { on := 14, ground := Go.Ground.chain }], guard := none }
abbrev oFmtWk19 : Oper := { dst := some 33, op := Go.Op.buildSlice 32 4 #[(0, Go.Operand.tmp 20), (1, Go.Operand.tmp 24), (2, Go.Operand.tmp 28), (3, Go.Operand.tmp 32)], type := 32, pos := "l39_acts.go:98", after := #[{ on := 6, ground := Go.Ground.data }, { on := 10, ground := Go.Ground.data }, { on := 14, ground := Go.Ground.data }, { on := 18, ground := Go.Ground.data }], guard := none }
abbrev oFmtWk20 : Oper := { dst := some 34, op := Go.Op.call { callee := Go.Callee.builtin Go.Builtin.append, args := #[Go.Operand.tmp 14, Go.Operand.tmp 33], argTypes := #[32, 32] }, type := 32, pos := "l39_acts.go:98", after := #[{ on := 0, ground := Go.Ground.data }, { on := 19, ground := Go.Ground.data }, { on := 18, ground := Go.Ground.chain }], guard := none }
abbrev oFmtWk21 : Oper := { dst := some 2, op := Go.Op.assign (Go.Operand.tmp 34), type := 32, pos := "l39_acts.go:98", after := #[{ on := 20, ground := Go.Ground.data }, { on := 20, ground := Go.Ground.chain }, { on := 0, ground := Go.Ground.phase }, { on := 1, ground := Go.Ground.phase }, { on := 2, ground := Go.Ground.phase }, { on := 3, ground := Go.Ground.phase }, { on := 4, ground := Go.Ground.phase }, { on := 5, ground := Go.Ground.phase }, { on := 6, ground := Go.Ground.phase }, { on := 7, ground := Go.Ground.phase }, { on := 8, ground := Go.Ground.phase }, { on := 9, ground := Go.Ground.phase }, { on := 10, ground := Go.Ground.phase }, { on := 11, ground := Go.Ground.phase }, { on := 12, ground := Go.Ground.phase }, { on := 13, ground := Go.Ground.phase }, { on := 14, ground := Go.Ground.phase }, { on := 15, ground := Go.Ground.phase }, { on := 16, ground := Go.Ground.phase }, { on := 17, ground := Go.Ground.phase }, { on := 18, ground := Go.Ground.phase }, { on := 19, ground := Go.Ground.phase }, { on := 20, ground := Go.Ground.phase }], guard := none }
set_option maxHeartbeats 16000000 in
set_option maxRecDepth 100000 in
theorem fmtWkI_any (v1 v2 v3 v4 : Value) (rows : List Int) (f n : List Dm) (fl : List Cl) (s p r : Int) (w : World) (h1 : Rd 1 RInt w v1 rows) (h2 : Rd 3 RDom w v2 f) (h3 : Rd 3 RDom w v3 n) (h4 : Rd 2 RPair w v4 fl) (hs : Small4 (rows, f, n, fl)) (ht : Tab w) :
    Calls Tryz.prog 7 #[.agg #[v1, v2, v3, v4, .int .i64 s, .int .i64 p, .int .i64 r]] w (RetOwn 9 1 eStr (wkTexts ((rows, f, n, fl), s, p, r)) w) := by
  have HT := Lib.hid ht; clear ht
  obtain ⟨A1, c1, rfl, _, _⟩ := h1.form
  obtain ⟨A2, c2, rfl, _, _⟩ := h2.form
  obtain ⟨A3, c3, rfl, _, _⟩ := h3.form
  obtain ⟨A4, c4, rfl, _, _⟩ := h4.form
  have B0 := (Below.refl w.heap.size w).al (.cells #[.slice A1 rows.length c1, .slice A2 f.length c2, .slice A3 n.length c3, .slice A4 fl.length c4, .int .i64 s, .int .i64 p, .int .i64 r] 40)
  have bP := Blk.new_ w 40 #[.slice A1 rows.length c1, .slice A2 f.length c2, .slice A3 n.length c3, .slice A4 fl.length c4, .int .i64 s, .int .i64 p, .int .i64 r]
  rcases hok : workOk ((rows, f, n, fl), s, p, r) with _ | _
  all_goals have HOk := Lib.hid hok
  · have e : wkTexts ((rows, f, n, fl), s, p, r) = [] := by unfold wkTexts; rw [hok]; rfl
    rw [e]
    go_enter Tryz.func7, Tryz.ntmps7
    go_wp2_with fail
    refine (workOkI_any _ _ _ _ ((rows, f, n, fl), s, p, r) _ (h1.below RE.stays B0) (h2.below RE.stays B0) (h3.below RE.stays B0) (h4.below RE.stays B0) hs.2.1).mono ?_
    rintro e w1 ⟨rfl, hb1⟩
    rw [HOk.out]
    go_wp2
    go_ret
    exact ⟨none, 0, rfl, own_nil _, B0.tr hb1⟩
  · skip
    have e : wkTexts ((rows, f, n, fl), s, p, r) = floorLines rows n ++ [wl kFlips (fl.length : Int), wl kStock s, wl kSpent p, wl kReps r] := by unfold wkTexts; rw [hok]; rfl
    rw [e]
    obtain ⟨F, hF⟩ : ∃ F, F = floorLines rows n := ⟨_, rfl⟩
    rw [← hF]
    have hnum := workOk_num hok
    have N1 : Hid (0 ≤ (fl.length : Int) ∧ (fl.length : Int) ≤ 10000) := Lib.hid (by have := hnum.1; simp only at this; omega)
    have N2 := Lib.hid hnum.2.1; have N3 := Lib.hid hnum.2.2.1; have N4 := Lib.hid hnum.2.2.2
    simp only at N2 N3 N4
    have hr8 : rows.length ≤ 8 := workOk_rows hok
    have hfl8 : F.length ≤ rows.length := by rw [hF]; exact floorLines_len rows n
    have HF := Lib.hid hF; clear hF
    clear hnum hok e
    go_enter Tryz.func7, Tryz.ntmps7
    go_wp2_with fail
    refine (workOkI_any _ _ _ _ ((rows, f, n, fl), s, p, r) _ (h1.below RE.stays B0) (h2.below RE.stays B0) (h3.below RE.stays B0) (h4.below RE.stays B0) hs.2.1).mono ?_
    rintro e w1 ⟨rfl, hb1⟩
    rw [HOk.out]
    have B1 := B0.tr hb1
    have bP1 := bP.bl hb1
    have gP1 := bP1.lt
    have y_0 := bP1.cell 0
    have y_1 := bP1.cell 1
    have y_2 := bP1.cell 2
    have y_3 := bP1.cell 3
    have y_4 := bP1.cell 4
    have y_5 := bP1.cell 5
    have y_6 := bP1.cell 6
    simp only [List.getElem?_toArray, List.getElem?_cons_zero, List.getElem?_cons_succ] at y_0 y_1 y_2 y_3 y_4 y_5 y_6
    go_wp2_with fail
    refine (floorLinesI_any _ _ rows n _ (h1.below RE.stays B1) (h3.below RE.stays B1)).mono ?_
    rintro e w2 ⟨C, c, rfl, own2, hb2⟩
    have B2 := B1.tr hb2
    have bP2 := bP1.bl hb2
    clear y_0 y_1 y_2 y_3 y_4 y_5 y_6
    have gP2 := bP2.lt
    have y_0 := bP2.cell 0
    have y_1 := bP2.cell 1
    have y_2 := bP2.cell 2
    have y_3 := bP2.cell 3
    have y_4 := bP2.cell 4
    have y_5 := bP2.cell 5
    have y_6 := bP2.cell 6
    simp only [List.getElem?_toArray, List.getElem?_cons_zero, List.getElem?_cons_succ] at y_0 y_1 y_2 y_3 y_4 y_5 y_6
    have Bw : Below w2.heap.size w2 w2 := Below.refl _ _
    have hz : w2.heap.size ≤ w2.heap.size := Nat.le_refl _
    rw [← HF.out] at own2 ⊢
    have H8 : Hid ((F.length + 4) * 16 ≤ 140737488355328) := Lib.hid (by omega)
    have HM : Hid (F.length + 4 ≤ maxLen) := Lib.hid (by unfold maxLen; omega)
    go_wp2_with fail
    have Bw : Below w2.heap.size w2 w2.drew := Bw.drew
    have hz : w2.heap.size ≤ w2.drew.heap.size := Bw.size
    have o0 := own2.below Bw
    refine wp_region_held_drew (S := (fun w' => w'.cell? ⟨w.heap.size, 3, none⟩ = some (.slice A4 fl.length c4) ∧ w'.cell? ⟨w.heap.size, 4, none⟩ = some (.int .i64 s) ∧ w'.cell? ⟨w.heap.size, 5, none⟩ = some (.int .i64 p) ∧ w'.cell? ⟨w.heap.size, 6, none⟩ = some (.int .i64 r))) (by kernel_rfl) ?_ (fun hHeld => ?_)
    · (try dsimp only); (try go_keep)
    repeat' (first
      | ((with_reducible show AllReadyH _ _ _ _ _ _ _ _ _ _); first
      | (with_reducible exact AllReadyH.nil)
      | (refine AllReadyH.cons (o := oFmtWk11) rfl (fun K hK => ?_) ?_
         ((try clear hH); (try (have hH := hHeld; clear hHeld)); refine step_build1 (x := ((fl.length : Int) : Int)) rfl _ rfl rfl ?_; intro gX wX hbX bX hgX; (try replace o1 := o1.bl hbX); (try replace o2 := o2.bl hbX); (try replace o3 := o3.bl hbX); (try replace o4 := o4.bl hbX); have o1 := ln_blk (Nat.le_trans hz hgX) bX (N1.out); replace o0 := o0.below hbX; (try clear hcX hfX); obtain ⟨hcX, hfX, hzX⟩ := bkn hbX w2.heap.size hz; replace hz := hzX; replace Bw := Bw.tr hbX; clear hbX hzX bX hgX)
         refine hK.out _ _ ?_ (fun hHeld => ?_)
         · (try dsimp only); (try go_keep)
         clear hK K
         (try simp only [oFmtWk11, Act.put, List.setIfInBounds_toArray, List.set_cons_zero, List.set_cons_succ]))
      | (refine AllReadyH.cons (o := oFmtWk12) rfl (fun K hK => ?_) ?_
         ((try clear hH); (try (have hH := hHeld; clear hHeld)); go_simp; go_at_call 20; go_must (refine (lineOf1_any _ kFlips (by first | exact o1 | exact o2 | exact o3 | exact o4) (by decide) rfl (HT.out.below (B2.tr Bw))).mono ?_; rintro e wX ⟨rfl, hbX⟩; (try replace o1 := o1.bl hbX); (try replace o2 := o2.bl hbX); (try replace o3 := o3.bl hbX); (try replace o4 := o4.bl hbX); replace o0 := o0.below hbX; (try clear hcX hfX); obtain ⟨hcX, hfX, hzX⟩ := bkn hbX w2.heap.size hz; replace hz := hzX; replace Bw := Bw.tr hbX; clear hbX hzX))
         refine hK.out _ _ ?_ (fun hHeld => ?_)
         · (try dsimp only); (try go_keep)
         clear hK K
         (try simp only [oFmtWk12, Act.put, List.setIfInBounds_toArray, List.set_cons_zero, List.set_cons_succ]))
      | (refine AllReadyH.cons (o := oFmtWk13) rfl (fun K hK => ?_) ?_
         ((try clear hH); (try (have hH := hHeld; clear hHeld)); refine step_build1 (x := (s : Int)) rfl _ rfl rfl ?_; intro gX wX hbX bX hgX; (try replace o1 := o1.bl hbX); (try replace o2 := o2.bl hbX); (try replace o3 := o3.bl hbX); (try replace o4 := o4.bl hbX); have o2 := ln_blk (Nat.le_trans hz hgX) bX (N2.out); replace o0 := o0.below hbX; (try clear hcX hfX); obtain ⟨hcX, hfX, hzX⟩ := bkn hbX w2.heap.size hz; replace hz := hzX; replace Bw := Bw.tr hbX; clear hbX hzX bX hgX)
         refine hK.out _ _ ?_ (fun hHeld => ?_)
         · (try dsimp only); (try go_keep)
         clear hK K
         (try simp only [oFmtWk13, Act.put, List.setIfInBounds_toArray, List.set_cons_zero, List.set_cons_succ]))
      | (refine AllReadyH.cons (o := oFmtWk14) rfl (fun K hK => ?_) ?_
         ((try clear hH); (try (have hH := hHeld; clear hHeld)); go_simp; go_at_call 20; go_must (refine (lineOf1_any _ kStock (by first | exact o1 | exact o2 | exact o3 | exact o4) (by decide) rfl (HT.out.below (B2.tr Bw))).mono ?_; rintro e wX ⟨rfl, hbX⟩; (try replace o1 := o1.bl hbX); (try replace o2 := o2.bl hbX); (try replace o3 := o3.bl hbX); (try replace o4 := o4.bl hbX); replace o0 := o0.below hbX; (try clear hcX hfX); obtain ⟨hcX, hfX, hzX⟩ := bkn hbX w2.heap.size hz; replace hz := hzX; replace Bw := Bw.tr hbX; clear hbX hzX))
         refine hK.out _ _ ?_ (fun hHeld => ?_)
         · (try dsimp only); (try go_keep)
         clear hK K
         (try simp only [oFmtWk14, Act.put, List.setIfInBounds_toArray, List.set_cons_zero, List.set_cons_succ]))
      | (refine AllReadyH.cons (o := oFmtWk15) rfl (fun K hK => ?_) ?_
         ((try clear hH); (try (have hH := hHeld; clear hHeld)); refine step_build1 (x := (p : Int)) rfl _ rfl rfl ?_; intro gX wX hbX bX hgX; (try replace o1 := o1.bl hbX); (try replace o2 := o2.bl hbX); (try replace o3 := o3.bl hbX); (try replace o4 := o4.bl hbX); have o3 := ln_blk (Nat.le_trans hz hgX) bX (N3.out); replace o0 := o0.below hbX; (try clear hcX hfX); obtain ⟨hcX, hfX, hzX⟩ := bkn hbX w2.heap.size hz; replace hz := hzX; replace Bw := Bw.tr hbX; clear hbX hzX bX hgX)
         refine hK.out _ _ ?_ (fun hHeld => ?_)
         · (try dsimp only); (try go_keep)
         clear hK K
         (try simp only [oFmtWk15, Act.put, List.setIfInBounds_toArray, List.set_cons_zero, List.set_cons_succ]))
      | (refine AllReadyH.cons (o := oFmtWk16) rfl (fun K hK => ?_) ?_
         ((try clear hH); (try (have hH := hHeld; clear hHeld)); go_simp; go_at_call 20; go_must (refine (lineOf1_any _ kSpent (by first | exact o1 | exact o2 | exact o3 | exact o4) (by decide) rfl (HT.out.below (B2.tr Bw))).mono ?_; rintro e wX ⟨rfl, hbX⟩; (try replace o1 := o1.bl hbX); (try replace o2 := o2.bl hbX); (try replace o3 := o3.bl hbX); (try replace o4 := o4.bl hbX); replace o0 := o0.below hbX; (try clear hcX hfX); obtain ⟨hcX, hfX, hzX⟩ := bkn hbX w2.heap.size hz; replace hz := hzX; replace Bw := Bw.tr hbX; clear hbX hzX))
         refine hK.out _ _ ?_ (fun hHeld => ?_)
         · (try dsimp only); (try go_keep)
         clear hK K
         (try simp only [oFmtWk16, Act.put, List.setIfInBounds_toArray, List.set_cons_zero, List.set_cons_succ]))
      | (refine AllReadyH.cons (o := oFmtWk17) rfl (fun K hK => ?_) ?_
         ((try clear hH); (try (have hH := hHeld; clear hHeld)); refine step_build1 (x := (r : Int)) rfl _ rfl rfl ?_; intro gX wX hbX bX hgX; (try replace o1 := o1.bl hbX); (try replace o2 := o2.bl hbX); (try replace o3 := o3.bl hbX); (try replace o4 := o4.bl hbX); have o4 := ln_blk (Nat.le_trans hz hgX) bX (N4.out); replace o0 := o0.below hbX; (try clear hcX hfX); obtain ⟨hcX, hfX, hzX⟩ := bkn hbX w2.heap.size hz; replace hz := hzX; replace Bw := Bw.tr hbX; clear hbX hzX bX hgX)
         refine hK.out _ _ ?_ (fun hHeld => ?_)
         · (try dsimp only); (try go_keep)
         clear hK K
         (try simp only [oFmtWk17, Act.put, List.setIfInBounds_toArray, List.set_cons_zero, List.set_cons_succ]))
      | (refine AllReadyH.cons (o := oFmtWk18) rfl (fun K hK => ?_) ?_
         ((try clear hH); (try (have hH := hHeld; clear hHeld)); go_simp; go_at_call 20; go_must (refine (lineOf1_any _ kReps (by first | exact o1 | exact o2 | exact o3 | exact o4) (by decide) rfl (HT.out.below (B2.tr Bw))).mono ?_; rintro e wX ⟨rfl, hbX⟩; (try replace o1 := o1.bl hbX); (try replace o2 := o2.bl hbX); (try replace o3 := o3.bl hbX); (try replace o4 := o4.bl hbX); replace o0 := o0.below hbX; (try clear hcX hfX); obtain ⟨hcX, hfX, hzX⟩ := bkn hbX w2.heap.size hz; replace hz := hzX; replace Bw := Bw.tr hbX; clear hbX hzX))
         refine hK.out _ _ ?_ (fun hHeld => ?_)
         · (try dsimp only); (try go_keep)
         clear hK K
         (try simp only [oFmtWk18, Act.put, List.setIfInBounds_toArray, List.set_cons_zero, List.set_cons_succ]))
      | (refine AllReadyH.cons (o := oFmtWk19) rfl (fun K hK => ?_) ?_
         dsimp only [oFmtWk19]
         (go_simp; have oS := own_four (B := w.heap.size) Bw B2.size (wl kFlips (fl.length : Int)) (wl kStock s) (wl kSpent p) (wl kReps r); (try simp only [alloc_sz] at oS); have o0 := o0.alloc (.cells #[.string (wl kFlips (fl.length : Int)), .string (wl kStock s), .string (wl kSpent p), .string (wl kReps r)] 9); have Bw := Bw.al (.cells #[.string (wl kFlips (fl.length : Int)), .string (wl kStock s), .string (wl kSpent p), .string (wl kReps r)] 9); have hz := Bw.size)
         refine hK.out _ _ ?_ (fun hHeld => ?_)
         · (try dsimp only); (try go_keep)
         clear hK K
         (try simp only [oFmtWk19, Act.put, List.setIfInBounds_toArray, List.set_cons_zero, List.set_cons_succ]))
      | (refine AllReadyH.cons (o := oFmtWk20) rfl (fun K hK => ?_) ?_
         (refine step_appOwn (enc := eStr) rowStr lenStr oneStr (B := w1.heap.size) (hb2.tr Bw).size o0 oS H8.out HM.out rfl _ _ rfl rfl rfl ?_; intro A5 c5 w5 own5 hg5; have hne5 : ∀ k, (Value.slice C F.length c).ownBlock = some k → w1.heap.size ≤ k := (fun k hk => (World.ownsRow.lt o0 k hk).1); have B5 : Below w.heap.size w w5 := (B2.tr Bw).grown hg5 (B2.tr Bw).size (fun k hk => Nat.le_trans B1.size (hne5 k hk)); have bP5 := (bP2.below Bw gP2).grown hg5 (fun e => by have := hne5 _ e.symm; omega); have q_0 := bP5.cell 0; have q_1 := bP5.cell 1; have q_2 := bP5.cell 2; have q_3 := bP5.cell 3; have q_4 := bP5.cell 4; have q_5 := bP5.cell 5; have q_6 := bP5.cell 6; simp only [List.getElem?_toArray, List.getElem?_cons_zero, List.getElem?_cons_succ] at q_0 q_1 q_2 q_3 q_4 q_5 q_6)
         refine hK.out _ _ ?_ (fun hHeld => ?_)
         · (try dsimp only); (try go_keep)
         clear hK K
         (try simp only [oFmtWk20, Act.put, List.setIfInBounds_toArray, List.set_cons_zero, List.set_cons_succ]))
      )
      | ((with_reducible show wpAnyH _ _ _ _ _ _ _ _ _); first
      | (refine wpAnyH_ready (rs := [5, 9, 13, 17]) (by decide +kernel) (by simp) ?_)
      | (refine wpAnyH_ready (rs := [6, 9, 13, 17]) (by decide +kernel) (by simp) ?_)
      | (refine wpAnyH_ready (rs := [9, 13, 17]) (by decide +kernel) (by simp) ?_)
      | (refine wpAnyH_ready (rs := [10, 13, 17]) (by decide +kernel) (by simp) ?_)
      | (refine wpAnyH_ready (rs := [13, 17]) (by decide +kernel) (by simp) ?_)
      | (refine wpAnyH_ready (rs := [14, 17]) (by decide +kernel) (by simp) ?_)
      | (refine wpAnyH_ready (rs := [17]) (by decide +kernel) (by simp) ?_)
      | (refine wpAnyH_ready (rs := [18]) (by decide +kernel) (by simp) ?_)
      | (refine wpAnyH_ready (rs := [19]) (by decide +kernel) (by simp) ?_)
      | (refine wpAnyH_ready (rs := [20]) (by decide +kernel) (by simp) ?_)
      | (refine wpAnyH_ready (rs := [14]) (by decide +kernel) (by simp) ?_)
      | (refine wpAnyH_ready (rs := [13]) (by decide +kernel) (by simp) ?_)
      | (refine wpAnyH_ready (rs := [10, 17]) (by decide +kernel) (by simp) ?_)
      | (refine wpAnyH_ready (rs := [10]) (by decide +kernel) (by simp) ?_)
      | (refine wpAnyH_ready (rs := [10, 13]) (by decide +kernel) (by simp) ?_)
      | (refine wpAnyH_ready (rs := [9, 17]) (by decide +kernel) (by simp) ?_)
      | (refine wpAnyH_ready (rs := [9]) (by decide +kernel) (by simp) ?_)
      | (refine wpAnyH_ready (rs := [9, 13]) (by decide +kernel) (by simp) ?_)
      | (refine wpAnyH_ready (rs := [6, 13, 17]) (by decide +kernel) (by simp) ?_)
      | (refine wpAnyH_ready (rs := [6, 17]) (by decide +kernel) (by simp) ?_)
      | (refine wpAnyH_ready (rs := [6]) (by decide +kernel) (by simp) ?_)
      | (refine wpAnyH_ready (rs := [6, 13]) (by decide +kernel) (by simp) ?_)
      | (refine wpAnyH_ready (rs := [6, 9, 17]) (by decide +kernel) (by simp) ?_)
      | (refine wpAnyH_ready (rs := [6, 9]) (by decide +kernel) (by simp) ?_)
      | (refine wpAnyH_ready (rs := [6, 9, 13]) (by decide +kernel) (by simp) ?_)
      | (refine wpAnyH_ready (rs := [5, 13, 17]) (by decide +kernel) (by simp) ?_)
      | (refine wpAnyH_ready (rs := [5, 17]) (by decide +kernel) (by simp) ?_)
      | (refine wpAnyH_ready (rs := [5]) (by decide +kernel) (by simp) ?_)
      | (refine wpAnyH_ready (rs := [5, 13]) (by decide +kernel) (by simp) ?_)
      | (refine wpAnyH_ready (rs := [5, 9, 17]) (by decide +kernel) (by simp) ?_)
      | (refine wpAnyH_ready (rs := [5, 9]) (by decide +kernel) (by simp) ?_)
      | (refine wpAnyH_ready (rs := [5, 9, 13]) (by decide +kernel) (by simp) ?_)
      | (refine wpAnyH_take (i := 0) (oi := oFmtWk0) (v := ?_) rfl (by decide +kernel) (by decide +kernel) (by decide +kernel) (fun _ _ _ h => h) (Or.inl ⟨by rfl, ?_⟩) (by assumption) ?_
         rotate_left 1
         · (intro wS hSw; (try dsimp only at hSw); dsimp only [oFmtWk0]; go_simp; (all_goals with_reducible rfl))
         simp only [oFmtWk0, Act.put, List.setIfInBounds_toArray, List.set_cons_zero, List.set_cons_succ])
      | (refine wpAnyH_take (i := 1) (oi := oFmtWk1) (v := ?_) rfl (by decide +kernel) (by decide +kernel) (by decide +kernel) (fun _ _ _ h => h) (Or.inl ⟨by rfl, ?_⟩) (by assumption) ?_
         rotate_left 1
         · (intro wS hSw; (try dsimp only at hSw); dsimp only [oFmtWk1]; go_simp; (all_goals with_reducible rfl))
         simp only [oFmtWk1, Act.put, List.setIfInBounds_toArray, List.set_cons_zero, List.set_cons_succ])
      | (refine wpAnyH_take (i := 2) (oi := oFmtWk2) (v := ?_) rfl (by decide +kernel) (by decide +kernel) (by decide +kernel) (fun _ _ _ h => h) (Or.inl ⟨by rfl, ?_⟩) (by assumption) ?_
         rotate_left 1
         · (intro wS hSw; (try dsimp only at hSw); dsimp only [oFmtWk2]; go_simp; (all_goals with_reducible rfl))
         simp only [oFmtWk2, Act.put, List.setIfInBounds_toArray, List.set_cons_zero, List.set_cons_succ])
      | (refine wpAnyH_take (i := 3) (oi := oFmtWk3) (v := ?_) rfl (by decide +kernel) (by decide +kernel) (by decide +kernel) (fun _ _ _ h => h) (Or.inl ⟨by rfl, ?_⟩) (by assumption) ?_
         rotate_left 1
         · (intro wS hSw; (try dsimp only at hSw); dsimp only [oFmtWk3]; go_simp; (all_goals with_reducible rfl))
         simp only [oFmtWk3, Act.put, List.setIfInBounds_toArray, List.set_cons_zero, List.set_cons_succ])
      | (refine wpAnyH_take (i := 4) (oi := oFmtWk4) (v := ?_) rfl (by decide +kernel) (by decide +kernel) (by decide +kernel) (fun _ _ _ h => h) (Or.inl ⟨by rfl, ?_⟩) (by assumption) ?_
         rotate_left 1
         · (intro wS hSw; (try dsimp only at hSw); dsimp only [oFmtWk4]; go_simp; (all_goals with_reducible rfl))
         simp only [oFmtWk4, Act.put, List.setIfInBounds_toArray, List.set_cons_zero, List.set_cons_succ])
      | (refine wpAnyH_take (i := 7) (oi := oFmtWk5) (v := ?_) rfl (by decide +kernel) (by decide +kernel) (by decide +kernel) (fun _ _ _ h => h) (Or.inl ⟨by rfl, ?_⟩) (by assumption) ?_
         rotate_left 1
         · (intro wS hSw; (try dsimp only at hSw); dsimp only [oFmtWk5]; go_simp; (all_goals with_reducible rfl))
         simp only [oFmtWk5, Act.put, List.setIfInBounds_toArray, List.set_cons_zero, List.set_cons_succ])
      | (refine wpAnyH_take (i := 8) (oi := oFmtWk6) (v := ?_) rfl (by decide +kernel) (by decide +kernel) (by decide +kernel) (fun _ _ _ h => h) (Or.inl ⟨by rfl, ?_⟩) (by assumption) ?_
         rotate_left 1
         · (intro wS hSw; (try dsimp only at hSw); dsimp only [oFmtWk6]; go_simp; (all_goals with_reducible rfl))
         simp only [oFmtWk6, Act.put, List.setIfInBounds_toArray, List.set_cons_zero, List.set_cons_succ])
      | (refine wpAnyH_take (i := 11) (oi := oFmtWk7) (v := ?_) rfl (by decide +kernel) (by decide +kernel) (by decide +kernel) (fun _ _ _ h => h) (Or.inl ⟨by rfl, ?_⟩) (by assumption) ?_
         rotate_left 1
         · (intro wS hSw; (try dsimp only at hSw); dsimp only [oFmtWk7]; go_simp; (all_goals with_reducible rfl))
         simp only [oFmtWk7, Act.put, List.setIfInBounds_toArray, List.set_cons_zero, List.set_cons_succ])
      | (refine wpAnyH_take (i := 12) (oi := oFmtWk8) (v := ?_) rfl (by decide +kernel) (by decide +kernel) (by decide +kernel) (fun _ _ _ h => h) (Or.inl ⟨by rfl, ?_⟩) (by assumption) ?_
         rotate_left 1
         · (intro wS hSw; (try dsimp only at hSw); dsimp only [oFmtWk8]; go_simp; (all_goals with_reducible rfl))
         simp only [oFmtWk8, Act.put, List.setIfInBounds_toArray, List.set_cons_zero, List.set_cons_succ])
      | (refine wpAnyH_take (i := 15) (oi := oFmtWk9) (v := ?_) rfl (by decide +kernel) (by decide +kernel) (by decide +kernel) (fun _ _ _ h => h) (Or.inl ⟨by rfl, ?_⟩) (by assumption) ?_
         rotate_left 1
         · (intro wS hSw; (try dsimp only at hSw); dsimp only [oFmtWk9]; go_simp; (all_goals with_reducible rfl))
         simp only [oFmtWk9, Act.put, List.setIfInBounds_toArray, List.set_cons_zero, List.set_cons_succ])
      | (refine wpAnyH_take (i := 16) (oi := oFmtWk10) (v := ?_) rfl (by decide +kernel) (by decide +kernel) (by decide +kernel) (fun _ _ _ h => h) (Or.inl ⟨by rfl, ?_⟩) (by assumption) ?_
         rotate_left 1
         · (intro wS hSw; (try dsimp only at hSw); dsimp only [oFmtWk10]; go_simp; (all_goals with_reducible rfl))
         simp only [oFmtWk10, Act.put, List.setIfInBounds_toArray, List.set_cons_zero, List.set_cons_succ])
      | (refine wpAnyH_take (i := 21) (oi := oFmtWk21) (v := ?_) rfl (by decide +kernel) (by decide +kernel) (by decide +kernel) (fun _ _ _ h => h) (Or.inl ⟨by rfl, ?_⟩) (by assumption) ?_
         rotate_left 1
         · (intro wS hSw; (try dsimp only at hSw); dsimp only [oFmtWk21]; go_simp; (all_goals with_reducible rfl))
         simp only [oFmtWk21, Act.put, List.setIfInBounds_toArray, List.set_cons_zero, List.set_cons_succ])
      | (refine wpAnyH_done (by decide +kernel) ?_ _; refine And.right (a := True) ?_)))
    all_goals (refine ⟨trivial, ?_⟩)
    all_goals
      go_wp2
      go_ret
      exact ⟨A5, c5, by rw [List.length_append]; rfl, by rw [List.length_append]; exact own5.mono B1.size, B5⟩

end Go.Proofs.YtklgbjgjojelbaaGreatDoor
