/- ScriptText of both sides: the walks. Conditions: the library's table of powers, as its text lays it. -/
import Derived.Test.YtdjifoglojogaaaDoorFmtAct
import Derived.Test.YtdjifoglojogaaaDoorK3
import Derived.Lib.AppendStr
namespace Go.Proofs.YtdjifoglojogaaaDoor
open Go.ChangeShapes Go.WideShapes Go.ChangeAt Go.RowKit
set_option linter.unusedVariables false
set_option linter.unusedSimpArgs false

abbrev AcT := Int × Int × Int
def acOk (x : AcT) : Bool := actOk x.1 x.2.1 x.2.2
def acTx (x : AcT) : ByteArray := actText x.1 x.2.1 x.2.2
def scrB (l : List AcT) : ByteArray := l.foldl (fun s x => s ++ (acTx x ++ (⟨#[10]⟩ : ByteArray))) ByteArray.empty
def scrOk (l : List AcT) : Bool := decide (l.length ≤ 40) && l.all acOk
def scrText (l : List AcT) : ByteArray := if scrOk l = true then scrB l else ByteArray.empty
theorem actTx_size {k a b : Int} (h : actOk k a b = true) : (actTx k a b).size ≤ 100 := by
  have h1 : wFlip.size = 4 := rfl
  have h2 : wBreak.size = 5 := rfl
  have h3 : wBuy.size = 3 := rfl
  have h4 : wUndo.size = 4 := rfl
  have h5 : wAudit.size = 5 := rfl
  rcases actOk_cases h with ⟨rfl, q1, q2, q3, q4⟩ | ⟨rfl, q1, q2, rfl⟩ | ⟨rfl, q1, q2, rfl⟩ | ⟨rfl, rfl, rfl⟩ | ⟨rfl, rfl, rfl⟩
  · have := lineB_size [a, b] wFlip (by simp; omega); simp [actTx] at this ⊢; omega
  · have := lineB_size [a] wBreak (by simp; omega); simp [actTx] at this ⊢; omega
  · have := lineB_size [a] wBuy (by simp; omega); simp [actTx] at this ⊢; omega
  · simp [actTx]; omega
  · simp [actTx]; omega
theorem actText_size (k a b : Int) : (actText k a b).size ≤ 100 := by
  unfold actText
  split
  · rename_i h; exact actTx_size h
  · exact Nat.zero_le _
theorem scrB_succ {l : List AcT} {j : Nat} (h : j < l.length) : scrB (l.take j) ++ (acTx l[j] ++ (⟨#[10]⟩ : ByteArray)) = scrB (l.take (j + 1)) := by
  unfold scrB
  rw [List.take_succ_eq_append_getElem h, List.foldl_append]
  rfl
theorem scrB_size (l : List AcT) : ∀ j, j ≤ l.length → (scrB (l.take j)).size ≤ 101 * j
  | 0, _ => Nat.zero_le _
  | j + 1, h => by
    have ih := scrB_size l j (by omega)
    rw [← scrB_succ (by omega : j < l.length), ByteArray.size_append, ByteArray.size_append]
    have h2 := actText_size (l[j]).1 (l[j]).2.1 (l[j]).2.2
    have h3 : (⟨#[10]⟩ : ByteArray).size = 1 := rfl
    unfold acTx
    omega
theorem all_take_succ {l : List AcT} {j : Nat} (h : j < l.length) (e : (l.take j).all acOk = true) (e2 : acOk l[j] = true) : (l.take (j + 1)).all acOk = true := by
  rw [List.take_succ_eq_append_getElem h, List.all_append, e]
  simp [e2]
theorem scr_no {l : List AcT} {j : Nat} (h : j < l.length) (e : acOk l[j] = false) : scrOk l = false := by
  unfold scrOk
  have : l.all acOk = false := by
    rw [List.all_eq_false]
    exact ⟨l[j], List.getElem_mem h, by simp [e]⟩
  rw [this, Bool.and_false]
theorem scr_yes {l : List AcT} (h : l.length ≤ 40) (e : (l.take l.length).all acOk = true) : scrOk l = true ∧ scrText l = scrB (l.take l.length) := by
  rw [List.take_length] at e ⊢
  have : scrOk l = true := by unfold scrOk; rw [e]; simp [h]
  exact ⟨this, by unfold scrText; rw [if_pos this]⟩

set_option maxHeartbeats 1000000 in
set_option maxRecDepth 100000 in
theorem scriptI_any (v : Value) (l : List AcT) (w : World) (h : Rd 3 (RE eTrip) w v l) (ht : Tab w) : Calls Tryd.prog 11 #[v] w (Ret (.tuple #[.string (scrText l), .bool (scrOk l)]) w) := by
  obtain ⟨A, c, rfl, hc, hm⟩ := h.form
  have HT := Lib.hid ht; clear ht
  have hno : scrOk l = false → (Value.tuple #[.string (⟨#[]⟩ : ByteArray), .bool false]) = .tuple #[.string (scrText l), .bool (scrOk l)] := fun e => by unfold scrText; rw [e]; rfl
  by_cases h40 : l.length ≤ 40
  · have h40' : ¬ ((40 : Int) < (l.length : Int)) := by omega
    have Hno := Lib.hid hno; clear hno
    go_enter Tryd.func11, Tryd.ntmps11
    go_wp2
    go_loopw [4, 14] (fun s4 i wr => ∃ k : Nat, k ≤ l.length ∧ i = .int .i64 k ∧ s4 = .string (scrB (l.take k)) ∧ Hid ((l.take k).all acOk = true) ∧ Below w.heap.size w wr) (fun _ i _ => l.length - (intOf i).toNat)
    case atStart => exact ⟨0, Nat.zero_le _, rfl, rfl, Lib.hid rfl, Below.refl _ _⟩
    case round =>
      obtain ⟨k, hk, rfl, rfl, Hg, hbel⟩ := hrel
      by_cases hlt : k < l.length
      · obtain ⟨b, off, rfl, hb, k0, k1, k2⟩ := (h.below RE.stays hbel).atTrip hlt
        have hs1 := scrB_size l k hk
        have hst := scrB_succ hlt
        have hz := actText_size (l[k]).1 (l[k]).2.1 (l[k]).2.2
        obtain ⟨x, hx⟩ : ∃ x, x = l[k] := ⟨_, rfl⟩
        rw [← hx] at k0 k1 k2 hst hz
        obtain ⟨x0, x1, x2⟩ := x
        simp only at k0 k1 k2 hz
        obtain ⟨S, hS⟩ : ∃ S, S = scrB (l.take k) := ⟨_, rfl⟩
        rw [← hS] at hs1 hst ⊢
        obtain ⟨T, hT⟩ : ∃ T, T = actText x0 x1 x2 := ⟨_, rfl⟩
        obtain ⟨o, ho⟩ : ∃ o, o = actOk x0 x1 x2 := ⟨_, rfl⟩
        have hst' : S ++ (T ++ (⟨#[10]⟩ : ByteArray)) = scrB (l.take (k + 1)) := by rw [hT]; exact hst
        rw [← hT] at hz
        have hSz : S.size ≤ 4040 := by omega
        have hTn : (T ++ (⟨#[10]⟩ : ByteArray)).size = T.size + 1 := by rw [ByteArray.size_append]; rfl
        have hall := all_take_succ hlt Hg.out
        have hscr := scr_no hlt
        rw [← hx] at hall hscr
        have cI : ∀ W : World, Tab W → Calls Tryd.prog 7 #[.agg #[.int .i64 x0, .int .i64 x1, .int .i64 x2]] W (Ret (.tuple #[.string T, .bool o]) W) := fun W hW => by rw [hT, ho]; exact fmtActI_any x0 x1 x2 W hW
        have HI := Lib.hid cI; have HSt := Lib.hid hst'; have HX := Lib.hid hx; have HS := Lib.hid hS; have HTT := Lib.hid hT
        have HA : Hid (o = true → (l.take (k + 1)).all acOk = true) := Lib.hid (fun e => hall (by unfold acOk; rw [← ho]; exact e))
        have HNo : Hid (o = false → scrOk l = false) := Lib.hid (fun e => hscr (by unfold acOk; rw [← ho]; exact e))
        clear cI hst hst' hx hS hT ho hall hscr hs1
        cases o
        · have Hn : Hid (scrOk l = false) := Lib.hid (HNo.out rfl)
          go_wp2_with fail
          refine (HI.out _ (HT.out.below (hbel.al _))).mono ?_
          rintro e w2 ⟨rfl, hb2⟩
          go_wp2
          refine bodyPost_ret (v := .tuple #[.string (⟨#[]⟩ : ByteArray), .bool false]) (by simp [results, Tryd.results11, go_sem]) rfl ⟨congrArg _ (Hno.out Hn.out), (hbel.al _).tr hb2⟩
        · have Hy : Hid ((l.take (k + 1)).all acOk = true) := Lib.hid (HA.out rfl)
          go_wp2_with fail
          refine (HI.out _ (HT.out.below (hbel.al _))).mono ?_
          rintro e w2 ⟨rfl, hb2⟩
          go_wp2
          go_roundw
          case rel => exact ⟨k + 1, by omega, by go_num, by rw [← HSt.out], Hy, (hbel.al _).tr hb2⟩
          case measure => simp [intOf]; omega
      · obtain rfl : k = l.length := by omega
        have hy := scr_yes h40 Hg.out
        have Hy := Lib.hid hy; clear hy
        go_wp2
        refine bodyPost_ret (v := .tuple #[.string (scrB (l.take l.length)), .bool true]) (by simp [results, Tryd.results11, go_sem]) rfl ⟨by rw [Hy.out.1, Hy.out.2], hbel⟩
  · have h40' : (40 : Int) < (l.length : Int) := by omega
    have e : scrOk l = false := by unfold scrOk; simp [h40]
    rw [← hno e]
    clear hno e
    go_enter Tryd.func11, Tryd.ntmps11
    go_wp2
    refine bodyPost_ret (v := .tuple #[.string (⟨#[]⟩ : ByteArray), .bool false]) (by simp [results, Tryd.results11, go_sem]) rfl ⟨rfl, Below.refl _ _⟩

/-- A row of bytes of the call's own that holds a text. -/
def OwnB (B : Nat) (w : World) (v : Value) (S : ByteArray) : Prop := ∃ g c, v = .slice (some ⟨g, 0, none⟩) S.size c ∧ w.ownsRow B 5 1 v S.size (Lib.strCells S)
theorem OwnB.below {B : Nat} {w w' : World} {v : Value} {S : ByteArray} (h : OwnB B w v S) (hb : Below w.heap.size w w') : OwnB B w' v S := by
  obtain ⟨g, c, rfl, ho⟩ := h
  refine ⟨g, c, rfl, World.ownsRow.kept ho (row := none) ⟨hb.os, hb.tape, hb.output, hb.size, fun k hk _ => hb.block k hk⟩ ?_⟩
  simp [Value.ownBlock]
theorem OwnB.mt (w : World) (B g : Nat) (hg : g = w.heap.size) (hB : B ≤ w.heap.size) : OwnB B (w.alloc (.cells #[] 5)) (.slice (some ⟨g, 0, none⟩) 0 0) ByteArray.empty := by
  have h := own_mt w (E := 5) (α := Int) (size := 1) (enc := eByte) g hg B hB
  exact ⟨g, 0, rfl, h⟩
theorem strOf_self (S : ByteArray) : strOfNums (S.data.toList.map fun b => (b.toNat : Int)) = S := by
  unfold strOfNums
  apply ByteArray.ext
  rw [List.map_map]
  rw [show ((fun n : Int => UInt8.ofNat n.toNat) ∘ fun b : UInt8 => (b.toNat : Int)) = id from by funext b; simp]
  simp
theorem OwnB.text {B : Nat} {w : World} {g c : Nat} {S : ByteArray} (h : OwnB B w (.slice (some ⟨g, 0, none⟩) S.size c) S) : (convert 41 9 (.slice (some ⟨g, 0, none⟩) S.size c)).run Tryd.prog w = .ok (.string S) w := by
  obtain ⟨g', c', e, ho⟩ := h
  injection e with e1 e2 e3
  have := run_convert_bytes_arg (P := Tryd.prog) w 41 5 Tryd.underlying41 Tryd.underlying5 g 0 S.size c (S.data.toList.map fun b => (b.toNat : Int)) (by rw [List.length_map, Array.length_toList]; rfl) (fun i hi => by
    have hc := ho.cells (g := g) rfl i (.int .u8 ((S.data.toList.map fun b => (b.toNat : Int)).getD i 0)) (by
      have hi' : i < S.data.toList.length := by rw [Array.length_toList]; exact hi
      unfold Lib.strCells
      rw [List.getElem?_map, List.getElem?_eq_getElem hi', List.getD_eq_getElem?_getD, List.getElem?_map, List.getElem?_eq_getElem hi']
      rfl)
    rwa [Addr.add_lit] at hc) 9 Tryd.underlying9
  rw [strOf_self] at this
  exact this
/-- append of a text to such a row. -/
theorem wpList_appStr {ops : Array Oper} {rest : List Oper} {o : Oper} {a : Act} {Q : Exit → Act → World → Prop} (hgd : o.guard = none) {W0 w : World} (hbel : Below W0.heap.size W0 w) {v : Value} {S T : ByteArray} (h : OwnB W0.heap.size w v S) (hs : S.size + T.size ≤ 1000000)
    (sl x : Operand) (ho : o.op = .call { callee := .builtin .append, args := #[sl, x], argTypes := #[41, 9] }) (hv : a.eval sl = v) (hx : a.eval x = .string T)
    (k : ∀ v' w', OwnB W0.heap.size w' v' (S ++ T) → Below W0.heap.size W0 w' → w.grownBy w' v.ownBlock → wpList Tryd.prog ops Q rest (a.put o.dst v') w') : wpList Tryd.prog ops Q (o :: rest) a w := by
  obtain ⟨g, c, rfl, hown⟩ := h
  obtain ⟨i0, hi, hz0, hz1, hz2⟩ := info_parts (P := Tryd.prog) (e := 5) (z := .int .u8 0) (size := 1) (bytes := 1) (by kernel_rfl)
  refine Lib.wpList_append_own_string (P := Tryd.prog) w hgd sl x _ _ ho W0.heap.size 5 i0 Tryd.underlying41 Tryd.underlying9 hi hz0 hz1 hz2 _ S.size _ hv hown T hx (by unfold maxLen; omega) (by omega) hbel.size fun v' w' ho' hg hn => ?_
  have hb : Below W0.heap.size W0 w' := hbel.grown hg hbel.size (fun k hk => (World.ownsRow.lt hown k hk).1)
  refine k v' w' ?_ hb hg
  have e : Lib.strCells S ++ Lib.strCells T = Lib.strCells (S ++ T) := by simp [Lib.strCells, ByteArray.data_append]
  have e2 : (S ++ T).size = S.size + T.size := ByteArray.size_append ..
  rw [e] at ho'
  rcases ho'.2 with ⟨rfl, h0⟩ | ⟨g', cap, cur, rfl, _⟩
  · exact absurd (hn.1 rfl).1 (by simp)
  · refine ⟨g', cap, by rw [e2], ?_⟩
    rw [e2]; exact ho'

set_option maxHeartbeats 1000000 in
set_option maxRecDepth 100000 in
theorem scriptS_any (v : Value) (l : List AcT) (w : World) (h : Rd 3 (RE eTrip) w v l) : Calls Tryd.prog 9 #[v] w (Ret (.tuple #[.string (scrText l), .bool (scrOk l)]) w) := by
  obtain ⟨A, c, rfl, hc, hm⟩ := h.form
  have hno : scrOk l = false → (Value.tuple #[.string (⟨#[]⟩ : ByteArray), .bool false]) = .tuple #[.string (scrText l), .bool (scrOk l)] := fun e => by unfold scrText; rw [e]; rfl
  have own0 := OwnB.mt w w.heap.size w.heap.size rfl (Nat.le_refl _)
  have Hno := Lib.hid hno; clear hno
  go_enter Tryd.func9, Tryd.ntmps9
  go_wp2
  go_loopw [4, 5] (fun s4 i wr => ∃ k : Nat, k ≤ l.length ∧ i = .int .i64 k ∧ OwnB w.heap.size wr s4 (scrB (l.take k)) ∧ Hid ((k = 0 ∨ l.length ≤ 40) ∧ (l.take k).all acOk = true) ∧ Below w.heap.size w wr) (fun _ i _ => l.length - (intOf i).toNat)
  case atStart => exact ⟨0, Nat.zero_le _, rfl, own0, Lib.hid ⟨.inl rfl, rfl⟩, (Below.refl _ _).al _⟩
  case round =>
    obtain ⟨k, hk, rfl, hown, Hg, hbel⟩ := hrel
    clear own0
    by_cases hlt : k < l.length
    · obtain ⟨b, off, rfl, hb, k0, k1, k2⟩ := (h.below RE.stays hbel).atTrip hlt
      have hs1 := scrB_size l k hk
      have hst := scrB_succ hlt
      have hz := actText_size (l[k]).1 (l[k]).2.1 (l[k]).2.2
      obtain ⟨x, hx⟩ : ∃ x, x = l[k] := ⟨_, rfl⟩
      rw [← hx] at k0 k1 k2 hst hz
      obtain ⟨x0, x1, x2⟩ := x
      simp only at k0 k1 k2 hz
      obtain ⟨T, hT⟩ : ∃ T, T = actText x0 x1 x2 := ⟨_, rfl⟩
      obtain ⟨o, ho⟩ : ∃ o, o = actOk x0 x1 x2 := ⟨_, rfl⟩
      have hst' : scrB (l.take k) ++ (T ++ (⟨#[10]⟩ : ByteArray)) = scrB (l.take (k + 1)) := by rw [hT]; exact hst
      rw [← hT] at hz
      have hTn : (T ++ (⟨#[10]⟩ : ByteArray)).size = T.size + 1 := by rw [ByteArray.size_append]; rfl
      have hall := all_take_succ hlt Hg.out.2
      have hscr := scr_no hlt
      rw [← hx] at hall hscr
      have cS : ∀ W : World, Calls Tryd.prog 5 #[.agg #[.int .i64 x0, .int .i64 x1, .int .i64 x2]] W (Ret (.tuple #[.string T, .bool o]) W) := fun W => by rw [hT, ho]; exact fmtActS_any x0 x1 x2 W
      have HI := Lib.hid cS; have HSt := Lib.hid hst'; have HX := Lib.hid hx; have HTT := Lib.hid hT; have Hs1 := Lib.hid hs1
      have HA : Hid (o = true → (l.take (k + 1)).all acOk = true) := Lib.hid (fun e => hall (by unfold acOk; rw [← ho]; exact e))
      have HNo : Hid (o = false → scrOk l = false) := Lib.hid (fun e => hscr (by unfold acOk; rw [← ho]; exact e))
      clear cS hst hst' hx hT ho hall hscr hs1
      cases o
      · have Hn : Hid (scrOk l = false) := Lib.hid (HNo.out rfl)
        go_wp2_with fail
        refine (HI.out _).mono ?_
        rintro e w2 ⟨rfl, hb2⟩
        go_wp2
        refine bodyPost_ret (v := .tuple #[.string (⟨#[]⟩ : ByteArray), .bool false]) (by simp [results, Tryd.results9, go_sem]) rfl ⟨congrArg _ (Hno.out Hn.out), hbel.tr hb2⟩
      · by_cases h40 : l.length ≤ 40
        · have h40' : ¬ ((40 : Int) < (l.length : Int)) := by omega
          have Hy : Hid ((k + 1 = 0 ∨ l.length ≤ 40) ∧ (l.take (k + 1)).all acOk = true) := Lib.hid ⟨.inr h40, HA.out rfl⟩
          have HZ : Hid ((scrB (l.take k)).size + (T ++ (⟨#[10]⟩ : ByteArray)).size ≤ 1000000) := Lib.hid (by have := Hs1.out; omega)
          go_wp2_with fail
          refine (HI.out _).mono ?_
          rintro e w2 ⟨rfl, hb2⟩
          have own2 := hown.below hb2
          have B2 := hbel.tr hb2
          go_wp2_with (at_builtin; go_must (refine wpList_appStr rfl B2 own2 HZ.out _ _ rfl rfl rfl ?_); intro v4 w4 own4 hb4 hg4)
          go_roundw
          case rel => exact ⟨k + 1, by omega, by go_num, by rw [← HSt.out]; exact own4, Hy, hb4⟩
          case measure => simp [intOf]; omega
        · have h40' : (40 : Int) < (l.length : Int) := by omega
          have Hn : Hid (scrOk l = false) := Lib.hid (by unfold scrOk; simp [h40])
          go_wp2_with fail
          refine (HI.out _).mono ?_
          rintro e w2 ⟨rfl, hb2⟩
          go_wp2
          refine bodyPost_ret (v := .tuple #[.string (⟨#[]⟩ : ByteArray), .bool false]) (by simp [results, Tryd.results9, go_sem]) rfl ⟨congrArg _ (Hno.out Hn.out), hbel.tr hb2⟩
    · obtain rfl : k = l.length := by omega
      have h40 : l.length ≤ 40 := by have := Hg.out.1; omega
      have hy := scr_yes h40 Hg.out.2
      have Hy := Lib.hid hy; clear hy
      obtain ⟨S, hS⟩ : ∃ S, S = scrB (l.take l.length) := ⟨_, rfl⟩
      rw [← hS] at hown
      have HS := Lib.hid hS; clear hS
      obtain ⟨g, cc, rfl, ho⟩ := hown
      have hconv := OwnB.text (B := w.heap.size) (w := wr) (g := g) (c := cc) (S := S) ⟨g, cc, rfl, ho⟩
      go_wp2
      refine bodyPost_ret (v := .tuple #[.string S, .bool true]) (by simp [results, Tryd.results9, go_sem]) rfl ⟨by rw [HS.out, Hy.out.1, Hy.out.2], hbel⟩

set_option maxRecDepth 100000 in
theorem FnExactScriptText_walk (w : World) (ht : Tab w) (v : Value) (l : List AcT) (h : Rd 3 RTrip w v l) (ok : AllOk (fun x : AcT => I64 x.1 ∧ I64 x.2.1 ∧ I64 x.2.2) l) :
    Calls Tryd.prog 4 #[v] w (Ret (.bool true) w) := by
  have HT := Lib.hid ht; clear ht
  by_cases hs : l.length ≤ 1048576
  · have hsz : szOf 1048576 l.length = 1048576 - (l.length : Int) := by unfold szOf; rw [if_neg (by omega)]
    have hS : Small l.length := hs
    have hp : ¬ ((1048576 : Int) - (l.length : Int) < 0) := by omega
    obtain ⟨T, hT⟩ : ∃ T, T = scrText l := ⟨_, rfl⟩
    obtain ⟨ob, hob⟩ : ∃ ob, ob = scrOk l := ⟨_, rfl⟩
    have HTT := Lib.hid hT; have HO := Lib.hid hob; have HSz := Lib.hid hsz; clear hT hob hsz
    have cI : ∀ (W : World) (u : Value), Tab W → Rd 3 (RE eTrip) W u l → Calls Tryd.prog 11 #[u] W (Ret (.tuple #[.string T, .bool ob]) W) := fun W u hW hu => by rw [HTT.out, HO.out]; exact scriptI_any u l W hu hW
    have cS : ∀ (W : World) (u : Value), Rd 3 (RE eTrip) W u l → Calls Tryd.prog 9 #[u] W (Ret (.tuple #[.string T, .bool ob]) W) := fun W u hu => by rw [HTT.out, HO.out]; exact scriptS_any u l W hu
    go_enter Tryd.func4, Tryd.ntmps4
    go_wp2_with fail
    refine (szActs_any v l 1048576 _ h (by decide) (by decide)).mono ?_
    rintro e w1 ⟨rfl, rfl⟩
    rw [HSz.out]
    go_wp2_with fail
    refine (toActs_any v l _ h hS).mono ?_
    rintro e w1 ⟨A1, c1, rfl, own1, hb1⟩
    have r1 := own1.rd lenAct (by decide)
    go_wp2_with fail
    refine (cS _ _ r1).mono ?_
    rintro e w2 ⟨rfl, hb2⟩
    have B2 := hb1.tr hb2
    go_wp2_with fail
    refine (toActs_any v l _ (h.below RE.stays B2) hS).mono ?_
    rintro e w3 ⟨A3, c3, rfl, own3, hb3⟩
    have B3 := B2.tr hb3
    have r3 := own3.rd lenAct (by decide)
    go_wp2_with fail
    refine (cI _ _ (HT.out.below B3) r3).mono ?_
    rintro e w4 ⟨rfl, hb4⟩
    have B4 := B3.tr hb4
    have r4 := r3.below RE.stays hb4
    go_wp2_with fail
    refine (toActs_any v l _ (h.below RE.stays B4) hS).mono ?_
    rintro e w5 ⟨A5, c5, rfl, own5, hb5⟩
    have B5 := B4.tr hb5
    have r5 := own5.rd lenAct (by decide)
    go_wp2_with fail
    refine (eqActs_any _ _ l l _ (r4.below RE.stays hb5) r5).mono ?_
    rintro e w6 ⟨rfl, hb6⟩
    have B6 := B5.tr hb6
    rw [show (l == l) = true from by simp]
    go_wp2
    all_goals go_ret
    all_goals exact ⟨rfl, B6⟩
  · have hsz : szOf 1048576 l.length = -1 := by unfold szOf; rw [if_pos (by omega)]
    go_enter Tryd.func4, Tryd.ntmps4
    go_wp2_with fail
    refine (szActs_any v l 1048576 _ h (by decide) (by decide)).mono ?_
    rintro e w1 ⟨rfl, rfl⟩
    rw [hsz]
    go_wp2
    go_ret
    exact ⟨rfl, Below.refl _ _⟩
end Go.Proofs.YtdjifoglojogaaaDoor
