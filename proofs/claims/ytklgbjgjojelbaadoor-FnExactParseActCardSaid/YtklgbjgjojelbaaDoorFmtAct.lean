/- FormatAct of both sides: the walks, and the law's. Conditions: the library's table of powers, as its text lays it. -/
import Derived.Test.YtklgbjgjojelbaaDoorK1
import Derived.Test.YtklgbjgjojelbaaDoorK2
import Derived.Test.YtklgbjgjojelbaaDoorFmtW
namespace Go.Proofs.YtklgbjgjojelbaaDoor
open Go.ChangeShapes Go.WideShapes Go.ChangeAt Go.RowKit
set_option linter.unusedVariables false
set_option linter.unusedSimpArgs false

theorem own_two {α : Type} {E : TypeId} {enc : α → List Value} (w : World) (x y : α) {u v : Value} (h : enc x = [u]) (h' : enc y = [v]) : OwnL E 1 enc w.heap.size (w.alloc (.cells #[u, v] E)) (.slice (some ⟨w.heap.size, 0, none⟩) 2 2) [x, y] := by
  have e : [x, y].flatMap enc = [u, v] := by simp [h, h']
  unfold OwnL
  rw [e]
  exact ⟨by simp, .inr ⟨w.heap.size, 2, #[u, v], rfl, Nat.le_refl _, heap_alloc_new w _, by simp, by simp [maxLen], by simp, by simp⟩⟩

def wFlip : ByteArray := ⟨#[102, 108, 105, 112]⟩
def wBreak : ByteArray := ⟨#[98, 114, 101, 97, 107]⟩
def wBuy : ByteArray := ⟨#[98, 117, 121]⟩
def wUndo : ByteArray := ⟨#[117, 110, 100, 111]⟩
def wAudit : ByteArray := ⟨#[97, 117, 100, 105, 116]⟩
/-- The text of an act that is valid. -/
def actTx (k a b : Int) : ByteArray :=
  if k = 1 then lineB wFlip [a, b] else if k = 2 then lineB wBreak [a] else if k = 3 then lineB wBuy [a] else if k = 4 then wUndo else wAudit
def actText (k a b : Int) : ByteArray := if actOk k a b = true then actTx k a b else ByteArray.empty
theorem actOk_cases {k a b : Int} (h : actOk k a b = true) : (k = 1 ∧ 0 ≤ a ∧ a ≤ 7 ∧ 0 ≤ b ∧ b ≤ 7) ∨ (k = 2 ∧ 0 ≤ a ∧ a ≤ 31 ∧ b = 0) ∨ (k = 3 ∧ 1 ≤ a ∧ a ≤ 100 ∧ b = 0) ∨ (k = 4 ∧ a = 0 ∧ b = 0) ∨ (k = 5 ∧ a = 0 ∧ b = 0) := by
  unfold actOk inB at h
  by_cases h1 : k = 1
  · subst h1; simp at h; omega
  · by_cases h2 : k = 2
    · subst h2; simp at h; omega
    · by_cases h3 : k = 3
      · subst h3; simp at h; omega
      · simp [h1, h2, h3] at h; omega

set_option maxHeartbeats 1000000 in
set_option maxRecDepth 100000 in
theorem fmtActI_any (k a b : Int) (w : World) (ht : Tab w) : Calls Tryd.prog 14 #[.agg #[.int .i64 k, .int .i64 a, .int .i64 b]] w (Ret (.tuple #[.string (actText k a b), .bool (actOk k a b)]) w) := by
  have hA := (Below.refl w.heap.size w).al (.cells #[.int .i64 k, .int .i64 a, .int .i64 b] 23)
  have HT := Lib.hid ht; clear ht
  rcases hok : actOk k a b with _ | _
  · have e : actText k a b = ByteArray.empty := by unfold actText; rw [hok]; rfl
    rw [e]
    have Hok := Lib.hid hok; clear hok e
    go_enter Tryd.func14, Tryd.ntmps14
    go_wp2_with fail
    refine (actOkI_any _ _ _ _).mono ?_
    rintro e w1 ⟨rfl, hb1⟩
    obtain ⟨hc1, hf1, hz1⟩ := bk hb1
    (try simp at hz1)
    have hy1_0 : w.heap.size < w1.heap.size := by omega
    rw [Hok.out]
    go_wp2
    refine bodyPost_ret (v := .tuple #[.string (⟨#[]⟩ : ByteArray), .bool false]) (by simp [results, Tryd.results14, go_sem]) rfl ⟨rfl, hA.tr hb1⟩
  · have e : actText k a b = actTx k a b := by unfold actText; rw [hok]; rfl
    rw [e]
    have Hok := Lib.hid hok
    have hx := Blk.new_ w 23 #[.int .i64 k, .int .i64 a, .int .i64 b]
    rcases actOk_cases hok with ⟨rfl, h1, h2, h3, h4⟩ | ⟨rfl, h1, h2, rfl⟩ | ⟨rfl, h1, h2, rfl⟩ | ⟨rfl, rfl, rfl⟩ | ⟨rfl, rfl, rfl⟩
    · skip
      go_enter Tryd.func14, Tryd.ntmps14
      go_wp2_with fail
      refine (actOkI_any _ _ _ _).mono ?_
      rintro e w1 ⟨rfl, hb1⟩
      obtain ⟨hc1, hf1, hz1⟩ := bk hb1
      (try simp at hz1)
      have hy1_0 : w.heap.size < w1.heap.size := by omega
      rw [Hok.out]
      have hx1 := hx.below hb1 hx.lt
      have q0 : w1.cell? ⟨w.heap.size, 0, none⟩ = some (.int .i64 1) := hx1.cell 0
      have q1 := hx1.cell 1
      have q2 := hx1.cell 2
      simp only [List.getElem?_toArray, List.getElem?_cons_succ, List.getElem?_cons_zero] at q1 q2
      have own1 := own_two (E := 3) (enc := eInt) w1 a b rfl rfl
      have B1 := (hA.tr hb1).al (.cells ([a, b].map fun x => Value.int .i64 x).toArray 3)
      go_wp2_with fail
      refine (lineOfI_any wFlip _ [a, b] _ (own1.rd lenInt (by decide)) (by decide) (by simp) (Lib.hid (by simp <;> omega)) (HT.out.below B1)).mono ?_
      rintro e w2 ⟨rfl, hb2⟩
      go_wp2
      refine bodyPost_ret (v := .tuple #[.string (lineB wFlip [a, b]), .bool true]) (by simp [results, Tryd.results14, go_sem]) rfl ⟨rfl, B1.tr hb2⟩
    · skip
      go_enter Tryd.func14, Tryd.ntmps14
      go_wp2_with fail
      refine (actOkI_any _ _ _ _).mono ?_
      rintro e w1 ⟨rfl, hb1⟩
      obtain ⟨hc1, hf1, hz1⟩ := bk hb1
      (try simp at hz1)
      have hy1_0 : w.heap.size < w1.heap.size := by omega
      rw [Hok.out]
      have hx1 := hx.below hb1 hx.lt
      have q0 : w1.cell? ⟨w.heap.size, 0, none⟩ = some (.int .i64 2) := hx1.cell 0
      have q1 := hx1.cell 1
      have q2 := hx1.cell 2
      simp only [List.getElem?_toArray, List.getElem?_cons_succ, List.getElem?_cons_zero] at q1 q2
      have own1 := own_one (E := 3) (enc := eInt) w1 a rfl
      have B1 := (hA.tr hb1).al (.cells ([a].map fun x => Value.int .i64 x).toArray 3)
      go_wp2_with fail
      refine (lineOfI_any wBreak _ [a] _ (own1.rd lenInt (by decide)) (by decide) (by simp) (Lib.hid (by simp <;> omega)) (HT.out.below B1)).mono ?_
      rintro e w2 ⟨rfl, hb2⟩
      go_wp2
      refine bodyPost_ret (v := .tuple #[.string (lineB wBreak [a]), .bool true]) (by simp [results, Tryd.results14, go_sem]) rfl ⟨rfl, B1.tr hb2⟩
    · skip
      go_enter Tryd.func14, Tryd.ntmps14
      go_wp2_with fail
      refine (actOkI_any _ _ _ _).mono ?_
      rintro e w1 ⟨rfl, hb1⟩
      obtain ⟨hc1, hf1, hz1⟩ := bk hb1
      (try simp at hz1)
      have hy1_0 : w.heap.size < w1.heap.size := by omega
      rw [Hok.out]
      have hx1 := hx.below hb1 hx.lt
      have q0 : w1.cell? ⟨w.heap.size, 0, none⟩ = some (.int .i64 3) := hx1.cell 0
      have q1 := hx1.cell 1
      have q2 := hx1.cell 2
      simp only [List.getElem?_toArray, List.getElem?_cons_succ, List.getElem?_cons_zero] at q1 q2
      have own1 := own_one (E := 3) (enc := eInt) w1 a rfl
      have B1 := (hA.tr hb1).al (.cells ([a].map fun x => Value.int .i64 x).toArray 3)
      go_wp2_with fail
      refine (lineOfI_any wBuy _ [a] _ (own1.rd lenInt (by decide)) (by decide) (by simp) (Lib.hid (by simp <;> omega)) (HT.out.below B1)).mono ?_
      rintro e w2 ⟨rfl, hb2⟩
      go_wp2
      refine bodyPost_ret (v := .tuple #[.string (lineB wBuy [a]), .bool true]) (by simp [results, Tryd.results14, go_sem]) rfl ⟨rfl, B1.tr hb2⟩
    · skip
      go_enter Tryd.func14, Tryd.ntmps14
      go_wp2_with fail
      refine (actOkI_any _ _ _ _).mono ?_
      rintro e w1 ⟨rfl, hb1⟩
      obtain ⟨hc1, hf1, hz1⟩ := bk hb1
      (try simp at hz1)
      have hy1_0 : w.heap.size < w1.heap.size := by omega
      rw [Hok.out]
      have hx1 := hx.below hb1 hx.lt
      have q0 := hx1.cell 0
      simp only [List.getElem?_toArray, List.getElem?_cons_succ, List.getElem?_cons_zero] at q0
      go_wp2
      refine bodyPost_ret (v := .tuple #[.string wUndo, .bool true]) (by simp [results, Tryd.results14, go_sem, wUndo]) rfl ⟨rfl, hA.tr hb1⟩
    · skip
      go_enter Tryd.func14, Tryd.ntmps14
      go_wp2_with fail
      refine (actOkI_any _ _ _ _).mono ?_
      rintro e w1 ⟨rfl, hb1⟩
      obtain ⟨hc1, hf1, hz1⟩ := bk hb1
      (try simp at hz1)
      have hy1_0 : w.heap.size < w1.heap.size := by omega
      rw [Hok.out]
      have hx1 := hx.below hb1 hx.lt
      have q0 := hx1.cell 0
      simp only [List.getElem?_toArray, List.getElem?_cons_succ, List.getElem?_cons_zero] at q0
      go_wp2
      refine bodyPost_ret (v := .tuple #[.string wAudit, .bool true]) (by simp [results, Tryd.results14, go_sem, wAudit]) rfl ⟨rfl, hA.tr hb1⟩

theorem lineB_succ {word : ByteArray} {l : List Int} {j : Nat} (h : j < l.length) : lineB word (l.take j) ++ (⟨#[32]⟩ : ByteArray) ++ numB l[j] = lineB word (l.take (j + 1)) := by
  unfold lineB
  rw [List.take_succ_eq_append_getElem h, List.foldl_append]
  rfl
set_option maxHeartbeats 1000000 in
set_option maxRecDepth 100000 in
theorem fmtActS_any (k a b : Int) (w : World) : Calls Tryd.prog 10 #[.agg #[.int .i64 k, .int .i64 a, .int .i64 b]] w (Ret (.tuple #[.string (actText k a b), .bool (actOk k a b)]) w) := by
  have hA := (Below.refl w.heap.size w).al (.cells #[.int .i64 k, .int .i64 a, .int .i64 b] 23)
  rcases hok : actOk k a b with _ | _
  · have e : actText k a b = ByteArray.empty := by unfold actText; rw [hok]; rfl
    rw [e]
    have Hok := Lib.hid hok; clear hok e
    go_enter Tryd.func10, Tryd.ntmps10
    go_wp2_with fail
    refine (actOkS_any _ _ _ _).mono ?_
    rintro e w1 ⟨rfl, hb1⟩
    obtain ⟨hc1, hf1, hz1⟩ := bk hb1
    (try simp at hz1)
    have hy1_0 : w.heap.size < w1.heap.size := by omega
    rw [Hok.out]
    go_wp2
    refine bodyPost_ret (v := .tuple #[.string (⟨#[]⟩ : ByteArray), .bool false]) (by simp [results, Tryd.results10, go_sem]) rfl ⟨rfl, hA.tr hb1⟩
  · have e : actText k a b = actTx k a b := by unfold actText; rw [hok]; rfl
    rw [e]
    have Hok := Lib.hid hok
    have hx := Blk.new_ w 23 #[.int .i64 k, .int .i64 a, .int .i64 b]
    rcases actOk_cases hok with ⟨rfl, h1, h2, h3, h4⟩ | ⟨rfl, h1, h2, rfl⟩ | ⟨rfl, h1, h2, rfl⟩ | ⟨rfl, rfl, rfl⟩ | ⟨rfl, rfl, rfl⟩
    · skip
      go_enter Tryd.func10, Tryd.ntmps10
      go_wp2_with fail
      refine (actOkS_any _ _ _ _).mono ?_
      rintro e w1 ⟨rfl, hb1⟩
      obtain ⟨hc1, hf1, hz1⟩ := bk hb1
      (try simp at hz1)
      have hy1_0 : w.heap.size < w1.heap.size := by omega
      rw [Hok.out]
      have hx1 := hx.below hb1 hx.lt
      have q0 : w1.cell? ⟨w.heap.size, 0, none⟩ = some (.int .i64 1) := hx1.cell 0
      have q1 : w1.cell? ⟨w.heap.size, 1, none⟩ = some (.int .i64 a) := hx1.cell 1
      have q2 : w1.cell? ⟨w.heap.size, 2, none⟩ = some (.int .i64 b) := hx1.cell 2
      have hz1 := hx1.lt
      have B1 := hA.tr hb1
      obtain ⟨xs, hxs⟩ : ∃ xs : List Int, xs = [a, b] := ⟨_, rfl⟩
      have hxl : xs.length = 2 := by rw [hxs]; rfl
      have Hp : Hid (∀ x ∈ xs, 0 ≤ x ∧ x ≤ 100) := Lib.hid (by rw [hxs]; simp <;> omega)
      have HE : Hid (lineB wFlip (xs.take 2) = actTx 1 a b) := Lib.hid (by rw [hxs]; rfl)
      have own2 : ∀ W : World, OwnL 3 1 eInt W.heap.size (W.alloc (.cells #[.int .i64 a, .int .i64 b] 3)) (.slice (some ⟨W.heap.size, 0, none⟩) 2 2) xs := fun W => by rw [hxs]; exact own_two W _ _ rfl rfl
      have own3 : ∀ o1 o2 : Obj, OwnL 3 1 eInt w.heap.size (((w1.alloc o1).alloc o2).alloc (.cells #[.int .i64 a, .int .i64 b] 3)) (.slice (some ⟨w1.heap.size + 1 + 1, 0, none⟩) 2 2) xs := fun o1 o2 => by
        have h := (own2 ((w1.alloc o1).alloc o2)).mono (B' := w.heap.size) (by simp; omega)
        simpa using h
      have Hxs := Lib.hid hxs; clear hxs own2
      go_wp2
      go_loopw [4, 7] (fun s4 s7 wr => ∃ j : Nat, j ≤ 2 ∧ s7 = .int .i64 j ∧ s4 = .string (lineB wFlip (xs.take j)) ∧ OwnL 3 1 eInt w.heap.size wr (.slice (some ⟨w1.heap.size + 1 + 1, 0, none⟩) 2 2) xs ∧ Below w.heap.size w wr) (fun _ i _ => 2 - (intOf i).toNat)
      case atStart => exact ⟨0, Nat.zero_le _, rfl, rfl, own3 _ _, ((B1.al _).al _).al _⟩
      case round =>
        obtain ⟨j, hj, rfl, rfl, hown, hbel⟩ := hrel
        clear own3
        by_cases hlt : j < 2
        · have hlt' : (j : Int) < 2 := by omega
          obtain ⟨_, hgB, hgl⟩ := hown.at_
          have hjl : j < xs.length := by omega
          have k1 := hown.slot lenInt (by decide) hjl 0 (.int .i64 xs[j]) rfl
          simp only [Nat.mul_one, Nat.add_zero] at k1
          have hp := Hp.out xs[j] (List.getElem_mem hjl)
          have hs1 := lineB_size (xs.take j) wFlip (fun y hy => ⟨(Hp.out y (List.mem_of_mem_take hy)).1, by have := (Hp.out y (List.mem_of_mem_take hy)).2; omega⟩)
          have hst := lineB_succ (word := wFlip) hjl
          rw [List.length_take] at hs1
          obtain ⟨x, hx⟩ : ∃ x, x = xs[j] := ⟨_, rfl⟩
          rw [← hx] at k1 hp hst
          obtain ⟨S, hS⟩ : ∃ S, S = lineB wFlip (xs.take j) := ⟨_, rfl⟩
          rw [← hS] at hs1 hst ⊢
          have hw0 : (wFlip).size ≤ 5 := by decide
          have hSz : S.size ≤ 60 := by omega
          have hnz := numB_size hp.1 (show x ≤ 9223372036854775807 by omega)
          have hS1 : (S ++ (⟨#[32]⟩ : ByteArray)).size = S.size + 1 := by rw [ByteArray.size_append]; rfl
          have HH := Lib.hid hp; have HX := Lib.hid hx; have HSt := Lib.hid hst; have HS := Lib.hid hS; clear hp hst hS hx hs1
          go_wp2_with fail
          refine (fmtS_any x _ HH.out.1 (by have := HH.out.2; omega)).mono ?_
          rintro e w2 ⟨rfl, hb2⟩
          go_wp2
          go_roundw
          case rel => exact ⟨j + 1, by omega, by go_num, by rw [← HSt.out], hown.below hb2, hbel.tr hb2⟩
          case measure => simp [intOf]; omega
        · obtain rfl : j = 2 := by omega
          go_wp2
          refine bodyPost_ret (v := .tuple #[.string (lineB wFlip (xs.take 2)), .bool true]) (by simp [results, Tryd.results10, go_sem]) rfl ⟨by rw [HE.out], hbel⟩
    · skip
      go_enter Tryd.func10, Tryd.ntmps10
      go_wp2_with fail
      refine (actOkS_any _ _ _ _).mono ?_
      rintro e w1 ⟨rfl, hb1⟩
      obtain ⟨hc1, hf1, hz1⟩ := bk hb1
      (try simp at hz1)
      have hy1_0 : w.heap.size < w1.heap.size := by omega
      rw [Hok.out]
      have hx1 := hx.below hb1 hx.lt
      have q0 : w1.cell? ⟨w.heap.size, 0, none⟩ = some (.int .i64 2) := hx1.cell 0
      have q1 : w1.cell? ⟨w.heap.size, 1, none⟩ = some (.int .i64 a) := hx1.cell 1
      have q2 : w1.cell? ⟨w.heap.size, 2, none⟩ = some (.int .i64 0) := hx1.cell 2
      have hz1 := hx1.lt
      have B1 := hA.tr hb1
      obtain ⟨xs, hxs⟩ : ∃ xs : List Int, xs = [a, 0] := ⟨_, rfl⟩
      have hxl : xs.length = 2 := by rw [hxs]; rfl
      have Hp : Hid (∀ x ∈ xs, 0 ≤ x ∧ x ≤ 100) := Lib.hid (by rw [hxs]; simp <;> omega)
      have HE : Hid (lineB wBreak (xs.take 1) = actTx 2 a 0) := Lib.hid (by rw [hxs]; rfl)
      have own2 : ∀ W : World, OwnL 3 1 eInt W.heap.size (W.alloc (.cells #[.int .i64 a, .int .i64 0] 3)) (.slice (some ⟨W.heap.size, 0, none⟩) 2 2) xs := fun W => by rw [hxs]; exact own_two W _ _ rfl rfl
      have own3 : ∀ o1 o2 : Obj, OwnL 3 1 eInt w.heap.size (((w1.alloc o1).alloc o2).alloc (.cells #[.int .i64 a, .int .i64 0] 3)) (.slice (some ⟨w1.heap.size + 1 + 1, 0, none⟩) 2 2) xs := fun o1 o2 => by
        have h := (own2 ((w1.alloc o1).alloc o2)).mono (B' := w.heap.size) (by simp; omega)
        simpa using h
      have Hxs := Lib.hid hxs; clear hxs own2
      go_wp2
      go_loopw [4, 7] (fun s4 s7 wr => ∃ j : Nat, j ≤ 1 ∧ s7 = .int .i64 j ∧ s4 = .string (lineB wBreak (xs.take j)) ∧ OwnL 3 1 eInt w.heap.size wr (.slice (some ⟨w1.heap.size + 1 + 1, 0, none⟩) 2 2) xs ∧ Below w.heap.size w wr) (fun _ i _ => 1 - (intOf i).toNat)
      case atStart => exact ⟨0, Nat.zero_le _, rfl, rfl, own3 _ _, ((B1.al _).al _).al _⟩
      case round =>
        obtain ⟨j, hj, rfl, rfl, hown, hbel⟩ := hrel
        clear own3
        by_cases hlt : j < 1
        · have hlt' : (j : Int) < 1 := by omega
          obtain ⟨_, hgB, hgl⟩ := hown.at_
          have hjl : j < xs.length := by omega
          have k1 := hown.slot lenInt (by decide) hjl 0 (.int .i64 xs[j]) rfl
          simp only [Nat.mul_one, Nat.add_zero] at k1
          have hp := Hp.out xs[j] (List.getElem_mem hjl)
          have hs1 := lineB_size (xs.take j) wBreak (fun y hy => ⟨(Hp.out y (List.mem_of_mem_take hy)).1, by have := (Hp.out y (List.mem_of_mem_take hy)).2; omega⟩)
          have hst := lineB_succ (word := wBreak) hjl
          rw [List.length_take] at hs1
          obtain ⟨x, hx⟩ : ∃ x, x = xs[j] := ⟨_, rfl⟩
          rw [← hx] at k1 hp hst
          obtain ⟨S, hS⟩ : ∃ S, S = lineB wBreak (xs.take j) := ⟨_, rfl⟩
          rw [← hS] at hs1 hst ⊢
          have hw0 : (wBreak).size ≤ 5 := by decide
          have hSz : S.size ≤ 60 := by omega
          have hnz := numB_size hp.1 (show x ≤ 9223372036854775807 by omega)
          have hS1 : (S ++ (⟨#[32]⟩ : ByteArray)).size = S.size + 1 := by rw [ByteArray.size_append]; rfl
          have HH := Lib.hid hp; have HX := Lib.hid hx; have HSt := Lib.hid hst; have HS := Lib.hid hS; clear hp hst hS hx hs1
          go_wp2_with fail
          refine (fmtS_any x _ HH.out.1 (by have := HH.out.2; omega)).mono ?_
          rintro e w2 ⟨rfl, hb2⟩
          go_wp2
          go_roundw
          case rel => exact ⟨j + 1, by omega, by go_num, by rw [← HSt.out], hown.below hb2, hbel.tr hb2⟩
          case measure => simp [intOf]; omega
        · obtain rfl : j = 1 := by omega
          go_wp2
          refine bodyPost_ret (v := .tuple #[.string (lineB wBreak (xs.take 1)), .bool true]) (by simp [results, Tryd.results10, go_sem]) rfl ⟨by rw [HE.out], hbel⟩
    · skip
      go_enter Tryd.func10, Tryd.ntmps10
      go_wp2_with fail
      refine (actOkS_any _ _ _ _).mono ?_
      rintro e w1 ⟨rfl, hb1⟩
      obtain ⟨hc1, hf1, hz1⟩ := bk hb1
      (try simp at hz1)
      have hy1_0 : w.heap.size < w1.heap.size := by omega
      rw [Hok.out]
      have hx1 := hx.below hb1 hx.lt
      have q0 : w1.cell? ⟨w.heap.size, 0, none⟩ = some (.int .i64 3) := hx1.cell 0
      have q1 : w1.cell? ⟨w.heap.size, 1, none⟩ = some (.int .i64 a) := hx1.cell 1
      have q2 : w1.cell? ⟨w.heap.size, 2, none⟩ = some (.int .i64 0) := hx1.cell 2
      have hz1 := hx1.lt
      have B1 := hA.tr hb1
      obtain ⟨xs, hxs⟩ : ∃ xs : List Int, xs = [a, 0] := ⟨_, rfl⟩
      have hxl : xs.length = 2 := by rw [hxs]; rfl
      have Hp : Hid (∀ x ∈ xs, 0 ≤ x ∧ x ≤ 100) := Lib.hid (by rw [hxs]; simp <;> omega)
      have HE : Hid (lineB wBuy (xs.take 1) = actTx 3 a 0) := Lib.hid (by rw [hxs]; rfl)
      have own2 : ∀ W : World, OwnL 3 1 eInt W.heap.size (W.alloc (.cells #[.int .i64 a, .int .i64 0] 3)) (.slice (some ⟨W.heap.size, 0, none⟩) 2 2) xs := fun W => by rw [hxs]; exact own_two W _ _ rfl rfl
      have own3 : ∀ o1 o2 : Obj, OwnL 3 1 eInt w.heap.size (((w1.alloc o1).alloc o2).alloc (.cells #[.int .i64 a, .int .i64 0] 3)) (.slice (some ⟨w1.heap.size + 1 + 1, 0, none⟩) 2 2) xs := fun o1 o2 => by
        have h := (own2 ((w1.alloc o1).alloc o2)).mono (B' := w.heap.size) (by simp; omega)
        simpa using h
      have Hxs := Lib.hid hxs; clear hxs own2
      go_wp2
      go_loopw [4, 7] (fun s4 s7 wr => ∃ j : Nat, j ≤ 1 ∧ s7 = .int .i64 j ∧ s4 = .string (lineB wBuy (xs.take j)) ∧ OwnL 3 1 eInt w.heap.size wr (.slice (some ⟨w1.heap.size + 1 + 1, 0, none⟩) 2 2) xs ∧ Below w.heap.size w wr) (fun _ i _ => 1 - (intOf i).toNat)
      case atStart => exact ⟨0, Nat.zero_le _, rfl, rfl, own3 _ _, ((B1.al _).al _).al _⟩
      case round =>
        obtain ⟨j, hj, rfl, rfl, hown, hbel⟩ := hrel
        clear own3
        by_cases hlt : j < 1
        · have hlt' : (j : Int) < 1 := by omega
          obtain ⟨_, hgB, hgl⟩ := hown.at_
          have hjl : j < xs.length := by omega
          have k1 := hown.slot lenInt (by decide) hjl 0 (.int .i64 xs[j]) rfl
          simp only [Nat.mul_one, Nat.add_zero] at k1
          have hp := Hp.out xs[j] (List.getElem_mem hjl)
          have hs1 := lineB_size (xs.take j) wBuy (fun y hy => ⟨(Hp.out y (List.mem_of_mem_take hy)).1, by have := (Hp.out y (List.mem_of_mem_take hy)).2; omega⟩)
          have hst := lineB_succ (word := wBuy) hjl
          rw [List.length_take] at hs1
          obtain ⟨x, hx⟩ : ∃ x, x = xs[j] := ⟨_, rfl⟩
          rw [← hx] at k1 hp hst
          obtain ⟨S, hS⟩ : ∃ S, S = lineB wBuy (xs.take j) := ⟨_, rfl⟩
          rw [← hS] at hs1 hst ⊢
          have hw0 : (wBuy).size ≤ 5 := by decide
          have hSz : S.size ≤ 60 := by omega
          have hnz := numB_size hp.1 (show x ≤ 9223372036854775807 by omega)
          have hS1 : (S ++ (⟨#[32]⟩ : ByteArray)).size = S.size + 1 := by rw [ByteArray.size_append]; rfl
          have HH := Lib.hid hp; have HX := Lib.hid hx; have HSt := Lib.hid hst; have HS := Lib.hid hS; clear hp hst hS hx hs1
          go_wp2_with fail
          refine (fmtS_any x _ HH.out.1 (by have := HH.out.2; omega)).mono ?_
          rintro e w2 ⟨rfl, hb2⟩
          go_wp2
          go_roundw
          case rel => exact ⟨j + 1, by omega, by go_num, by rw [← HSt.out], hown.below hb2, hbel.tr hb2⟩
          case measure => simp [intOf]; omega
        · obtain rfl : j = 1 := by omega
          go_wp2
          refine bodyPost_ret (v := .tuple #[.string (lineB wBuy (xs.take 1)), .bool true]) (by simp [results, Tryd.results10, go_sem]) rfl ⟨by rw [HE.out], hbel⟩
    · skip
      go_enter Tryd.func10, Tryd.ntmps10
      go_wp2_with fail
      refine (actOkS_any _ _ _ _).mono ?_
      rintro e w1 ⟨rfl, hb1⟩
      obtain ⟨hc1, hf1, hz1⟩ := bk hb1
      (try simp at hz1)
      have hy1_0 : w.heap.size < w1.heap.size := by omega
      rw [Hok.out]
      have hx1 := hx.below hb1 hx.lt
      have q0 : w1.cell? ⟨w.heap.size, 0, none⟩ = some (.int .i64 4) := hx1.cell 0
      have q1 : w1.cell? ⟨w.heap.size, 1, none⟩ = some (.int .i64 0) := hx1.cell 1
      have q2 : w1.cell? ⟨w.heap.size, 2, none⟩ = some (.int .i64 0) := hx1.cell 2
      have hz1 := hx1.lt
      have B1 := hA.tr hb1
      obtain ⟨xs, hxs⟩ : ∃ xs : List Int, xs = [0, 0] := ⟨_, rfl⟩
      have hxl : xs.length = 2 := by rw [hxs]; rfl
      have Hp : Hid (∀ x ∈ xs, 0 ≤ x ∧ x ≤ 100) := Lib.hid (by rw [hxs]; simp <;> omega)
      have HE : Hid (lineB wUndo (xs.take 0) = actTx 4 0 0) := Lib.hid (by rw [hxs]; rfl)
      have own2 : ∀ W : World, OwnL 3 1 eInt W.heap.size (W.alloc (.cells #[.int .i64 0, .int .i64 0] 3)) (.slice (some ⟨W.heap.size, 0, none⟩) 2 2) xs := fun W => by rw [hxs]; exact own_two W _ _ rfl rfl
      have own3 : ∀ o1 o2 : Obj, OwnL 3 1 eInt w.heap.size (((w1.alloc o1).alloc o2).alloc (.cells #[.int .i64 0, .int .i64 0] 3)) (.slice (some ⟨w1.heap.size + 1 + 1, 0, none⟩) 2 2) xs := fun o1 o2 => by
        have h := (own2 ((w1.alloc o1).alloc o2)).mono (B' := w.heap.size) (by simp; omega)
        simpa using h
      have Hxs := Lib.hid hxs; clear hxs own2
      go_wp2
      go_loopw [4, 7] (fun s4 s7 wr => ∃ j : Nat, j ≤ 0 ∧ s7 = .int .i64 j ∧ s4 = .string (lineB wUndo (xs.take j)) ∧ OwnL 3 1 eInt w.heap.size wr (.slice (some ⟨w1.heap.size + 1 + 1, 0, none⟩) 2 2) xs ∧ Below w.heap.size w wr) (fun _ i _ => 0 - (intOf i).toNat)
      case atStart => exact ⟨0, Nat.zero_le _, rfl, rfl, own3 _ _, ((B1.al _).al _).al _⟩
      case round =>
        obtain ⟨j, hj, rfl, rfl, hown, hbel⟩ := hrel
        clear own3
        obtain rfl : j = 0 := by omega
        go_wp2
        refine bodyPost_ret (v := .tuple #[.string (lineB wUndo (xs.take 0)), .bool true]) (by simp [results, Tryd.results10, go_sem]) rfl ⟨by rw [HE.out], hbel⟩
    · skip
      go_enter Tryd.func10, Tryd.ntmps10
      go_wp2_with fail
      refine (actOkS_any _ _ _ _).mono ?_
      rintro e w1 ⟨rfl, hb1⟩
      obtain ⟨hc1, hf1, hz1⟩ := bk hb1
      (try simp at hz1)
      have hy1_0 : w.heap.size < w1.heap.size := by omega
      rw [Hok.out]
      have hx1 := hx.below hb1 hx.lt
      have q0 : w1.cell? ⟨w.heap.size, 0, none⟩ = some (.int .i64 5) := hx1.cell 0
      have q1 : w1.cell? ⟨w.heap.size, 1, none⟩ = some (.int .i64 0) := hx1.cell 1
      have q2 : w1.cell? ⟨w.heap.size, 2, none⟩ = some (.int .i64 0) := hx1.cell 2
      have hz1 := hx1.lt
      have B1 := hA.tr hb1
      obtain ⟨xs, hxs⟩ : ∃ xs : List Int, xs = [0, 0] := ⟨_, rfl⟩
      have hxl : xs.length = 2 := by rw [hxs]; rfl
      have Hp : Hid (∀ x ∈ xs, 0 ≤ x ∧ x ≤ 100) := Lib.hid (by rw [hxs]; simp <;> omega)
      have HE : Hid (lineB wAudit (xs.take 0) = actTx 5 0 0) := Lib.hid (by rw [hxs]; rfl)
      have own2 : ∀ W : World, OwnL 3 1 eInt W.heap.size (W.alloc (.cells #[.int .i64 0, .int .i64 0] 3)) (.slice (some ⟨W.heap.size, 0, none⟩) 2 2) xs := fun W => by rw [hxs]; exact own_two W _ _ rfl rfl
      have own3 : ∀ o1 o2 : Obj, OwnL 3 1 eInt w.heap.size (((w1.alloc o1).alloc o2).alloc (.cells #[.int .i64 0, .int .i64 0] 3)) (.slice (some ⟨w1.heap.size + 1 + 1, 0, none⟩) 2 2) xs := fun o1 o2 => by
        have h := (own2 ((w1.alloc o1).alloc o2)).mono (B' := w.heap.size) (by simp; omega)
        simpa using h
      have Hxs := Lib.hid hxs; clear hxs own2
      go_wp2
      go_loopw [4, 7] (fun s4 s7 wr => ∃ j : Nat, j ≤ 0 ∧ s7 = .int .i64 j ∧ s4 = .string (lineB wAudit (xs.take j)) ∧ OwnL 3 1 eInt w.heap.size wr (.slice (some ⟨w1.heap.size + 1 + 1, 0, none⟩) 2 2) xs ∧ Below w.heap.size w wr) (fun _ i _ => 0 - (intOf i).toNat)
      case atStart => exact ⟨0, Nat.zero_le _, rfl, rfl, own3 _ _, ((B1.al _).al _).al _⟩
      case round =>
        obtain ⟨j, hj, rfl, rfl, hown, hbel⟩ := hrel
        clear own3
        obtain rfl : j = 0 := by omega
        go_wp2
        refine bodyPost_ret (v := .tuple #[.string (lineB wAudit (xs.take 0)), .bool true]) (by simp [results, Tryd.results10, go_sem]) rfl ⟨by rw [HE.out], hbel⟩

end Go.Proofs.YtklgbjgjojelbaaDoor
