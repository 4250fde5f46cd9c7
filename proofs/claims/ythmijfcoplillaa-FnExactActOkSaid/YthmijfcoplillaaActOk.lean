/- FnExactActOk: for every Act the law returns true, and its argument reads as before. No conditions. -/
import Derived.Test.YthmijfcoplillaaTypes
import Derived.Test.YthmijfcoplillaaBoxes
namespace Go.Proofs.Ythmijfcoplillaa
open Go.ChangeShapes Go.WideShapes Go.ChangeAt Go.RowKit
set_option linter.unusedVariables false

theorem toAct_any (x : Int × Int × Int) (w : World) :
    Calls Try.prog 16 #[.agg #[.int .i64 x.1, .int .i64 x.2.1, .int .i64 x.2.2]] w (Ret (.agg #[.int .i64 x.1, .int .i64 x.2.1, .int .i64 x.2.2]) w) := by
  go_enter Try.func16, Try.ntmps16
  go_wp2
  refine bodyPost_ret (v := .agg #[.int .i64 x.1, .int .i64 x.2.1, .int .i64 x.2.2]) (by simp [results, Try.results16, go_sem]) rfl ⟨rfl, ?_⟩
  exact (((Below.refl _ _).al _).al _).al _

def actOk (k a b : Int) : Bool :=
  if k == 1 then inB a 0 7 && inB b 0 7
  else if k == 2 then inB a 0 31 && b == 0
  else if k == 3 then inB a 1 100 && b == 0
  else (k == 4 || k == 5) && a == 0 && b == 0

theorem actOkI_any (k a b : Int) (w : World) :
    Calls Try.prog 17 #[.agg #[.int .i64 k, .int .i64 a, .int .i64 b]] w (Ret (.bool (actOk k a b)) w) := by
  go_enter Try.func17, Try.ntmps17
  go_wp2_with (go_at_call 72; (with_reducible refine (within_any _ _ _ _).mono ?_); rintro e w' ⟨rfl, rfl⟩)
  all_goals go_ret
  all_goals exact ⟨by simp_all [actOk], (Below.refl _ _).al _⟩

theorem cellOkS_any (a b : Int) (w : World) :
    Calls Try.prog 70 #[.agg #[.int .i64 a, .int .i64 b]] w (Ret (.bool (inB a 0 7 && inB b 0 7)) w) := by
  go_enter Try.func70, Try.ntmps70
  go_wp2_with (go_at_call 71; (with_reducible refine (in_any _ _ _ _).mono ?_); rintro e w' ⟨rfl, rfl⟩)
  all_goals go_ret
  all_goals exact ⟨by simp_all, (Below.refl _ _).al _⟩

theorem actOkS_any (k a b : Int) (w : World) :
    Calls Try.prog 15 #[.agg #[.int .i64 k, .int .i64 a, .int .i64 b]] w (Ret (.bool (actOk k a b)) w) := by
  go_enter Try.func15, Try.ntmps15
  go_wp2_with (first | (go_at_call 71; (with_reducible refine (in_any _ _ _ _).mono ?_); rintro e w' ⟨rfl, rfl⟩) | (go_at_call 70; (with_reducible refine (cellOkS_any _ _ _).mono ?_); rintro e w1 ⟨rfl, hb1⟩; obtain ⟨hc1, hf1, hz1⟩ := bk hb1; try simp at hz1))
  all_goals go_ret
  all_goals exact ⟨by simp_all [actOk], by first | exact (Below.refl _ _).al _ | exact ((Below.refl _ _).al _).tr hb1⟩

theorem FnExactActOk_walk (w : World) (cs : List Value) (x : Int × Int × Int) (h : RTrip w cs x) (ok : I64 x.1 ∧ I64 x.2.1 ∧ I64 x.2.2) :
    Calls Try.prog 3 #[.agg cs.toArray] w (Ret (.bool true) w) := by
  unfold RTrip at h
  subst h
  go_enter Try.func3, Try.ntmps3
  go_wp2_with fail
  refine (toAct_any x _).mono ?_
  rintro e w1 ⟨rfl, hb1⟩; obtain ⟨hc1, hf1, hz1⟩ := bk hb1; simp at hz1; have hy1 : w.heap.size < w1.heap.size := by omega
  go_wp2_with fail
  go_wp2_with (go_at_call 15; (with_reducible refine (actOkS_any _ _ _ _).mono ?_); rintro e w2 ⟨rfl, hb2⟩; obtain ⟨hc2, hf2, hz2⟩ := bk hb2; try simp at hz2; have hy2_0 : w.heap.size < w2.heap.size := by omega)
  refine (toAct_any x _).mono ?_
  rintro e w3 ⟨rfl, hb3⟩; obtain ⟨hc3, hf3, hz3⟩ := bk hb3; have hy1 : w.heap.size < w3.heap.size := by omega
  go_wp2_with (go_at_call 17; (with_reducible refine (actOkI_any _ _ _ _).mono ?_); rintro e w4 ⟨rfl, hb4⟩; obtain ⟨hc4, hf4, hz4⟩ := bk hb4; try simp at hz4; have hy4_0 : w.heap.size < w4.heap.size := by omega)
  go_ret
  exact ⟨rfl, ((((Below.refl _ _).al _).tr hb1).tr hb2 |>.tr hb3).tr hb4⟩
set_option maxRecDepth 100000 in
theorem FnExactActOk_lifted (os : Os) (started : os.Started) (H : Type) (enc : TypeId × Value → H) :
    ReturnsInHanded {} Try.checked os 3 .any (Rows.fnExactActOkSpec.pre6 enc Try.prog Try.f3 Rows.fnExactActOkRow.domain false) (Rows.fnExactActOkSpec.post enc Try.prog Try.f3 false true false false) := by
  refine returnsInHanded_of_change (C := Try.checked) own started (by kernel_rfl) Try.func3
    (ChangeSpec.witness6 (enc := enc) (C := Try.checked) false ⟨#[], #[.agg #[.int .i64 0, .int .i64 0, .int .i64 0]], []⟩ 8 (by kernel_rfl) (by kernel_rfl) (by kernel_rfl) (by kernel_rfl)) ?_
  intro W base args ds gs before hval0 hW hcnd _
  have hval : ∀ (j : Nat) t v, Try.f3.params[j]? = some t → args[j]? = some v → Value.okWide Try.prog W .any base t v := hval0
  have hW' := hW
  obtain ⟨p, q, hA0, hV, rfl, hfz, hnd⟩ := hW
  have hA : DataW.TrodAll enc Try.prog W 0 (fun _ => true) true Try.f3.params.toList args.toList ds p := hA0
  rw [Try.params3] at hA hval
  obtain ⟨v0, vs0, d0, ds0, p0, q0, hargs, rfl, rfl, h0, r0⟩ := trodAll_cons hA
  obtain ⟨rfl, rfl, rfl⟩ := trodAll_nil r0
  obtain rfl : args = #[v0] := by cases args; simp_all
  obtain ⟨rfl, rfl⟩ := trodVars_none hV
  have k0 := h0
  have lt0 : ∀ x ∈ p0, x.block < W.heap.size := by obtain ⟨m, hm⟩ := k0; exact DataW.trod_lt m _ _ _ hm
  obtain ⟨c0, l0, rfl, b0, ok0⟩ := open_ag o_act (okWide_struct Try.underlying23 (hval 0 23 v0 rfl rfl)) h0
  clear hA0 hval0
  refine (FnExactActOk_walk W c0 l0 b0 ok0).mono fun e W' hh => ?_
  obtain ⟨he, bel⟩ := hh
  subst he
  exact ⟨_, rfl, _, _, _, [], _, [], hW', trodAll_mk1 (shut_bool Try.underlying4 _), (trodAll_cons_mk (Below.trod laidOut (by kernel_rfl) (of_decide_eq_true (by kernel_rfl)) k0 bel lt0) trodAll_mk0), rfl, bel.frame _, fun h => by cases h⟩

theorem FnExactActOk_over : Rows.fnExactActOkRow.holds Try.pinned (OpenSpec.ofChange Rows.fnExactActOkSpec) :=
  OpenClaim.holds_of_wide 3 Try.f3 rfl rfl rfl rfl rfl rfl rfl ⟨rfl, rfl, rfl, rfl, rfl⟩ rfl rfl rfl rfl rfl (by kernel_rfl) Try.func3 (by kernel_rfl)
    (of_decide_eq_true (by kernel_rfl)) (by unfold Func.isWrapper; first | (rw [if_pos (by decide +kernel)]; kernel_rfl) | (rw [if_neg (by decide +kernel)]; exact ⟨rfl, rfl⟩))
    (fun os started H enc _ => FnExactActOk_lifted os started H enc)

theorem FnExactActOk_proved : Rows.FnExactActOkSaid := FnExactActOk_over
#print axioms FnExactActOk_proved
end Go.Proofs.Ythmijfcoplillaa
