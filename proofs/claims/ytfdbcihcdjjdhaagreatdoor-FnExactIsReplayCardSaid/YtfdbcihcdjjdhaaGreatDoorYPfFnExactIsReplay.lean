/- FnExactIsReplay: for every input that the row speaks of the law returns true, and its arguments read as before. What the library's tables hold when the call begins is tied to the program's own text. -/
import Derived.Test.YtfdbcihcdjjdhaaGreatDoorYK1
import Derived.Test.YtfdbcihcdjjdhaaGreatDoorYFnExactIsReplayW
import Derived.Test.YtfdbcihcdjjdhaaGreatDoorTie
import Derived.Test.YtfdbcihcdjjdhaaGreatDoorCards
import Derived.LaidMore
import Derived.Stop.Joined
import Derived.Stop.LaidErr
import Derived.Lib.LaidTab
import Derived.MakeChecks
namespace Go.Proofs.YtfdbcihcdjjdhaaGreatDoor
open Go.ChangeShapes Go.WideShapes Go.ChangeAt Go.RowKit
set_option linter.unusedVariables false
set_option maxHeartbeats 4000000
set_option maxRecDepth 100000
theorem FnExactIsReplay_tab {W:World} (h:laidMetH Tryz.prog Rows.fnExactIsReplayRow.laid W):Tab W:=by
 rw[MakeChecks.laidMetH_plain _ _ _ (by kernel_rfl)]at h;exact Lib.tabIs_of_head (g:=0) (t:=269) (e:=153) (n:=20) (by kernel_rfl) (by kernel_rfl) Tryz.underlying269 Tryz.underlying153 (by kernel_rfl) (by kernel_rfl) (show laidMet Tryz.prog ((_,Lib.tabData .u64 Lib.pow10Tab)::_) W from h.tail.tail)
theorem FnExactIsReplay_door (os : Os) (args : Array Value) : laidMetH Tryz.prog Rows.fnExactIsReplayRow.laid ((World.doorLaid Tryz.prog 400 os).forCall (fun _ _ => 0) ⟨#[], args, []⟩).memory :=
 laidMetH_of_parts3 (fuel:=8) (laidMet_of_run' 8 (by kernel_rfl) (by kernel_rfl)) (by kernel_rfl) (by kernel_rfl)
theorem FnExactIsReplay_lifted (os:Os) (started:os.Started) (H:Type) (enc:TypeId×Value→H):
 ReturnsInHanded {} Tryz.checked os 6 .any (fun w args => (Rows.fnExactIsReplaySpec.pre enc Tryz.prog Tryz.f6 [] false w args ∧ laidMetH Tryz.prog Rows.fnExactIsReplayRow.laid w) ∧ sizedMet enc Tryz.prog Tryz.f6 (OpenSpec.ofChange Rows.fnExactIsReplaySpec) false w args)
   (Rows.fnExactIsReplaySpec.post enc Tryz.prog Tryz.f6 false true false false):=by
 refine returnsInHanded_of_change_and (C := Tryz.checked) (X := fun w _ => laidMetH Tryz.prog Rows.fnExactIsReplayRow.laid w) (fun _ _ _ hh h => h.of_heap hh) own started (by kernel_rfl) Tryz.func6
   (ChangeSpec.witness_shaped (enc:=enc) (C:=Tryz.checked) (os:=os) (X:=fun w _=>laidMetH Tryz.prog Rows.fnExactIsReplayRow.laid w) false (World.doorLaid Tryz.prog 400 os) #[.agg #[.slice none 0 0,.slice none 0 0,.slice none 0 0,.slice none 0 0,.int .i64 0,.int .i64 0,.int .i64 0],.slice none 0 0,.slice none 0 0] 8 rfl (World.shaped_of_RefB (by kernel_rfl) (by kernel_rfl)) (by kernel_rfl) (by kernel_rfl) (by kernel_rfl) (FnExactIsReplay_door os _)) ?_
 intro W base args ds gs before hval0 hW _ _ hL _;have ht:=FnExactIsReplay_tab hL;have hval:∀(j:Nat) t v,Tryz.f6.params[j]? =some t→args[j]? =some v→Value.okWide Tryz.prog W .any base t v:=hval0;have hW':=hW;obtain⟨p,q,hA0,hV,rfl,hfz,hnd⟩:=hW;have hA:DataW.TrodAll enc Tryz.prog W 0 (fun _=>true) true Tryz.f6.params.toList args.toList ds p:=hA0;rw[Tryz.params6]at hA hval;obtain⟨v0,vs0,d0,ds0,p0,q0,hargs,rfl,rfl,h0,r0⟩:=trodAll_cons hA;obtain⟨v1,vs1,d1,ds1,p1,q1,rfl,rfl,rfl,h1,r1⟩:=trodAll_cons r0;obtain⟨v2,vs2,d2,ds2,p2,q2,rfl,rfl,rfl,h2,r2⟩:=trodAll_cons r1;obtain⟨rfl,rfl,rfl⟩:=trodAll_nil r2;obtain rfl:args= #[v0,v1,v2]:=by cases args;simp_all
 obtain⟨rfl,rfl⟩:=trodVars_none hV;have k0:=h0;have lt0:∀x∈p0,x.block<W.heap.size:=by obtain⟨m,hm⟩:=k0;exact DataW.trod_lt m _ _ _ hm
 obtain⟨c0,l0,rfl,b0,ok0⟩:=open_ag o_workshop (okWide_struct Tryz.underlying30 (hval 0 30 v0 rfl rfl)) h0;have k1:=h1;have lt1:∀x∈p1,x.block<W.heap.size:=by obtain⟨m,hm⟩:=k1;exact DataW.trod_lt m _ _ _ hm
 obtain⟨l1,b1,ok1⟩:=open_sl o_acts (okWide_slice Tryz.underlying51 (hval 1 51 v1 rfl rfl)) h1;have k2:=h2;have lt2:∀x∈p2,x.block<W.heap.size:=by obtain⟨m,hm⟩:=k2;exact DataW.trod_lt m _ _ _ hm
 obtain⟨l2,b2,ok2⟩:=open_sl o_ints (okWide_slice Tryz.underlying22 (hval 2 22 v2 rfl rfl)) h2;clear hA0 hval0;refine(FnExactIsReplay_walk W ht c0 l0 b0 ok0 v1 l1 b1 ok1 v2 l2 b2 ok2).mono fun e W' hh=> ?_
 obtain⟨he,bel⟩:=hh;subst he;exact⟨_,rfl,_,_,_,[],_,[],hW',trodAll_mk1 (shut_bool Tryz.underlying4 _),(trodAll_cons_mk (Below.trod laidOut (by kernel_rfl) (of_decide_eq_true (by kernel_rfl)) k0 bel lt0) (trodAll_cons_mk (Below.trod laidOut (by kernel_rfl) (of_decide_eq_true (by kernel_rfl)) k1 bel lt1) (trodAll_cons_mk (Below.trod laidOut (by kernel_rfl) (of_decide_eq_true (by kernel_rfl)) k2 bel lt2) trodAll_mk0))),rfl,bel.frame _,fun h=>by cases h⟩
set_option maxHeartbeats 8000000 in
theorem FnExactIsReplay_closed:joinedFacts Tryz.prog 6 Tryz.f6 Rows.fnExactIsReplaySpec Rows.fnExactIsReplayRow=true:=by
 unfold joinedFacts;repeat' (with_reducible refine(Bool.and_eq_true _ _).mpr ⟨?_,?_⟩)
 all_goals as_aux_lemma=>kernel_rfl
set_option maxHeartbeats 8000000 in
theorem FnExactIsReplay_over:Rows.fnExactIsReplayRow.holds Tryz.pinned (OpenSpec.ofChange Rows.fnExactIsReplaySpec):=
 OpenClaim.holds_of_wide 6 Tryz.f6 rfl rfl rfl rfl rfl rfl rfl ⟨rfl, rfl, rfl, rfl, rfl⟩ rfl rfl rfl rfl rfl (by as_aux_lemma => kernel_rfl) Tryz.func6 FnExactIsReplay_closed
   (of_decide_eq_true (by as_aux_lemma=>kernel_rfl)) (by unfold Func.isWrapper;first|(rw[if_pos (by decide+kernel)];kernel_rfl)|(rw[if_neg (by decide+kernel)];exact⟨rfl,rfl⟩))
   (fun os started H enc _=>FnExactIsReplay_lifted os started H enc)
set_option maxHeartbeats 8000000 in
theorem FnExactIsReplay_proved:Rows.FnExactIsReplayCardSaid:=
 Claim7.holds_tied_plain_at .later [] [.data,.data,.data] true Rows.fnExactIsReplayCard.stood.harness true
   FnExactIsReplay_over (fun _ h=>by cases h) (by as_aux_lemma=>kernel_rfl) (fun _ h=>by cases h) fnExactIsReplay_row_tie rfl ⟨rfl,rfl⟩ (by as_aux_lemma=>kernel_rfl) rfl
   (fun f fn hf hfn => by
    obtain rfl:f=6:=Option.some.inj ((show Tryz.prog.funcNamed Rows.fnExactIsReplayRow.func=some 6 by as_aux_lemma=>kernel_rfl).symm.trans hf)|>.symm;obtain rfl:fn=Tryz.f6:=(Option.some.inj (Tryz.func6.symm.trans hfn)).symm
    exact ⟨by as_aux_lemma => kernel_rfl, fun j t ht => by
     rw[Tryz.params6]at ht;have hm:t∈[30,51,22]:=(by simpa using Array.mem_of_getElem? ht);have hall:([30,51,22].all fun u=> !Tryz.prog.wantsStandIn u)=true:=by as_aux_lemma=>kernel_rfl
     exact(show Tryz.prog.wantsStandIn t=false by simpa using List.all_eq_true.1 hall t hm)⟩)
   (by as_aux_lemma=>kernel_rfl)
#print axioms FnExactIsReplay_proved
end Go.Proofs.YtfdbcihcdjjdhaaGreatDoor
