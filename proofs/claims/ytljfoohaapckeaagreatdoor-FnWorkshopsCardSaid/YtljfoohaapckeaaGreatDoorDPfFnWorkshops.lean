/- FnWorkshops: for every input that the row speaks of the law returns true, and its arguments read as before. What the library's tables hold when the call begins is tied to the program's own text. -/
import Derived.Test.YtljfoohaapckeaaGreatDoorDK1
import Derived.Test.YtljfoohaapckeaaGreatDoorDFnWorkshops
import Derived.Test.YtljfoohaapckeaaGreatDoorTie
import Derived.Test.YtljfoohaapckeaaGreatDoorCards
import Derived.LaidMore
import Derived.Stop.Joined
import Derived.Stop.LaidErr
import Derived.Lib.LaidTab
import Derived.MakeChecks
open _root_.Go.Proofs.Tryz (prog checked f6 func6 params6)
namespace Go.Proofs.YtljfoohaapckeaaGreatDoor
open Go.ChangeShapes Go.WideShapes Go.ChangeAt Go.RowKit
set_option linter.unusedVariables false
set_option maxHeartbeats 4000000
set_option maxRecDepth 100000
theorem Ag {W:World} (h:laidMetH prog Rows.fnWorkshopsRow.laid W):Tab W:=by
 rw[MakeChecks.laidMetH_plain _ _ _ (by kernel_rfl)]at h;exact Lib.tabIs_of_head (g:=0) (t:=225) (e:=124) (n:=20) (by kernel_rfl) (by kernel_rfl) Tryz.underlying225 Tryz.underlying124 (by kernel_rfl) (by kernel_rfl) (show laidMet prog ((_,Lib.tabData .u64 Lib.pow10Tab)::_) W from h.tail.tail)
theorem xY (os : Os) (args : Array Value) : laidMetH prog Rows.fnWorkshopsRow.laid ((World.doorLaid prog 400 os).forCall (fun _ _ => 0) ⟨#[], args, []⟩).memory :=
 laidMetH_of_parts3 (fuel:=8) (laidMet_of_run' 8 (by kernel_rfl) (by kernel_rfl)) (by kernel_rfl) (by kernel_rfl)
theorem vE (os:Os) (started:os.Started) (H:Type) (enc:TypeId×Value->H):
 ReturnsInHanded {} checked os 6 .any (fun w args => (Rows.fnWorkshopsSpec.pre enc prog f6 [] false w args /\ laidMetH prog Rows.fnWorkshopsRow.laid w) /\ sizedMet enc prog f6 (OpenSpec.ofChange Rows.fnWorkshopsSpec) false w args)
   (Rows.fnWorkshopsSpec.post enc prog f6 false true false false):=by
 refine returnsInHanded_of_change_and (C := checked) (X := fun w _ => laidMetH prog Rows.fnWorkshopsRow.laid w) (fun _ _ _ hh h => h.of_heap hh) own started (by kernel_rfl) func6
   (ChangeSpec.witness_shaped (enc:=enc) (C:=checked) (os:=os) (X:=fun w _=>laidMetH prog Rows.fnWorkshopsRow.laid w) false (World.doorLaid prog 400 os) #[.slice none 0 0] 8 rfl (World.shaped_of_RefB (by kernel_rfl) (by kernel_rfl)) (by kernel_rfl) (by kernel_rfl) (by kernel_rfl) (xY os _)) ?_
 intro W base args ds gs before hval0 hW _ _ hL _;have ht:=Ag hL;have hval:∀(j:Nat) t v,Tryz.f6.params[j]? =some t->args[j]? =some v->Value.okWide prog W .any base t v:=hval0;have hW':=hW;obtain⟨p,q,hA0,hV,rfl,hfz,hnd⟩:=hW;have hA:DataW.TrodAll enc prog W 0 (fun _=>true) true Tryz.f6.params.toList args.toList ds p:=hA0;rw[params6]at hA hval;obtain⟨v0,vs0,d0,ds0,p0,q0,hargs,rfl,rfl,h0,r0⟩:=trodAll_cons hA;obtain⟨rfl,rfl,rfl⟩:=trodAll_nil r0;obtain rfl:args= #[v0]:=by cases args;simp_all
 obtain⟨rfl,rfl⟩:=trodVars_none hV;have k0:=h0;have lt0:∀x∈p0,x.block<W.heap.size:=by obtain⟨m,hm⟩:=k0;exact DataW.trod_lt m _ _ _ hm
 obtain⟨l0,b0,ok0⟩:=Mw Mx (okWide_slice Tryz.underlying22 (hval 0 22 v0 rfl rfl)) h0;clear hA0 hval0;refine(xX W ht v0 l0 b0 ok0).mono fun e W' hh=> ?_
 obtain⟨he,bel⟩:=hh;subst he;exact⟨_,rfl,_,_,_,[],_,[],hW',trodAll_mk1 (shut_bool Tryz.underlying4 _),(trodAll_cons_mk (Below.trod laidOut (by kernel_rfl) (of_decide_eq_true (by kernel_rfl)) k0 bel lt0) trodAll_mk0),rfl,bel.frame _,fun h=>by cases h⟩
set_option maxHeartbeats 8000000 in
theorem vF:joinedFacts prog 6 f6 Rows.fnWorkshopsSpec Rows.fnWorkshopsRow=true:=by
 unfold joinedFacts;repeat' (with_reducible refine(Bool.and_eq_true _ _).mpr ⟨?_,?_⟩)
 all_goals as_aux_lemma=>kernel_rfl
set_option maxHeartbeats 8000000 in
theorem xZ:Rows.fnWorkshopsRow.holds Tryz.pinned (OpenSpec.ofChange Rows.fnWorkshopsSpec):=
 OpenClaim.holds_of_wide 6 f6 rfl rfl rfl rfl rfl rfl rfl ⟨rfl, rfl, rfl, rfl, rfl⟩ rfl rfl rfl rfl rfl (by as_aux_lemma => kernel_rfl) func6 vF
   (of_decide_eq_true (by as_aux_lemma=>kernel_rfl)) (by unfold Func.isWrapper;first|(rw[if_pos (by decide+kernel)];kernel_rfl)|(rw[if_neg (by decide+kernel)];exact⟨rfl,rfl⟩))
   (fun os started H enc _=>vE os started H enc)
set_option maxHeartbeats 8000000 in
theorem FnWorkshops_proved:Rows.FnWorkshopsCardSaid:=
 Claim7.holds_tied_plain_at .later [] [.data,.data,.data] true Rows.fnWorkshopsCard.stood.harness true
   xZ (fun _ h=>by cases h) (by as_aux_lemma=>kernel_rfl) (fun _ h=>by cases h) fnWorkshops_row_tie rfl ⟨rfl,rfl⟩ (by as_aux_lemma=>kernel_rfl) rfl
   (fun f fn hf hfn => by
    obtain rfl:f=6:=Option.some.inj ((show Tryz.prog.funcNamed Rows.fnWorkshopsRow.func=some 6 by as_aux_lemma=>kernel_rfl).symm.trans hf)|>.symm;obtain rfl:fn=f6:=(Option.some.inj (Tryz.func6.symm.trans hfn)).symm
    exact ⟨by as_aux_lemma => kernel_rfl, fun j t ht => by
     rw[params6]at ht;have hm:t∈[22]:=(by simpa using Array.mem_of_getElem? ht);have hall:([22].all fun u=> !Tryz.prog.wantsStandIn u)=true:=by as_aux_lemma=>kernel_rfl
     exact(show Tryz.prog.wantsStandIn t=false by simpa using List.all_eq_true.1 hall t hm)⟩)
   (by as_aux_lemma=>kernel_rfl)
#print axioms FnWorkshops_proved
end Go.Proofs.YtljfoohaapckeaaGreatDoor
