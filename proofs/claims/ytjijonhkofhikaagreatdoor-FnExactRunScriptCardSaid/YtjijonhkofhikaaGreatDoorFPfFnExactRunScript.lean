import Derived.Test.YtjijonhkofhikaaGreatDoorFRunScrL
import Derived.Test.YtjijonhkofhikaaGreatDoorTie
import Derived.Test.YtjijonhkofhikaaGreatDoorCards
import Derived.LaidMore
import Derived.Stop.LaidErr
import Derived.Lay
open _root_.Go.Proofs.Tryz (prog f4 func4 params4)
open _root_.Go.Proofs.Tryz renaming checked->Tm
set_option linter.unusedVariables false
set_option maxHeartbeats 4000000
set_option maxRecDepth 100000
namespace Go.Proofs.YtjijonhkofhikaaGreatDoor
open Go.ChangeShapes Go.WideShapes Go.ChangeAt Go.RowKit
theorem vY {W:World} (h:laidMetH prog Rows.fnExactRunScriptRow.laid W):Tab W:=by
 rw[MakeChecks.laidMetH_plain _ _ _ (by kernel_rfl)]at h;exact Lib.tabIs_of_head (g:=1) (t:=206) (e:=92) (n:=20) (by kernel_rfl) (by kernel_rfl) Tryz.underlying206 Tryz.underlying92 (by kernel_rfl) (by kernel_rfl) (show laidMet prog ((_,Lib.tabData .u64 Lib.pow10Tab)::_) W from h.tail.tail)
theorem vZ {W:World} (h:laidMetH prog Rows.fnExactRunScriptRow.laid W):Syn W:=by
 rw[MakeChecks.laidMetH_plain _ _ _ (by kernel_rfl)]at h;have star: "*" ++ "errors.errorString" = "*errors.errorString" :=(by decide);have row:∀u,Tryz.prog.typeName? 3 u=some "*errors.errorString" ->u=236:=fun u h=>typeName_ptr_named (nm:= "errors.errorString") (by rw[star];kernel_rfl) (by kernel_rfl) (by decide) u (by rw[star];exact h)
 have gE:Tryz.prog.globalNamed "strconv.ErrSyntax" =some 4:=(by kernel_rfl);obtain⟨a0,s0,hv0,-,-,-⟩:=laid_sentinel (show laidMet prog (("strconv.ErrSyntax",.iface "*errors.errorString" (.ptr (.agg [.lit (.string [105,110,118,97,108,105,100,32,115,121,110,116,97,120])])))::_) W from h.tail.tail.tail.tail.tail) gE (by kernel_rfl) Tryz.underlying111 row Tryz.underlying236 Tryz.underlying238 rfl rfl Tryz.underlying9 (by kernel_rfl) (by kernel_rfl);exact⟨_,by have h0:=World.var?_cell gE hv0 0;simpa using h0,Or.inr ⟨_,_,rfl⟩⟩
theorem sM (os:Os) (started:os.Started) (H:Type) (enc:TypeId×Value->H):
 ReturnsInHanded {} Tm os 4 .any (fun w args => (Rows.fnExactRunScriptSpec.pre enc prog f4 [] false w args /\ laidMetH prog Rows.fnExactRunScriptRow.laid w) /\ sizedMet enc prog f4 (OpenSpec.ofChange Rows.fnExactRunScriptSpec) false w args)
   (Rows.fnExactRunScriptSpec.post enc prog f4 false true false false):=by
 refine returnsInHanded_of_calls (C := Tm) own started (by kernel_rfl)
   (ChangeSpec.witness_shaped (enc:=enc) (C:=Tm) (os:=os) (X:=fun w _=>laidMetH prog Rows.fnExactRunScriptRow.laid w) false (World.laidAll prog os Rows.fnExactRunScriptRow.laid) #[.string ByteArray.empty] 8 (World.laidAll_os _ _ _) (World.shaped_of_ZipB (by kernel_rfl) (by kernel_rfl)) (by kernel_rfl) (by kernel_rfl) (by kernel_rfl) (by rw[MakeChecks.laidMetH_plain _ _ _ (by kernel_rfl)];exact laidMet_laidAll _ (by kernel_rfl) (by kernel_rfl))) ?_
 intro w tape i _ hS _ bC a8 _;obtain⟨_,_,_,bD,a7,_,_,_,_,a6⟩:=bC;obtain rfl:bD=f4:=Option.some.inj (a7.symm.trans func4);obtain⟨⟨⟨ds,gs,before,hw,_⟩,hx⟩,_⟩:=a8;have hW:=DataW.Whole.of_heap (w':=w.forCall tape i) (by rfl) hw;have hL:laidMetH prog Rows.fnExactRunScriptRow.laid (w.forCall tape i):=hx.of_heap (by rfl);have hm:OL (w.forCall tape i):=cell_of_shapedOpen_int (zero:= #[.int .i64 0]) (t:=3) hS (of_decide_eq_true (by kernel_rfl)) (by kernel_rfl) rfl (by kernel_rfl) (by kernel_rfl) Tryz.underlying3;refine((?_:Calls prog 4 i.args (w.forCall tape i) fun e W'=>∃v,e= .returned v/\Rows.fnExactRunScriptSpec.post enc prog f4 false true false false (w.forCall tape i) i.args v W')).mono fun e W' h=> ?_
 rotate_left
 . obtain⟨v,rfl,hp⟩:=h;exact ChangeSpec.post_blind hp
 clear hw hx hS a7;generalize w.heap.size=base at a6
 generalize w.forCall tape i=W at*
 generalize i.args=args at*
 have ht:=vY hL;have hs:=vZ hL;have hval:∀(j:Nat) t v,Tryz.f4.params[j]? =some t->args[j]? =some v->Value.okWide prog W .any base t v:=a6;have bE:=hW;obtain⟨p,q,bA,hV,rfl,bJ,bK⟩:=hW;have hA:DataW.TrodAll enc prog W 0 (fun _=>true) true Tryz.f4.params.toList args.toList ds p:=bA;rw[params4]at hA hval;obtain⟨v0,bL,d0,bM,p0,q0,bB,rfl,rfl,h0,r0⟩:=trodAll_cons hA;obtain⟨rfl,rfl,rfl⟩:=trodAll_nil r0;obtain rfl:args= #[v0]:=by cases args;simp_all
 obtain⟨rfl,rfl⟩:=trodVars_none hV;have k0:=h0;have bF:∀x∈p0,x.block<W.heap.size:=by obtain⟨m,hm⟩:=k0;exact DataW.trod_lt m _ _ _ hm
 obtain⟨a0,rfl,rfl,rfl,w0⟩:=Go.ChangeMaps.open_string Tryz.underlying9 (hval 0 9 v0 rfl rfl) h0;clear bA a6;refine(vM W ht hs hm a0 w0).mono fun e W' hh=> ?_
 obtain⟨he,bel⟩:=hh;subst he;exact⟨_,rfl,_,_,_,[],_,[],bE,trodAll_mk1 (shut_bool Tryz.underlying4 _),(trodAll_cons_mk (Below.trod laidOut (by kernel_rfl) (of_decide_eq_true (by kernel_rfl)) k0 bel bF) trodAll_mk0),rfl,bel.frame _,fun h=>by cases h⟩
set_option maxHeartbeats 8000000 in
theorem sN:joinedFacts prog 4 f4 Rows.fnExactRunScriptSpec Rows.fnExactRunScriptRow=true:=by
 unfold joinedFacts;repeat' (with_reducible refine(Bool.and_eq_true _ _).mpr ⟨?_,?_⟩)
 all_goals as_aux_lemma=>kernel_rfl
set_option maxHeartbeats 8000000 in
theorem vN:Rows.fnExactRunScriptRow.holds Tryz.pinned (OpenSpec.ofChange Rows.fnExactRunScriptSpec):=
 OpenClaim.holds_of_wide 4 f4 rfl rfl rfl rfl rfl rfl rfl ⟨rfl, rfl, rfl, rfl, rfl⟩ rfl rfl rfl rfl rfl (by as_aux_lemma => kernel_rfl) func4 sN
   (of_decide_eq_true (by as_aux_lemma=>kernel_rfl)) (by unfold Func.isWrapper;first|(rw[if_pos (by decide+kernel)];kernel_rfl)|(rw[if_neg (by decide+kernel)];exact⟨rfl,rfl⟩))
   (fun os started H enc _=>sM os started H enc)
set_option maxHeartbeats 8000000 in
theorem FnExactRunScript_proved:Rows.FnExactRunScriptCardSaid:=
 Claim7.holds_tied_plain_at .later [] [.data,.data,.data,.data,.sentinel,.sentinel,.pinned] true Rows.fnExactRunScriptCard.stood.harness true
   vN (fun _ h=>by cases h) (by as_aux_lemma=>kernel_rfl) (fun _ h=>by cases h) fnExactRunScript_row_tie rfl ⟨rfl,rfl⟩ (by as_aux_lemma=>kernel_rfl) rfl
   (fun f fn hf hfn => by
    obtain rfl:f=4:=Option.some.inj ((show Tryz.prog.funcNamed Rows.fnExactRunScriptRow.func=some 4 by as_aux_lemma=>kernel_rfl).symm.trans hf)|>.symm;obtain rfl:fn=f4:=(Option.some.inj (Tryz.func4.symm.trans hfn)).symm
    exact ⟨by as_aux_lemma => kernel_rfl, fun j t ht => by
     rw[params4]at ht;have hm:t∈[9]:=(by simpa using Array.mem_of_getElem? ht);have hall:([9].all fun u=> !Tryz.prog.wantsStandIn u)=true:=by as_aux_lemma=>kernel_rfl
     exact(show Tryz.prog.wantsStandIn t=false by simpa using List.all_eq_true.1 hall t hm)⟩)
   (by as_aux_lemma=>kernel_rfl)
#print axioms FnExactRunScript_proved
end Go.Proofs.YtjijonhkofhikaaGreatDoor
