/- A copy of dominoes, by the program: the walk. Conditions: sizes. -/
import Derived.Test.YtfdbcihcdjjdhaaGreatDoorYK2
import Derived.Test.YtfdbcihcdjjdhaaGreatDoorYK1
import Derived.Test.YtfdbcihcdjjdhaaGreatDoorYSteps
namespace Go.Proofs.YtfdbcihcdjjdhaaGreatDoor
open Go.ChangeShapes Go.WideShapes Go.ChangeAt Go.RowKit
set_option linter.unusedVariables false
set_option linter.unusedSimpArgs false
set_option maxHeartbeats 4000000
set_option maxRecDepth 100000
theorem copyDomsI_any (v:Value) (l:List Dm) (w:World) (h:Rd 3 RDom w v l) (hl:Small l.length):Calls Tryz.prog 114 #[v] w (RetOwn 90 3 eDom l w):=by
 obtain⟨A,c,rfl,hc,hm⟩:=h.form;have h':=h.below RE.stays ((Below.refl _ _).al (.cells #[] 90));have hs8:(0+l.length)*24≤140737488355328:=by unfold Small at hl;omega
 have hsm:0+l.length≤maxLen:=by have:=hl.max;omega
 have H8:=Lib.hid hs8;have HM:=Lib.hid hsm;clear hs8 hsm;go_enter Tryz.func114,Tryz.ntmps114
 go_wp2_with (at_builtin;go_must (refine wpList_appAll (enc:=eDom) rowDom lenDom oneDom (B:=w.heap.size) (by simp) (own_empty w) h' H8.out HM.out rfl _ _ rfl rfl rfl ?_);intro v1 w1 own1 hb1 hv1;obtain⟨A1,c1,rfl⟩:=hv1;simp only[List.nil_append,List.length_nil,Nat.zero_add]at own1)
 go_wp2;go_ret;exact⟨A1,c1,rfl,own1,((Below.refl _ _).al _).trans hb1⟩
end Go.Proofs.YtfdbcihcdjjdhaaGreatDoor
