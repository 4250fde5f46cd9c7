/- The laws FnExactUndoFlip and FnExactUndoAll: the walks. No conditions. What an act leaves: sizes; the same result in slices. Plain lemmas. -/
import Derived.Test.YtfdbcihcdjjdhaaGreatDoorYFlAll
import Derived.Test.YtfdbcihcdjjdhaaGreatDoorYK8
import Derived.Test.YtfdbcihcdjjdhaaGreatDoorYDoActI
import Derived.Test.YtfdbcihcdjjdhaaGreatDoorYDoActS
namespace Go.Proofs.YtfdbcihcdjjdhaaGreatDoor
open Go.ChangeShapes Go.WideShapes Go.ChangeAt Go.RowKit
set_option linter.unusedVariables false
set_option linter.unusedSimpArgs false
set_option maxHeartbeats 4000000
set_option maxRecDepth 100000
theorem undo_small {x z:Fl} {b:Bool} (hs:Small4 x) (h:undoFl x=(z,b)):Small4 z:=by
 rcases b with _|_
 · unfold undoFl at h;split at h
   · cases h
   · injection h with h _;rw[←h];exact hs
 · exact(undo_true hs h).2.2.2
theorem act_small {y:Wk} (a:Ac) (hs:Small4 y.1):Small4 (actW y a).1:=by
 unfold actW;repeat' split
 · exact turn_small _ hs
 · exact brk_small _ hs
 · exact hs
 · exact undo_small (b:=(undoFl y.1).2) hs rfl
 · exact hs
 · exact hs
theorem retI_of {z : Fl} {s p r n : Int} {w w' : World} {e : Ending} (h : RetW (fun v => .tuple #[v, .int .i64 n]) (z, s, p, r) w e w') : RetWkI z s p r n w e w' := by
 obtain⟨u1,u2,u3,u4,h1,h2,h3⟩:=h;obtain⟨A1,c1,rfl,_⟩:=h2.ra.form;obtain⟨A2,c2,rfl,_⟩:=h2.rb.form;obtain⟨A3,c3,rfl,_⟩:=h2.rc.form;obtain⟨A4,c4,rfl,_⟩:=h2.rd.form;exact⟨_,_,_,_,_,_,_,_,h1,h2,h3⟩
end Go.Proofs.YtfdbcihcdjjdhaaGreatDoor
