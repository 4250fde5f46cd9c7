/- Small words for the walks of laws: objects made one after the other share no block. Plain lemmas. -/
import Derived.Test.YtfdbcihcdjjdhaaGreatDoorZK8
import Derived.Test.YtfdbcihcdjjdhaaGreatDoorZSteps
import Derived.Test.YtfdbcihcdjjdhaaGreatDoorZK3
import Derived.Deep.DeepCutAuto
namespace Go.Proofs.YtfdbcihcdjjdhaaGreatDoor
open Go.ChangeShapes Go.WideShapes Go.ChangeAt Go.RowKit
set_option linter.unusedVariables false
def RetWk (z:Fl) (s p r:Int) (w:World) (e:Ending) (w':World):Prop:=∃A1 c1 A2 c2 A3 c3 A4 c4,e= .returned (.agg #[.slice A1 z.1.length c1,.slice A2 z.2.1.length c2,.slice A3 z.2.2.1.length c3,.slice A4 z.2.2.2.length c4,.int .i64 s,.int .i64 p,.int .i64 r])∧
  OwnFl w.heap.size w' (.slice A1 z.1.length c1) (.slice A2 z.2.1.length c2) (.slice A3 z.2.2.1.length c3) (.slice A4 z.2.2.2.length c4) z∧Below w.heap.size w w'
end Go.Proofs.YtfdbcihcdjjdhaaGreatDoor
