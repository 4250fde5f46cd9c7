/- FormatAct of both sides: the walks, and the law's. Conditions: the library's table of powers, as its text lays it. -/
import Derived.Test.YtfdbcihcdjjdhaaGreatDoorZK1
import Derived.Test.YtfdbcihcdjjdhaaGreatDoorZK2
import Derived.Test.YtfdbcihcdjjdhaaGreatDoorZFmtW
namespace Go.Proofs.YtfdbcihcdjjdhaaGreatDoor
open Go.ChangeShapes Go.WideShapes Go.ChangeAt Go.RowKit
set_option linter.unusedVariables false
set_option linter.unusedSimpArgs false
end Go.Proofs.YtfdbcihcdjjdhaaGreatDoor
