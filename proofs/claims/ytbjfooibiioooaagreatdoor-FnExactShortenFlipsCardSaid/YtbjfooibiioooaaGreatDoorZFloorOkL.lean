/- The laws FnExactFloorOk and FnExactWorkshopOk: the walks. No conditions. -/
import Derived.Test.YtbjfooibiioooaaGreatDoorZK8
import Derived.Test.YtbjfooibiioooaaGreatDoorZK7
namespace Go.Proofs.YtbjfooibiioooaaGreatDoor
open Go.ChangeShapes Go.WideShapes Go.ChangeAt Go.RowKit
set_option linter.unusedVariables false
set_option linter.unusedSimpArgs false
end Go.Proofs.YtbjfooibiioooaaGreatDoor
