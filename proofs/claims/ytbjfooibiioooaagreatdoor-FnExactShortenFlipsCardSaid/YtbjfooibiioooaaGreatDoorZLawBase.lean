/- Small words for the walks of laws: objects made one after the other share no block. Plain lemmas. -/
import Derived.Test.YtbjfooibiioooaaGreatDoorZK8
import Derived.Test.YtbjfooibiioooaaGreatDoorZSteps
import Derived.Test.YtbjfooibiioooaaGreatDoorZK3
import Derived.Deep.DeepCutAuto
namespace Go.Proofs.YtbjfooibiioooaaGreatDoor
open Go.ChangeShapes Go.WideShapes Go.ChangeAt Go.RowKit
set_option linter.unusedVariables false
end Go.Proofs.YtbjfooibiioooaaGreatDoor
