/- CheapestPrice of the reference, and the law FnExactCheapestPrice. No conditions. -/
import Derived.Test.YtmmeomjclfgljaaK11
import Derived.Test.YtmmeomjclfgljaaK3
import Derived.Test.YtmmeomjclfgljaaWithCell
namespace Go.Proofs.Ytmmeomjclfgljaa
open Go.ChangeShapes Go.WideShapes Go.ChangeAt Go.RowKit
set_option linter.unusedVariables false
set_option linter.unusedSimpArgs false

end Go.Proofs.Ytmmeomjclfgljaa
