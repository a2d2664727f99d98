/- What the reading of a struct tells, type by type. No condition. -/
import Derived.Test.YtcmlbjlbgcdogaaOpen
import Derived.Test.YtcmlbjlbgcdogaaPHx0
import Derived.ProofKit
import Derived.KernelRfl
namespace Go.Proofs.Ytcmlbjlbgcdogaa.PH
open Go.ChangeShapes Go.WideShapes Go.RowKit Go.Proofs.YtcmlbjlbgcdogaaW.PrintWords Go.Proofs.Ytcmlbjlbgcdogaa.Open
set_option linter.unusedVariables false
end Go.Proofs.Ytcmlbjlbgcdogaa.PH
