/- What the reading of a struct tells, type by type. No condition. -/
import Derived.Test.YtcmlbjlbgcdogaaOpen
import Derived.Test.YtcmlbjlbgcdogaaPEx0
import Derived.ProofKit
import Derived.KernelRfl
namespace Go.Proofs.Ytcmlbjlbgcdogaa.PE
open Go.ChangeShapes Go.WideShapes Go.RowKit Go.Proofs.YtcmlbjlbgcdogaaW.PrintWords Go.Proofs.Ytcmlbjlbgcdogaa.Open
set_option linter.unusedVariables false
end Go.Proofs.Ytcmlbjlbgcdogaa.PE
