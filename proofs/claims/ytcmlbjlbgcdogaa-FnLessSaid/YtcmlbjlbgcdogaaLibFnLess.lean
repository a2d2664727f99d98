/- What the printed functions of the byte level compute, each said by a plain Lean function. No condition but sizes. -/
import Derived.Test.YtcmlbjlbgcdogaaPEx0
import Derived.Test.YtcmlbjlbgcdogaaBase
namespace Go.Proofs.Ytcmlbjlbgcdogaa.PE
open Go.RowKit Go.Proofs.YtcmlbjlbgcdogaaW.PrintWords Go.Proofs.YtcmlbjlbgcdogaaW.PrintLast Go.Proofs.YtcmlbjlbgcdogaaW.PrintMore Go.Proofs.Ytcmlbjlbgcdogaa.Base
set_option linter.unusedVariables false
end Go.Proofs.Ytcmlbjlbgcdogaa.PE
