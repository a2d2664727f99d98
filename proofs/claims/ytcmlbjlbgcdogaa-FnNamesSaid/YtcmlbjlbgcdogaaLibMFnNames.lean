/- What the marks on rows of strings compute. No condition but sizes. -/
import Derived.Test.YtcmlbjlbgcdogaaPCx0
import Derived.Test.YtcmlbjlbgcdogaaLibSFnNames
namespace Go.Proofs.Ytcmlbjlbgcdogaa.PC
open Go.RowKit Go.Proofs.YtcmlbjlbgcdogaaW.PrintWords Go.Proofs.YtcmlbjlbgcdogaaW.PrintLast Go.Proofs.YtcmlbjlbgcdogaaW.PrintMore Go.Proofs.Ytcmlbjlbgcdogaa.Base
set_option linter.unusedVariables false
end Go.Proofs.Ytcmlbjlbgcdogaa.PC
