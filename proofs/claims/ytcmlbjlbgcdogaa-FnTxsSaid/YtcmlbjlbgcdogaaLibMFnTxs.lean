/- What the marks on rows of strings compute. No condition but sizes. -/
import Derived.Test.YtcmlbjlbgcdogaaPKx0
import Derived.Test.YtcmlbjlbgcdogaaLibSFnTxs
namespace Go.Proofs.Ytcmlbjlbgcdogaa.PK
open Go.RowKit Go.Proofs.YtcmlbjlbgcdogaaW.PrintWords Go.Proofs.YtcmlbjlbgcdogaaW.PrintLast Go.Proofs.YtcmlbjlbgcdogaaW.PrintMore Go.Proofs.Ytcmlbjlbgcdogaa.Base
set_option linter.unusedVariables false
end Go.Proofs.Ytcmlbjlbgcdogaa.PK
