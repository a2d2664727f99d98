/- What the marks on rows of strings compute. No condition but sizes. -/
import Derived.Test.YtgbbgdlenadhlaaPJx0
import Derived.Test.YtgbbgdlenadhlaaLibSFnExactStateRoot
namespace Go.Proofs.Ytgbbgdlenadhlaa.PJ
open Go.RowKit Go.Proofs.YtgbbgdlenadhlaaW.PrintWords Go.Proofs.YtgbbgdlenadhlaaW.PrintLast Go.Proofs.YtgbbgdlenadhlaaW.PrintMore Go.Proofs.Ytgbbgdlenadhlaa.Base
set_option linter.unusedVariables false
end Go.Proofs.Ytgbbgdlenadhlaa.PJ
