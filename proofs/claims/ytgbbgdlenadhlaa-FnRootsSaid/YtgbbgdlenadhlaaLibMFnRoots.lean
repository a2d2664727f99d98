/- What the marks on rows of strings compute. No condition but sizes. -/
import Derived.Test.YtgbbgdlenadhlaaPKx0
import Derived.Test.YtgbbgdlenadhlaaLibSFnRoots
namespace Go.Proofs.Ytgbbgdlenadhlaa.PK
open Go.RowKit Go.Proofs.YtgbbgdlenadhlaaW.PrintWords Go.Proofs.YtgbbgdlenadhlaaW.PrintLast Go.Proofs.YtgbbgdlenadhlaaW.PrintMore Go.Proofs.Ytgbbgdlenadhlaa.Base
set_option linter.unusedVariables false
end Go.Proofs.Ytgbbgdlenadhlaa.PK
