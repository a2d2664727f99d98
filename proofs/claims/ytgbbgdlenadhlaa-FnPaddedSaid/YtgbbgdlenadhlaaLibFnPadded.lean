/- What the printed functions of the byte level compute, each said by a plain Lean function. No condition but sizes. -/
import Derived.Test.YtgbbgdlenadhlaaPDx0
import Derived.Test.YtgbbgdlenadhlaaBase
namespace Go.Proofs.Ytgbbgdlenadhlaa.PD
open Go.RowKit Go.Proofs.YtgbbgdlenadhlaaW.PrintWords Go.Proofs.YtgbbgdlenadhlaaW.PrintLast Go.Proofs.YtgbbgdlenadhlaaW.PrintMore Go.Proofs.Ytgbbgdlenadhlaa.Base
set_option linter.unusedVariables false
end Go.Proofs.Ytgbbgdlenadhlaa.PD
