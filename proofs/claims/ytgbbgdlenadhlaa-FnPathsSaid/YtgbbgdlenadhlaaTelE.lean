/- What the reading of a struct tells, type by type. No condition. -/
import Derived.Test.YtgbbgdlenadhlaaOpen
import Derived.Test.YtgbbgdlenadhlaaPEx0
import Derived.ProofKit
import Derived.KernelRfl
namespace Go.Proofs.Ytgbbgdlenadhlaa.PE
open Go.ChangeShapes Go.WideShapes Go.RowKit Go.Proofs.YtgbbgdlenadhlaaW.PrintWords Go.Proofs.Ytgbbgdlenadhlaa.Open
set_option linter.unusedVariables false
end Go.Proofs.Ytgbbgdlenadhlaa.PE
