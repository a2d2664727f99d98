/- What the marks on rows of strings compute. No condition but sizes. -/
import Derived.Test.YtndkcifblnfaoaaPDx0
import Derived.Test.YtndkcifblnfaoaaLibSFnExactPadded
namespace Go.Proofs.Ytndkcifblnfaoaa.PD
open Go.RowKit Go.Proofs.YtndkcifblnfaoaaW.PrintWords Go.Proofs.YtndkcifblnfaoaaW.PrintLast Go.Proofs.YtndkcifblnfaoaaW.PrintMore Go.Proofs.Ytndkcifblnfaoaa.Base
set_option linter.unusedVariables false
end Go.Proofs.Ytndkcifblnfaoaa.PD
