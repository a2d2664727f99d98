/- What the marks on rows of strings compute. No condition but sizes. -/
import Derived.Test.YtndkcifblnfaoaaPUx0
import Derived.Test.YtndkcifblnfaoaaLibSFnExactUnHex
namespace Go.Proofs.Ytndkcifblnfaoaa.PU
open Go.RowKit Go.Proofs.YtndkcifblnfaoaaW.PrintWords Go.Proofs.YtndkcifblnfaoaaW.PrintLast Go.Proofs.YtndkcifblnfaoaaW.PrintMore Go.Proofs.Ytndkcifblnfaoaa.Base
set_option linter.unusedVariables false
end Go.Proofs.Ytndkcifblnfaoaa.PU
