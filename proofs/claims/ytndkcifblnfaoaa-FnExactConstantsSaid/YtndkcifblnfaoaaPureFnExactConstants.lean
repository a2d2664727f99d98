/- The plain law of FnExactConstants: what it computes is always true. -/
import Derived.Test.YtndkcifblnfaoaaPAx0
import Derived.Test.YtndkcifblnfaoaaPAx1
import Derived.Test.YtndkcifblnfaoaaBase
namespace Go.Proofs.Ytndkcifblnfaoaa.Pure
open Go.RowKit Go.Proofs.YtndkcifblnfaoaaW.PrintWords Go.Proofs.YtndkcifblnfaoaaW.PrintLast Go.Proofs.YtndkcifblnfaoaaW.PrintMore Go.Proofs.Ytndkcifblnfaoaa.Base Go.Proofs.Ytndkcifblnfaoaa.PA
set_option linter.unusedVariables false
theorem FnExactConstants : laws_FnExactConstants.f = some true := rfl
end Go.Proofs.Ytndkcifblnfaoaa.Pure
