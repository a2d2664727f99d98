/- What the reading of a struct tells, type by type. No condition. -/
import Derived.Test.YtndkcifblnfaoaaOpen
import Derived.Test.YtndkcifblnfaoaaPDx0
import Derived.ProofKit
import Derived.KernelRfl
namespace Go.Proofs.Ytndkcifblnfaoaa.PD
open Go.ChangeShapes Go.WideShapes Go.RowKit Go.Proofs.YtndkcifblnfaoaaW.PrintWords Go.Proofs.Ytndkcifblnfaoaa.Open
set_option linter.unusedVariables false
end Go.Proofs.Ytndkcifblnfaoaa.PD
