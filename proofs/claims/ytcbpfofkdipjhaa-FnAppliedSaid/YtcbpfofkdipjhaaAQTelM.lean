/- What the reading of a struct tells, type by type. No condition. -/
import Derived.Test.YtcbpfofkdipjhaaAQOpen
import Derived.Test.YtcbpfofkdipjhaaAQPMx0
import Derived.ProofKit
import Derived.KernelRfl
namespace Go.Proofs.Ytcbpfofkdipjhaa.PM
open Go.ChangeShapes Go.WideShapes Go.RowKit Go.Proofs.YtcbpfofkdipjhaaW.PrintWords Go.Proofs.Ytcbpfofkdipjhaa.Open
set_option linter.unusedVariables false
end Go.Proofs.Ytcbpfofkdipjhaa.PM
