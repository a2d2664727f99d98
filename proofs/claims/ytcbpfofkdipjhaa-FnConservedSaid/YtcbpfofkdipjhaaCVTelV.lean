/- What the reading of a struct tells, type by type. No condition. -/
import Derived.Test.YtcbpfofkdipjhaaCVOpen
import Derived.Test.YtcbpfofkdipjhaaCVPVx0
import Derived.ProofKit
import Derived.KernelRfl
namespace Go.Proofs.Ytcbpfofkdipjhaa.PV
open Go.ChangeShapes Go.WideShapes Go.RowKit Go.Proofs.YtcbpfofkdipjhaaW.PrintWords Go.Proofs.Ytcbpfofkdipjhaa.Open
set_option linter.unusedVariables false
end Go.Proofs.Ytcbpfofkdipjhaa.PV
