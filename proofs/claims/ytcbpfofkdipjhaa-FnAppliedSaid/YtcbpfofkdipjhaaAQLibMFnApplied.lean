/- What the marks on rows of strings compute. No condition but sizes. -/
import Derived.Test.YtcbpfofkdipjhaaAQPMx0
import Derived.Test.YtcbpfofkdipjhaaAQLibSFnApplied
namespace Go.Proofs.Ytcbpfofkdipjhaa.PM
open Go.RowKit Go.Proofs.YtcbpfofkdipjhaaW.PrintWords Go.Proofs.YtcbpfofkdipjhaaW.PrintLast Go.Proofs.YtcbpfofkdipjhaaW.PrintMore Go.Proofs.Ytcbpfofkdipjhaa.Base
set_option linter.unusedVariables false
end Go.Proofs.Ytcbpfofkdipjhaa.PM
