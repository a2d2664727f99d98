/- What the marks on rows of strings compute. No condition but sizes. -/
import Derived.Test.YtcbpfofkdipjhaaCCPCx0
import Derived.Test.YtcbpfofkdipjhaaCCLibSFnCredited
namespace Go.Proofs.Ytcbpfofkdipjhaa.PC
open Go.RowKit Go.Proofs.YtcbpfofkdipjhaaW.PrintWords Go.Proofs.YtcbpfofkdipjhaaW.PrintLast Go.Proofs.YtcbpfofkdipjhaaW.PrintMore Go.Proofs.Ytcbpfofkdipjhaa.Base
set_option linter.unusedVariables false
end Go.Proofs.Ytcbpfofkdipjhaa.PC
