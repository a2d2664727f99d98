/- What the printed functions of the byte level compute, each said by a plain Lean function. No condition but sizes. -/
import Derived.Test.YtcbpfofkdipjhaaPKx0
import Derived.Test.YtcbpfofkdipjhaaBase
namespace Go.Proofs.Ytcbpfofkdipjhaa.PK
open Go.RowKit Go.Proofs.YtcbpfofkdipjhaaW.PrintWords Go.Proofs.YtcbpfofkdipjhaaW.PrintLast Go.Proofs.YtcbpfofkdipjhaaW.PrintMore Go.Proofs.Ytcbpfofkdipjhaa.Base
set_option linter.unusedVariables false
end Go.Proofs.Ytcbpfofkdipjhaa.PK
