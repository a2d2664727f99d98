/- What the printed functions of the byte level compute, each said by a plain Lean function. No condition but sizes. -/
import Derived.Test.YtbkmjhebpemfpaaPFx0
import Derived.Test.YtbkmjhebpemfpaaBase
namespace Go.Proofs.Ytbkmjhebpemfpaa.PF
open Go.RowKit Go.Proofs.YtbkmjhebpemfpaaW.PrintWords Go.Proofs.YtbkmjhebpemfpaaW.PrintLast Go.Proofs.YtbkmjhebpemfpaaW.PrintMore Go.Proofs.Ytbkmjhebpemfpaa.Base
set_option linter.unusedVariables false
end Go.Proofs.Ytbkmjhebpemfpaa.PF
