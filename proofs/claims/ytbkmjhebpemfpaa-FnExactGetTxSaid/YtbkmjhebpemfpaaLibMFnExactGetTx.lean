/- What the marks on rows of strings compute. No condition but sizes. -/
import Derived.Test.YtbkmjhebpemfpaaPEx0
import Derived.Test.YtbkmjhebpemfpaaLibSFnExactGetTx
namespace Go.Proofs.Ytbkmjhebpemfpaa.PE
open Go.RowKit Go.Proofs.YtbkmjhebpemfpaaW.PrintWords Go.Proofs.YtbkmjhebpemfpaaW.PrintLast Go.Proofs.YtbkmjhebpemfpaaW.PrintMore Go.Proofs.Ytbkmjhebpemfpaa.Base
set_option linter.unusedVariables false
end Go.Proofs.Ytbkmjhebpemfpaa.PE
