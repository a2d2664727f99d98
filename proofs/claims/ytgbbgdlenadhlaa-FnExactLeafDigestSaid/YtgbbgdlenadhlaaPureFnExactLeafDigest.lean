/- The plain law of FnExactLeafDigest: what it computes is always true. -/
import Derived.Test.YtgbbgdlenadhlaaPAx0
import Derived.Test.YtgbbgdlenadhlaaPAx4
import Derived.Test.YtgbbgdlenadhlaaLibHFnExactLeafDigest
import Derived.Test.YtgbbgdlenadhlaaTelA
namespace Go.Proofs.Ytgbbgdlenadhlaa.Pure
open Go.RowKit Go.Proofs.YtgbbgdlenadhlaaW.PrintWords Go.Proofs.YtgbbgdlenadhlaaW.PrintLast Go.Proofs.YtgbbgdlenadhlaaW.PrintMore Go.Proofs.Ytgbbgdlenadhlaa.Base Go.Proofs.Ytgbbgdlenadhlaa.PA
set_option linter.unusedVariables false
theorem FnExactLeafDigest : ∀ (a0 : ByteArray), (a0.size ≤ maxLen) → ∃ k, laws_FnExactLeafDigest.f k a0 = some true := by
  intro a0 hw
  refine Ev.rounds (g := fun k => laws_FnExactLeafDigest.f k a0) ?_
  simp only [laws_FnExactLeafDigest.f]
  by_cases hbig : (a0.size : Int) > 1048576
  · exact evPos hbig (Ev.now _)
  · exact evNeg hbig (Ev.bind (sLeaf_ev a0 (by omega)) (Ev.bind (iLeaf_ev a0 (by omega)) (evPos rfl (Ev.now _))))
end Go.Proofs.Ytgbbgdlenadhlaa.Pure
