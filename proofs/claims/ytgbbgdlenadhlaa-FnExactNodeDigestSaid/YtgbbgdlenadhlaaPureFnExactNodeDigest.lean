/- The plain law of FnExactNodeDigest: what it computes is always true. -/
import Derived.Test.YtgbbgdlenadhlaaPBx0
import Derived.Test.YtgbbgdlenadhlaaPBx4
import Derived.Test.YtgbbgdlenadhlaaLibHFnExactNodeDigest
import Derived.Test.YtgbbgdlenadhlaaTelB
namespace Go.Proofs.Ytgbbgdlenadhlaa.Pure
open Go.RowKit Go.Proofs.YtgbbgdlenadhlaaW.PrintWords Go.Proofs.YtgbbgdlenadhlaaW.PrintLast Go.Proofs.YtgbbgdlenadhlaaW.PrintMore Go.Proofs.Ytgbbgdlenadhlaa.Base Go.Proofs.Ytgbbgdlenadhlaa.PB
set_option linter.unusedVariables false
theorem FnExactNodeDigest : ∀ (a0 : ByteArray) (a1 : ByteArray), (a0.size ≤ maxLen) → (a1.size ≤ maxLen) → ∃ k, laws_FnExactNodeDigest.f k a0 a1 = some true := by
  intro a0 a1 hw hw1
  refine Ev.rounds (g := fun k => laws_FnExactNodeDigest.f k a0 a1) ?_
  simp only [laws_FnExactNodeDigest.f]
  by_cases hbig : (a0.size : Int) > 1048576
  · exact evPos hbig (Ev.now _)
  · by_cases hbig1 : (a1.size : Int) > 1048576
    · exact evNeg hbig (evPos hbig1 (Ev.now _))
    · exact evNeg hbig (evNeg hbig1 (Ev.bind (sNode_ev a0 a1 (by omega)) (Ev.bind (iNode_ev a0 a1 (by omega)) (evPos rfl (Ev.now _)))))
end Go.Proofs.Ytgbbgdlenadhlaa.Pure
