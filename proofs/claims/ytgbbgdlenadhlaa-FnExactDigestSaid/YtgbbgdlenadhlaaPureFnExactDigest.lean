/- The plain law of FnExactDigest: what it computes is always true. -/
import Derived.Test.YtgbbgdlenadhlaaPCx0
import Derived.Test.YtgbbgdlenadhlaaPCx5
import Derived.Test.YtgbbgdlenadhlaaLibHFnExactDigest
import Derived.Test.YtgbbgdlenadhlaaTelC
namespace Go.Proofs.Ytgbbgdlenadhlaa.Pure
open Go.RowKit Go.Proofs.YtgbbgdlenadhlaaW.PrintWords Go.Proofs.YtgbbgdlenadhlaaW.PrintLast Go.Proofs.YtgbbgdlenadhlaaW.PrintMore Go.Proofs.Ytgbbgdlenadhlaa.Base Go.Proofs.Ytgbbgdlenadhlaa.PC
set_option linter.unusedVariables false
theorem FnExactDigest : ∀ (l0 : List Int), (l0.length ≤ maxLen ∧ ∀ x ∈ l0, (Lit.int .u8 x).wf = true) → ∃ k, laws_FnExactDigest.f k l0 = some true := by
  intro l0 hw
  refine Ev.rounds (g := fun k => laws_FnExactDigest.f k l0) ?_
  simp only [laws_FnExactDigest.f]
  by_cases hbig : (l0.length : Int) > 1048576
  · exact evPos hbig (Ev.now _)
  · have ht := toByteS_ev l0 (by omega)
    have hs := sDigest_ev l0 (by omega) (AllB.of_wf hw.2)
    have hi := iDigest_ev l0 (by omega)
    exact evNeg hbig (Ev.bind ht (Ev.bind hs (Ev.bind ht (Ev.bind hi (evPos rfl (Ev.bind ht (Ev.bind (eqByteS_ev l0 l0 (by omega)) (evPos (by simp) (Ev.now _)))))))))
end Go.Proofs.Ytgbbgdlenadhlaa.Pure
