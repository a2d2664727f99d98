/- The plain law of FnExactNameOk: what it computes is always true. -/
import Derived.Test.YtndkcifblnfaoaaPAx0
import Derived.Test.YtndkcifblnfaoaaPAx1
import Derived.Test.YtndkcifblnfaoaaLibNA
namespace Go.Proofs.Ytndkcifblnfaoaa.Pure
open Go.RowKit Go.Proofs.YtndkcifblnfaoaaW.PrintWords Go.Proofs.YtndkcifblnfaoaaW.PrintLast Go.Proofs.YtndkcifblnfaoaaW.PrintMore Go.Proofs.Ytndkcifblnfaoaa.Base Go.Proofs.Ytndkcifblnfaoaa.PA
set_option linter.unusedVariables false
theorem FnExactNameOk : ∀ (a0 : ByteArray), (a0.size ≤ maxLen) → ∃ k, laws_FnExactNameOk.f k a0 = some true := by
  intro a0 hm
  have hm' : a0.size ≤ 9223372036854775807 := hm
  refine Ev.rounds (g := fun k => laws_FnExactNameOk.f k a0) ?_
  simp only [laws_FnExactNameOk.f]
  by_cases hbig : (a0.size : Int) > 1048576
  · exact evPos hbig (Ev.now _)
  · refine evNeg hbig (Ev.bind (sNameOk_ev a0 hm') (Ev.bind (iNameOk_ev a0 hm') (evNeg (by simp) (Ev.now _))))
end Go.Proofs.Ytndkcifblnfaoaa.Pure
