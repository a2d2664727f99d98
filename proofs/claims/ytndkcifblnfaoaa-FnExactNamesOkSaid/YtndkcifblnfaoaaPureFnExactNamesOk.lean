/- The plain law of FnExactNamesOk: what it computes is always true. -/
import Derived.Test.YtndkcifblnfaoaaPAx0
import Derived.Test.YtndkcifblnfaoaaPAx8
import Derived.Test.YtndkcifblnfaoaaLibSA
import Derived.Test.YtndkcifblnfaoaaTelA
namespace Go.Proofs.Ytndkcifblnfaoaa.Pure
open Go.RowKit Go.Proofs.YtndkcifblnfaoaaW.PrintWords Go.Proofs.YtndkcifblnfaoaaW.PrintLast Go.Proofs.YtndkcifblnfaoaaW.PrintMore Go.Proofs.Ytndkcifblnfaoaa.Base Go.Proofs.Ytndkcifblnfaoaa.PA
set_option linter.unusedVariables false
theorem FnExactNamesOk : ∀ (l0 : (List ByteArray)), (l0.length ≤ maxLen ∧ ∀ x ∈ l0, x.size ≤ maxLen) → ∃ k, laws_FnExactNamesOk.f k l0 = some true := by
  intro l0 ⟨hl, hs⟩
  have hl' : l0.length ≤ 9223372036854775807 := hl
  have hs' : ∀ x ∈ l0, x.size ≤ 9223372036854775807 := hs
  refine Ev.rounds (g := fun k => laws_FnExactNamesOk.f k l0) ?_
  simp only [laws_FnExactNamesOk.f]
  obtain ⟨r, hr, hp⟩ := szStringS_ev l0 hl' hs' 1048576 (by omega) (by omega)
  refine Ev.bind hr ?_
  by_cases hneg : r < 0
  · exact evPos hneg (Ev.now _)
  · have hn := total_nonneg l0
    have hsm : l0.length ≤ 1048576 := by omega
    have ht := toStringS_ev l0 (by omega)
    exact evNeg hneg (Ev.bind ht (Ev.bind (sNamesOk_ev l0 (by omega) hs') (Ev.bind ht (Ev.bind (iNamesOk_ev l0 (by omega) hs') (evNeg (by simp) (Ev.bind ht (Ev.bind (eqStringS_ev l0 l0 (by omega)) (evPos (by simp) (Ev.now _)))))))))
end Go.Proofs.Ytndkcifblnfaoaa.Pure
