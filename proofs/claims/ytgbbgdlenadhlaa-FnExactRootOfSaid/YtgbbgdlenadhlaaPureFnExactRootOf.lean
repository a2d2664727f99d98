/- The plain law of FnExactRootOf: what it computes is always true. -/
import Derived.Test.YtgbbgdlenadhlaaPFx0
import Derived.Test.YtgbbgdlenadhlaaPFx6
import Derived.Test.YtgbbgdlenadhlaaLibTFnExactRootOf
import Derived.Test.YtgbbgdlenadhlaaLibMFnExactRootOf
import Derived.Test.YtgbbgdlenadhlaaTelF
namespace Go.Proofs.Ytgbbgdlenadhlaa.Pure
open Go.RowKit Go.Proofs.YtgbbgdlenadhlaaW.PrintWords Go.Proofs.YtgbbgdlenadhlaaW.PrintLast Go.Proofs.YtgbbgdlenadhlaaW.PrintMore Go.Proofs.Ytgbbgdlenadhlaa.Base Go.Proofs.Ytgbbgdlenadhlaa.PF
set_option linter.unusedVariables false
theorem FnExactRootOf : ∀ (l0 : List ByteArray), (l0.length ≤ maxLen ∧ ∀ x ∈ l0, x.size ≤ maxLen) → ∃ k, laws_FnExactRootOf.f k l0 = some true := by
  intro l0 ⟨hl, hs⟩
  have hl' : l0.length ≤ 9223372036854775807 := hl
  have hs' : ∀ x ∈ l0, x.size ≤ 9223372036854775807 := hs
  refine Ev.rounds (g := fun k => laws_FnExactRootOf.f k l0) ?_
  simp only [laws_FnExactRootOf.f]
  obtain ⟨r, hr, hp⟩ := szStringS_ev l0 hl' hs' 1048576 (by omega) (by omega)
  refine Ev.bind hr ?_
  by_cases hneg : r < 0
  · exact evPos hneg (Ev.now _)
  · have hn := total_nonneg l0
    have hsm : l0.length ≤ 1048576 := by omega
    have hz : ∀ s ∈ l0, s.size ≤ 140000000 := fun s h => by
      have := total_mem h
      omega
    have ht := toStringS_ev l0 (by omega)
    exact evNeg hneg (Ev.bind ht (Ev.bind (sRootOf_ev l0 (by omega) hz) (Ev.bind ht (Ev.bind (iRootOf_ev l0 (by omega) hz) (evPos rfl (Ev.bind ht (Ev.bind (eqStringS_ev l0 l0 (by omega)) (evPos (by simp) (Ev.now _)))))))))
end Go.Proofs.Ytgbbgdlenadhlaa.Pure
