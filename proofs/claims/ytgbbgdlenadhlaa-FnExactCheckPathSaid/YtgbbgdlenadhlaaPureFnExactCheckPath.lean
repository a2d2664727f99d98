/- The plain law of FnExactCheckPath: what it computes is always true. -/
import Derived.Test.YtgbbgdlenadhlaaPGx0
import Derived.Test.YtgbbgdlenadhlaaPGx6
import Derived.Test.YtgbbgdlenadhlaaLibTFnExactCheckPath
import Derived.Test.YtgbbgdlenadhlaaLibMFnExactCheckPath
import Derived.Test.YtgbbgdlenadhlaaTelG
namespace Go.Proofs.Ytgbbgdlenadhlaa.Pure
open Go.RowKit Go.Proofs.YtgbbgdlenadhlaaW.PrintWords Go.Proofs.YtgbbgdlenadhlaaW.PrintLast Go.Proofs.YtgbbgdlenadhlaaW.PrintMore Go.Proofs.Ytgbbgdlenadhlaa.Base Go.Proofs.Ytgbbgdlenadhlaa.PG
set_option linter.unusedVariables false
set_option linter.unusedSimpArgs false
theorem FnExactCheckPath : ∀ (a0 : ByteArray) (a1 : Int) (a2 : Int) (l3 : List ByteArray) (a4 : ByteArray), (a0.size ≤ maxLen) → ((Lit.int .i64 a1).wf = true) → ((Lit.int .i64 a2).wf = true) → (l3.length ≤ maxLen ∧ ∀ x ∈ l3, x.size ≤ maxLen) → (a4.size ≤ maxLen) → ∃ k, laws_FnExactCheckPath.f k a0 a1 a2 l3 a4 = some true := by
  intro a0 a1 a2 l0 a4 h0 h1 h2 ⟨hl, hs⟩ h4
  have hl' : l0.length ≤ 9223372036854775807 := hl
  have hs' : ∀ x ∈ l0, x.size ≤ 9223372036854775807 := hs
  refine Ev.rounds (g := fun k => laws_FnExactCheckPath.f k a0 a1 a2 l0 a4) ?_
  simp only [laws_FnExactCheckPath.f]
  by_cases hb0 : (a0.size : Int) > 1048576
  · exact evPos hb0 (Ev.now _)
  refine evNeg hb0 ?_
  by_cases hb4 : (a4.size : Int) > 1048576
  · exact evPos hb4 (Ev.now _)
  refine evNeg hb4 ?_
  obtain ⟨r, hr, hp⟩ := szStringS_ev l0 hl' hs' 1048576 (by omega) (by omega)
  refine Ev.bind hr ?_
  by_cases hneg : r < 0
  · exact evPos hneg (Ev.now _)
  · have hn := total_nonneg l0
    have hsm : l0.length ≤ 1048576 := by omega
    have hz : ∀ s ∈ l0, s.size ≤ 140000000 := fun s h => by
      have := total_mem h
      omega
    have ht := toStringS_ev l0 (by omega)
    exact evNeg hneg (Ev.bind ht (Ev.bind (sCheck_ev a0 (by omega) a1 a2 (wf_i64 h1) (wf_i64 h2) l0 (by omega) hz a4) (Ev.bind ht (Ev.bind (iCheck_ev a0 (by omega) a1 a2 (wf_i64 h1) (wf_i64 h2) l0 (by omega) hz a4) (evNeg (by simp) (Ev.bind ht (Ev.bind (eqStringS_ev l0 l0 (by omega)) (evPos (by simp) (Ev.now _)))))))))
end Go.Proofs.Ytgbbgdlenadhlaa.Pure
