/- The plain law of FnExactAcctsOk: what it computes is always true. -/
import Derived.Test.YtbkmjhebpemfpaaPBx0
import Derived.Test.YtbkmjhebpemfpaaPBx8
import Derived.Test.YtbkmjhebpemfpaaLibAFnExactAcctsOk
import Derived.Test.YtbkmjhebpemfpaaTelB
namespace Go.Proofs.Ytbkmjhebpemfpaa.Pure
open Go.RowKit Go.Proofs.YtbkmjhebpemfpaaW.PrintWords Go.Proofs.YtbkmjhebpemfpaaW.PrintLast Go.Proofs.YtbkmjhebpemfpaaW.PrintMore Go.Proofs.Ytbkmjhebpemfpaa.Base Go.Proofs.Ytbkmjhebpemfpaa.PB
set_option linter.unusedVariables false
theorem FnExactAcctsOk : ∀ (l0 : (List S33)), (l0.length ≤ maxLen ∧ ∀ x ∈ l0, ok33 x) → ∃ k, laws_FnExactAcctsOk.f k l0 = some true := by
  intro l hw
  have g1 : l.length ≤ 9223372036854775807 := hw.1
  have g2 : ∀ s ∈ l, s.f0.size ≤ 9223372036854775807 ∧ s.f4.length ≤ 9223372036854775807 := by
    intro s hs
    have := hw.2 s hs
    unfold ok33 at this
    exact ⟨this.1, this.2.2.2.2.1⟩
  refine Ev.rounds (g := fun k => laws_FnExactAcctsOk.f k l) ?_
  simp only [laws_FnExactAcctsOk.f]
  obtain ⟨r, hr, hp⟩ := szAcctS_ev l g1 g2
  refine Ev.bind hr ?_
  by_cases hneg : r < 0
  · exact evPos hneg (Ev.now _)
  · have hp' := hp.resolve_left hneg
    have ht := toAcctS_ev l (by omega) (fun s hs => by have := hp'.2 s hs; omega)
    have hlm : (l.map cvA).length = l.length := List.length_map _
    have hsm : ∀ s ∈ l.map cvA, s.f0.size ≤ 9223372036854775807 ∧ s.f4.length ≤ 281474976710656 := by
      intro s hs
      obtain ⟨z, hz, rfl⟩ := List.mem_map.1 hs
      have := hp'.2 z hz
      simp only [cvA, List.length_map]
      omega
    have hs := sAcctsOk_ev (l.map cvA) (by omega) hsm
    have hi := iAcctsOk_ev (l.map cvA) (by omega) hsm
    have hq := eqAcctS_ev (l.map cvA) (by omega) (fun s hs => (hsm s hs).2)
    exact evNeg hneg (Ev.bind ht (Ev.bind hs (Ev.bind ht (Ev.bind hi (evNeg (by simp) (Ev.bind ht (Ev.bind hq (evPos rfl (Ev.now _)))))))))
end Go.Proofs.Ytbkmjhebpemfpaa.Pure
