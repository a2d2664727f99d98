/- The plain law of FnExactStateRoot: what it computes is always true. -/
import Derived.Test.YtgbbgdlenadhlaaPJx0
import Derived.Test.YtgbbgdlenadhlaaPJx16
import Derived.Test.YtgbbgdlenadhlaaLibXFnExactStateRoot
import Derived.Test.YtgbbgdlenadhlaaTelJ
namespace Go.Proofs.Ytgbbgdlenadhlaa.Pure
open Go.RowKit Go.Proofs.YtgbbgdlenadhlaaW.PrintWords Go.Proofs.YtgbbgdlenadhlaaW.PrintLast Go.Proofs.YtgbbgdlenadhlaaW.PrintMore Go.Proofs.Ytgbbgdlenadhlaa.Base Go.Proofs.Ytgbbgdlenadhlaa.PJ
set_option linter.unusedVariables false
set_option linter.unusedSimpArgs false
theorem FnExactStateRoot : ∀ (x0_0 : Int) (x0_1 : (List S108)), ((Lit.int .i64 x0_0).wf = true) → (x0_1.length ≤ maxLen ∧ ∀ x ∈ x0_1, ok108 x) → ∃ k, laws_FnExactStateRoot.f k x0_0 x0_1 = some true := by
  intro n l _ hw
  have g1 : l.length ≤ 9223372036854775807 := hw.1
  have g2 : ∀ s ∈ l, s.f0.size ≤ 9223372036854775807 ∧ s.f4.length ≤ 9223372036854775807 := by
    intro s hs
    have := hw.2 s hs
    unfold ok108 at this
    exact ⟨this.1, this.2.2.2.2.1⟩
  refine Ev.rounds (g := fun k => laws_FnExactStateRoot.f k n l) ?_
  simp only [laws_FnExactStateRoot.f, laws_szLedger.f]
  obtain ⟨r, hr, hp⟩ := szAcctS_ev l g1 g2
  by_cases hneg : r < 0
  · exact Ev.bind (Ev.bind hr (evPos hneg (Ev.now _))) (evPos (by omega) (Ev.now _))
  · have hp' := hp.resolve_left hneg
    have ht0 := toAcctS_ev l (by omega) (fun s hs => by have := hp'.2 s hs; omega)
    have ht : Ev (fun k => laws_toLedger.f k n l) (n, l.map cvA) := by
      simp only [laws_toLedger.f]
      exact Ev.bind ht0 (Ev.now _)
    have hlm : (l.map cvA).length = l.length := List.length_map _
    have hsm : ∀ s ∈ l.map cvA, Bd s := by
      intro s hs
      obtain ⟨z, hz, rfl⟩ := List.mem_map.1 hs
      have := hp'.2 z hz
      unfold Bd
      simp only [cvA, List.length_map]
      omega
    have hs := sState_ev n (l.map cvA) (by omega) hsm
    have hi := iState_ev n (l.map cvA) (by omega) hsm
    have hq : Ev (fun k => laws_eqLedger.f k n (l.map cvA) n (l.map cvA)) true := by
      simp only [laws_eqLedger.f]
      exact evPos trivial (Ev.bind (eqAcctS_ev (l.map cvA) (by omega) (fun s hs => by have := (hsm s hs).2; omega)) (evPos rfl (Ev.now _)))
    exact Ev.bind (Ev.bind hr (evNeg hneg (Ev.now _))) (evNeg hneg (Ev.bind ht (Ev.bind hs (Ev.bind ht (Ev.bind hi (evPos rfl (Ev.bind ht (Ev.bind hq (evPos rfl (Ev.now _))))))))))
end Go.Proofs.Ytgbbgdlenadhlaa.Pure
