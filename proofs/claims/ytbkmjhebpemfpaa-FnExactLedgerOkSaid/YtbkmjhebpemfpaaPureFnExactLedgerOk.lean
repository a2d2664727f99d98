/- The plain law of FnExactLedgerOk: what it computes is always true. -/
import Derived.Test.YtbkmjhebpemfpaaPDx0
import Derived.Test.YtbkmjhebpemfpaaPDx8
import Derived.Test.YtbkmjhebpemfpaaLibAFnExactLedgerOk
import Derived.Test.YtbkmjhebpemfpaaTelD
namespace Go.Proofs.Ytbkmjhebpemfpaa.Pure
open Go.RowKit Go.Proofs.YtbkmjhebpemfpaaW.PrintWords Go.Proofs.YtbkmjhebpemfpaaW.PrintLast Go.Proofs.YtbkmjhebpemfpaaW.PrintMore Go.Proofs.Ytbkmjhebpemfpaa.Base Go.Proofs.Ytbkmjhebpemfpaa.PD
set_option linter.unusedVariables false
theorem FnExactLedgerOk : ∀ (x0_0 : Int) (x0_1 : (List S33)), ((Lit.int .i64 x0_0).wf = true) → (x0_1.length ≤ maxLen ∧ ∀ x ∈ x0_1, ok33 x) → ∃ k, laws_FnExactLedgerOk.f k x0_0 x0_1 = some true := by
  intro n l _ hw
  have g1 : l.length ≤ 9223372036854775807 := hw.1
  have g2 : ∀ s ∈ l, s.f0.size ≤ 9223372036854775807 ∧ s.f4.length ≤ 9223372036854775807 := by
    intro s hs
    have := hw.2 s hs
    unfold ok33 at this
    exact ⟨this.1, this.2.2.2.2.1⟩
  refine Ev.rounds (g := fun k => laws_FnExactLedgerOk.f k n l) ?_
  simp only [laws_FnExactLedgerOk.f, laws_szLedger.f]
  obtain ⟨r, hr, hp⟩ := szAcctS_ev l g1 g2
  by_cases hneg : r < 0
  · exact Ev.bind (Ev.bind hr (evPos hneg (Ev.now _))) (evPos (by omega) (Ev.now _))
  · have hp' := hp.resolve_left hneg
    have ht0 := toAcctS_ev l (by omega) (fun s hs => by have := hp'.2 s hs; omega)
    have ht : Ev (fun k => laws_toLedger.f k n l) (n, l.map cvA) := by
      simp only [laws_toLedger.f]
      exact Ev.bind ht0 (Ev.now _)
    have hlm : (l.map cvA).length = l.length := List.length_map _
    have hsm : ∀ s ∈ l.map cvA, s.f0.size ≤ 9223372036854775807 ∧ s.f4.length ≤ 281474976710656 := by
      intro s hs
      obtain ⟨z, hz, rfl⟩ := List.mem_map.1 hs
      have := hp'.2 z hz
      simp only [cvA, List.length_map]
      omega
    have hs : Ev (fun k => spec_LedgerOk.f k n (l.map cvA)) (inr n 0 900 && acctsOk (l.map cvA)) := by
      simp only [spec_LedgerOk.f, l1In_eq, Option.bind_some]
      by_cases h : inr n 0 900 = true
      · exact evPos h (Ev.bind (sAcctsOk_ev (l.map cvA) (by omega) hsm) (evEq (Ev.now _) (by rw [h]; simp)))
      · exact evNeg h (evEq (Ev.now _) (by rw [Bool.not_eq_true] at h; rw [h]; simp))
    have hi : Ev (fun k => impl_LedgerOk.f k n (l.map cvA)) (inr n 0 900 && acctsOk (l.map cvA)) := by
      simp only [impl_LedgerOk.f, inRange_eq, Option.bind_some]
      by_cases h : inr n 0 900 = true
      · exact evPos h (Ev.bind (iAcctsOk_ev (l.map cvA) (by omega) hsm) (evEq (Ev.now _) (by rw [h]; simp)))
      · exact evNeg h (evEq (Ev.now _) (by rw [Bool.not_eq_true] at h; rw [h]; simp))
    have hq : Ev (fun k => laws_eqLedger.f k n (l.map cvA) n (l.map cvA)) true := by
      simp only [laws_eqLedger.f]
      exact evPos trivial (Ev.bind (eqAcctS_ev (l.map cvA) (by omega) (fun s hs => (hsm s hs).2)) (evPos rfl (Ev.now _)))
    exact Ev.bind (Ev.bind hr (evNeg hneg (Ev.now _))) (evNeg hneg (Ev.bind ht (Ev.bind hs (Ev.bind ht (Ev.bind hi (evNeg (by simp) (Ev.bind ht (Ev.bind hq (evPos rfl (Ev.now _))))))))))
end Go.Proofs.Ytbkmjhebpemfpaa.Pure
