/- The plain law of FnExactAcctOk: what it computes is always true. -/
import Derived.Test.YtbkmjhebpemfpaaPAx0
import Derived.Test.YtbkmjhebpemfpaaPAx3
import Derived.Test.YtbkmjhebpemfpaaLibAFnExactAcctOk
import Derived.Test.YtbkmjhebpemfpaaTelA
namespace Go.Proofs.Ytbkmjhebpemfpaa.Pure
open Go.RowKit Go.Proofs.YtbkmjhebpemfpaaW.PrintWords Go.Proofs.YtbkmjhebpemfpaaW.PrintLast Go.Proofs.YtbkmjhebpemfpaaW.PrintMore Go.Proofs.Ytbkmjhebpemfpaa.Base Go.Proofs.Ytbkmjhebpemfpaa.PA
set_option linter.unusedVariables false
theorem FnExactAcctOk : ∀ (x0_0 : ByteArray) (x0_1 : Int) (x0_2 : Int) (x0_3 : Int) (x0_4 : (List S128)), (x0_0.size ≤ maxLen) → ((Lit.int .i64 x0_1).wf = true) → ((Lit.int .i64 x0_2).wf = true) → ((Lit.int .i64 x0_3).wf = true) → (x0_4.length ≤ maxLen ∧ ∀ x ∈ x0_4, ok128 x) → ∃ k, laws_FnExactAcctOk.f k x0_0 x0_1 x0_2 x0_3 x0_4 = some true := by
  intro a b c d l ha _ _ _ hl
  have g1 : a.size ≤ 9223372036854775807 := ha
  have g2 : l.length ≤ 9223372036854775807 := hl.1
  refine Ev.rounds (g := fun k => laws_FnExactAcctOk.f k a b c d l) ?_
  simp only [laws_FnExactAcctOk.f]
  obtain ⟨r, e, hp⟩ := szAcct_eq a b c d l 1048576 g1 g2 (by omega) (by omega)
  refine evBindC e ?_
  by_cases hneg : r < 0
  · exact evPos hneg (Ev.now _)
  · have ht := toAcct_ev a b c d l (by omega)
    have hlm : (l.map cvL).length = l.length := List.length_map _
    have hs := sAcctOk_ev a b c d (l.map cvL) g1 (by omega)
    have hi := iAcctOk_ev a b c d (l.map cvL) g1 (by omega)
    have hq := eqAcct_ev a b c d (l.map cvL) (by omega)
    exact evNeg hneg (Ev.bind ht (Ev.bind hs (Ev.bind ht (Ev.bind hi (evNeg (by simp) (Ev.bind ht (Ev.bind hq (evPos rfl (Ev.now _)))))))))
end Go.Proofs.Ytbkmjhebpemfpaa.Pure
