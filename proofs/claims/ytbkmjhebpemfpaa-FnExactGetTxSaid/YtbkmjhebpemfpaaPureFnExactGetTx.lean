/- The plain law of FnExactGetTx: what it computes is always true. -/
import Derived.Test.YtbkmjhebpemfpaaPEx0
import Derived.Test.YtbkmjhebpemfpaaPEx5
import Derived.Test.YtbkmjhebpemfpaaLibGFnExactGetTx
import Derived.Test.YtbkmjhebpemfpaaTelE
namespace Go.Proofs.Ytbkmjhebpemfpaa.Pure
open Go.RowKit Go.Proofs.YtbkmjhebpemfpaaW.PrintWords Go.Proofs.YtbkmjhebpemfpaaW.PrintLast Go.Proofs.YtbkmjhebpemfpaaW.PrintMore Go.Proofs.Ytbkmjhebpemfpaa.Base Go.Proofs.Ytbkmjhebpemfpaa.PE
set_option linter.unusedVariables false
theorem FnExactGetTx : ∀ (l0 : List Int) (a1 : Int), (l0.length ≤ maxLen ∧ ∀ x ∈ l0, (Lit.int .u8 x).wf = true) → ((Lit.int .i64 a1).wf = true) → ∃ k, laws_FnExactGetTx.f k l0 a1 = some true := by
  intro l0 a1 hw ha
  refine Ev.rounds (g := fun k => laws_FnExactGetTx.f k l0 a1) ?_
  simp only [laws_FnExactGetTx.f]
  by_cases hbig : (l0.length : Int) > 1048576
  · exact evPos hbig (Ev.now _)
  · have hb := AllB.of_wf hw.2
    have ht := toByteS_ev l0 (by omega)
    have hs := sGetTx_ev l0 hb (by omega) a1
    have hi := iGetTx_ev l0 hb (by omega) a1 (wf_i64 ha)
    generalize gtxOf l0 a1 = r at hs hi
    obtain ⟨kd, fr, tt, am, no, p, o⟩ := r
    have hq : laws_eqTx.f kd fr tt am no kd fr tt am no = some true := by simp [laws_eqTx.f]
    refine evNeg hbig (Ev.bind ht (Ev.bind hs (Ev.bind ht (Ev.bind hi (evBindC hq (evPos rfl (evPos rfl ?_)))))))
    refine Ev.step (f := fun k => (laws_toByteS.f k l0).bind fun t131 => ((laws_eqByteS.f k l0 t131).bind fun t134 => (if t134 = true then (some true) else (some false)))) (fun k => ?_) (Ev.bind ht (Ev.bind (eqByteS_ev l0 l0 (by omega)) (evPos (by simp) (Ev.now _))))
    simp only [laws_FnExactGetTx.j0]
    exact if_neg (by simp)
end Go.Proofs.Ytbkmjhebpemfpaa.Pure
