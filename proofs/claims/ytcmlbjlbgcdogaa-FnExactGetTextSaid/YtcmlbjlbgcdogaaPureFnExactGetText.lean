/- The plain law of FnExactGetText: what it computes is always true. -/
import Derived.Test.YtcmlbjlbgcdogaaPBx0
import Derived.Test.YtcmlbjlbgcdogaaPBx5
import Derived.Test.YtcmlbjlbgcdogaaLibDFnExactGetText
import Derived.Test.YtcmlbjlbgcdogaaTelB
namespace Go.Proofs.Ytcmlbjlbgcdogaa.Pure
open Go.RowKit Go.Proofs.YtcmlbjlbgcdogaaW.PrintWords Go.Proofs.YtcmlbjlbgcdogaaW.PrintLast Go.Proofs.YtcmlbjlbgcdogaaW.PrintMore Go.Proofs.Ytcmlbjlbgcdogaa.Base Go.Proofs.Ytcmlbjlbgcdogaa.PB
set_option linter.unusedVariables false
theorem FnExactGetText : ∀ (l0 : List Int) (a1 : Int), (l0.length ≤ maxLen ∧ ∀ x ∈ l0, (Lit.int .u8 x).wf = true) → ((Lit.int .i64 a1).wf = true) → ∃ k, laws_FnExactGetText.f k l0 a1 = some true := by
  intro l0 a1 hw ha
  refine Ev.rounds (g := fun k => laws_FnExactGetText.f k l0 a1) ?_
  simp only [laws_FnExactGetText.f]
  by_cases hbig : (l0.length : Int) > 1048576
  · exact evPos hbig (Ev.now _)
  · have hb := AllB.of_wf hw.2
    have ht := toByteS_ev l0 (by omega)
    refine evNeg hbig (Ev.bind ht (Ev.bind (sGetText_ev l0 hb (by omega) a1) (Ev.bind ht (Ev.bind (iGetText_ev l0 hb (by omega) a1 (wf_i64 ha)) (evPos rfl (evPos rfl ?_))))))
    refine Ev.step (f := fun k => (laws_toByteS.f k l0).bind fun t131 => ((laws_eqByteS.f k l0 t131).bind fun t134 => (if t134 = true then (some true) else (some false)))) (fun k => ?_) (Ev.bind ht (Ev.bind (eqByteS_ev l0 l0 (by omega)) (evPos (by simp) (Ev.now _))))
    simp only [laws_FnExactGetText.j0]
    exact if_neg (by simp)
end Go.Proofs.Ytcmlbjlbgcdogaa.Pure
