/- The plain law of FnExactPutText: what it computes is always true. -/
import Derived.Test.YtcmlbjlbgcdogaaPBx0
import Derived.Test.YtcmlbjlbgcdogaaPBx6
import Derived.Test.YtcmlbjlbgcdogaaLibDFnExactPutText
import Derived.Test.YtcmlbjlbgcdogaaTelB
namespace Go.Proofs.Ytcmlbjlbgcdogaa.Pure
open Go.RowKit Go.Proofs.YtcmlbjlbgcdogaaW.PrintWords Go.Proofs.YtcmlbjlbgcdogaaW.PrintLast Go.Proofs.YtcmlbjlbgcdogaaW.PrintMore Go.Proofs.Ytcmlbjlbgcdogaa.Base Go.Proofs.Ytcmlbjlbgcdogaa.PB
set_option linter.unusedVariables false
theorem FnExactPutText : ∀ (l0 : List Int) (a1 : ByteArray), (l0.length ≤ maxLen ∧ ∀ x ∈ l0, (Lit.int .u8 x).wf = true) → (a1.size ≤ maxLen) → ∃ k, laws_FnExactPutText.f k l0 a1 = some true := by
  intro l0 a1 hw ha
  refine Ev.rounds (g := fun k => laws_FnExactPutText.f k l0 a1) ?_
  simp only [laws_FnExactPutText.f]
  by_cases hbig : (l0.length : Int) > 1048576
  · exact evPos hbig (Ev.now _)
  · refine evNeg hbig ?_
    by_cases hbig2 : (a1.size : Int) > 1048576
    · exact evPos hbig2 (Ev.now _)
    have ht := toByteS_ev l0 (by omega)
    have hs := sPutText_ev l0 a1 (by omega)
    have hi := iPutText_ev l0 a1 (by omega)
    have hlen := putT_length a1
    have hl2 : (l0 ++ putT a1).length = l0.length + (putT a1).length := List.length_append
    have he := eqByteS_ev (l0 ++ putT a1) (l0 ++ putT a1) (by omega)
    have hm := markByteS_ev l0 1 (by omega) (by omega)
    have hm2 := markByteS_ev (l0 ++ putT a1) 1 (by omega) (by omega)
    have hh := heldByteS_ev (l0 ++ putT a1) 1 (by omega) (by omega)
    have j0 : Ev (fun k => laws_FnExactPutText.j0 k l0 a1 (l0 ++ putT a1) (l0 ++ putT a1) false) true := by
      refine Ev.step (f := fun k => (laws_markByteS.f k (l0 ++ putT a1) 1).bind fun bt154 => ((laws_heldByteS.f k bt154.2 1).bind fun t156 => (if t156 < 0 then (some false) else (if t156 = bt154.1 then ((laws_toByteS.f k l0).bind fun t157 => ((impl_PutText.f k t157 a1).bind fun t160 => ((laws_eqByteS.f k t160 (l0 ++ putT a1)).bind fun t163 => (if t163 = true then ((laws_heldByteS.f k bt154.2 1).bind fun t164 => (if t164 < 0 then (some false) else (if t164 = bt154.1 then (some true) else (some false)))) else (some false))))) else (some false))))) (fun k => ?_) ?_
      · simp only [laws_FnExactPutText.j0]
        exact if_neg (by simp)
      · exact Ev.bind hm2 (Ev.bind hh (evNeg (by omega) (evPos rfl (Ev.bind ht (Ev.bind hi (Ev.bind he (evPos (by simp) (Ev.bind hh (evNeg (by omega) (evPos rfl (Ev.now _)))))))))))
    refine evNeg hbig2 (Ev.bind ht (Ev.bind hs (Ev.bind ht (Ev.bind hi (Ev.bind he (evPos (by simp) (Ev.bind ht (Ev.bind (eqByteS_ev l0 l0 (by omega)) (evPos (by simp) (Ev.bind hm (evNeg (by dsimp only; omega) (Ev.bind he ?_))))))))))))
    simpa using j0
end Go.Proofs.Ytcmlbjlbgcdogaa.Pure
