/- The plain law of FnExactTxOk: what it computes is always true. -/
import Derived.Test.YtndkcifblnfaoaaPAx0
import Derived.Test.YtndkcifblnfaoaaPAx3
import Derived.Test.YtndkcifblnfaoaaLibSA
import Derived.Test.YtndkcifblnfaoaaTelA
namespace Go.Proofs.Ytndkcifblnfaoaa.Pure
open Go.RowKit Go.Proofs.YtndkcifblnfaoaaW.PrintWords Go.Proofs.YtndkcifblnfaoaaW.PrintLast Go.Proofs.YtndkcifblnfaoaaW.PrintMore Go.Proofs.Ytndkcifblnfaoaa.Base Go.Proofs.Ytndkcifblnfaoaa.PA
set_option linter.unusedVariables false
theorem FnExactTxOk : ∀ (x0_0 : Int) (x0_1 : ByteArray) (x0_2 : ByteArray) (x0_3 : Int) (x0_4 : Int), ((Lit.int .i64 x0_0).wf = true) → (x0_1.size ≤ maxLen) → (x0_2.size ≤ maxLen) → ((Lit.int .i64 x0_3).wf = true) → ((Lit.int .i64 x0_4).wf = true) → ∃ k, laws_FnExactTxOk.f k x0_0 x0_1 x0_2 x0_3 x0_4 = some true := by
  intro kd fr tt am no _ hf ht _ _
  have hf' : fr.size ≤ 9223372036854775807 := hf
  have ht' : tt.size ≤ 9223372036854775807 := ht
  refine Ev.rounds (g := fun k => laws_FnExactTxOk.f k kd fr tt am no) ?_
  simp only [laws_FnExactTxOk.f, laws_toTx.f, Option.bind_some]
  obtain ⟨r, hr, hp⟩ := szTx_eq kd fr tt am no 1048576 hf' ht' (by omega) (by omega)
  refine evBindC hr ?_
  by_cases hneg : r < 0
  · exact evPos hneg (Ev.now _)
  · exact evNeg hneg (Ev.bind (sTxOk_ev kd fr tt am no hf' ht') (Ev.bind (iTxOk_ev kd fr tt am no hf' ht') (evNeg (by simp) (Ev.now _))))
end Go.Proofs.Ytndkcifblnfaoaa.Pure
