/- The plain law of FnExactTxLess: what it computes is always true. -/
import Derived.Test.YtndkcifblnfaoaaPAx0
import Derived.Test.YtndkcifblnfaoaaPAx10
import Derived.Test.YtndkcifblnfaoaaLibCA
import Derived.Test.YtndkcifblnfaoaaTelA
namespace Go.Proofs.Ytndkcifblnfaoaa.Pure
open Go.RowKit Go.Proofs.YtndkcifblnfaoaaW.PrintWords Go.Proofs.YtndkcifblnfaoaaW.PrintLast Go.Proofs.YtndkcifblnfaoaaW.PrintMore Go.Proofs.Ytndkcifblnfaoaa.Base Go.Proofs.Ytndkcifblnfaoaa.PA
set_option linter.unusedVariables false
theorem FnExactTxLess : ∀ (x0_0 : Int) (x0_1 : ByteArray) (x0_2 : ByteArray) (x0_3 : Int) (x0_4 : Int) (x1_0 : Int) (x1_1 : ByteArray) (x1_2 : ByteArray) (x1_3 : Int) (x1_4 : Int), ((Lit.int .i64 x0_0).wf = true) → (x0_1.size ≤ maxLen) → (x0_2.size ≤ maxLen) → ((Lit.int .i64 x0_3).wf = true) → ((Lit.int .i64 x0_4).wf = true) → ((Lit.int .i64 x1_0).wf = true) → (x1_1.size ≤ maxLen) → (x1_2.size ≤ maxLen) → ((Lit.int .i64 x1_3).wf = true) → ((Lit.int .i64 x1_4).wf = true) → ∃ k, laws_FnExactTxLess.f k x0_0 x0_1 x0_2 x0_3 x0_4 x1_0 x1_1 x1_2 x1_3 x1_4 = some true := by
  intro kd fr tt am no kd' fr' tt' am' no' _ hf ht _ _ _ hf' ht' _ _
  have g1 : fr.size ≤ 9223372036854775807 := hf
  have g2 : tt.size ≤ 9223372036854775807 := ht
  have g3 : fr'.size ≤ 9223372036854775807 := hf'
  have g4 : tt'.size ≤ 9223372036854775807 := ht'
  refine Ev.rounds (g := fun k => laws_FnExactTxLess.f k kd fr tt am no kd' fr' tt' am' no') ?_
  simp only [laws_FnExactTxLess.f, laws_toTx.f, Option.bind_some, sTxLess_eq]
  obtain ⟨r, hr, hp⟩ := szTx_eq kd fr tt am no 1048576 g1 g2 (by omega) (by omega)
  refine evBindC hr ?_
  by_cases hneg : r < 0
  · exact evPos hneg (Ev.now _)
  · refine evNeg hneg ?_
    obtain ⟨r', hr', hp'⟩ := szTx_eq kd' fr' tt' am' no' r g3 g4 (by omega) (by omega)
    refine evBindC hr' ?_
    by_cases hneg' : r' < 0
    · exact evPos hneg' (Ev.now _)
    · exact evNeg hneg' (Ev.bind (iTxLess_ev kd fr tt am no kd' fr' tt' am' no') (evNeg (by simp) (Ev.now _)))
end Go.Proofs.Ytndkcifblnfaoaa.Pure
