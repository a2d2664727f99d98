/- The plain law of FnExactPutTx: what it computes is always true. -/
import Derived.Test.YtcmlbjlbgcdogaaPIx0
import Derived.Test.YtcmlbjlbgcdogaaPIx6
import Derived.Test.YtcmlbjlbgcdogaaLibDFnExactPutTx
import Derived.Test.YtcmlbjlbgcdogaaTelI
namespace Go.Proofs.Ytcmlbjlbgcdogaa.Pure
open Go.RowKit Go.Proofs.YtcmlbjlbgcdogaaW.PrintWords Go.Proofs.YtcmlbjlbgcdogaaW.PrintLast Go.Proofs.YtcmlbjlbgcdogaaW.PrintMore Go.Proofs.Ytcmlbjlbgcdogaa.Base Go.Proofs.Ytcmlbjlbgcdogaa.PI
set_option linter.unusedVariables false
theorem FnExactPutTx : ∀ (l0 : (List Int)) (x1_0 : Int) (x1_1 : ByteArray) (x1_2 : ByteArray) (x1_3 : Int) (x1_4 : Int), (l0.length ≤ maxLen ∧ ∀ x ∈ l0, (Lit.int .u8 x).wf = true) → ((Lit.int .i64 x1_0).wf = true) → (x1_1.size ≤ maxLen) → (x1_2.size ≤ maxLen) → ((Lit.int .i64 x1_3).wf = true) → ((Lit.int .i64 x1_4).wf = true) → ∃ k, laws_FnExactPutTx.f k l0 x1_0 x1_1 x1_2 x1_3 x1_4 = some true := by
  intro l0 kd fr tt am no hw _ hf htt _ _
  have g1 : fr.size ≤ 9223372036854775807 := hf
  have g2 : tt.size ≤ 9223372036854775807 := htt
  refine Ev.rounds (g := fun k => laws_FnExactPutTx.f k l0 kd fr tt am no) ?_
  simp only [laws_FnExactPutTx.f, laws_toTx.f, Option.bind_some]
  by_cases hbig : (l0.length : Int) > 1048576
  · exact evPos hbig (Ev.now _)
  · refine evNeg hbig ?_
    obtain ⟨r, hr, hp⟩ := szTx_eq kd fr tt am no 1048576 g1 g2 (by omega) (by omega)
    refine evBindC hr ?_
    by_cases hneg : r < 0
    · exact evPos hneg (Ev.now _)
    have ht := toByteS_ev l0 (by omega)
    have hs := sPutTx_ev l0 kd fr tt am no (by omega) (by omega) (by omega)
    have hi := iPutTx_ev l0 kd fr tt am no (by omega) (by omega) (by omega)
    have hlen : (if txOk kd fr tt am no = true then l0 ++ putX kd fr tt am no else l0).length ≤ 281474976710656 := by
      have p1 := putN_length kd
      have p2 := putT_length fr
      have p3 := putT_length tt
      have p4 := putN_length am
      have p5 := putN_length no
      split
      · simp only [putX, List.length_append]
        omega
      · omega
    generalize (if txOk kd fr tt am no = true then l0 ++ putX kd fr tt am no else l0) = x at hs hi hlen
    have he := eqByteS_ev x x hlen
    have hm := markByteS_ev l0 1 (by omega) (by omega)
    have hm2 := markByteS_ev x 1 (by omega) hlen
    have hh := heldByteS_ev x 1 (by omega) hlen
    have j0 : Ev (fun k => laws_FnExactPutTx.j0 k l0 x x false kd fr tt am no) true := by
      refine Ev.step (f := fun k => (laws_markByteS.f k x 1).bind fun bt154 => ((laws_heldByteS.f k bt154.2 1).bind fun t156 => (if t156 < 0 then (some false) else (if t156 = bt154.1 then ((laws_toByteS.f k l0).bind fun t157 => ((impl_PutTx.f k t157 kd fr tt am no).bind fun t160 => ((laws_eqByteS.f k t160 x).bind fun t163 => (if t163 = true then ((laws_heldByteS.f k bt154.2 1).bind fun t164 => (if t164 < 0 then (some false) else (if t164 = bt154.1 then (some true) else (some false)))) else (some false))))) else (some false))))) (fun k => ?_) ?_
      · simp only [laws_FnExactPutTx.j0, laws_toTx.f, Option.bind_some]
        exact if_neg (by simp)
      · exact Ev.bind hm2 (Ev.bind hh (evNeg (by omega) (evPos rfl (Ev.bind ht (Ev.bind hi (Ev.bind he (evPos (by simp) (Ev.bind hh (evNeg (by omega) (evPos rfl (Ev.now _)))))))))))
    refine evNeg hneg (Ev.bind ht (Ev.bind hs (Ev.bind ht (Ev.bind hi (Ev.bind he (evPos (by simp) (Ev.bind ht (Ev.bind (eqByteS_ev l0 l0 (by omega)) (evPos (by simp) (Ev.bind hm (evNeg (by dsimp only; omega) (Ev.bind he ?_))))))))))))
    simpa using j0
end Go.Proofs.Ytcmlbjlbgcdogaa.Pure
