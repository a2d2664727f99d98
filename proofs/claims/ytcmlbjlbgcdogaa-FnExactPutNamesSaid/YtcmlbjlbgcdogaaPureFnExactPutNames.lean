/- The plain law of FnExactPutNames: what it computes is always true. -/
import Derived.Test.YtcmlbjlbgcdogaaPFx0
import Derived.Test.YtcmlbjlbgcdogaaPFx4
import Derived.Test.YtcmlbjlbgcdogaaLibDFnExactPutNames
import Derived.Test.YtcmlbjlbgcdogaaTelF
namespace Go.Proofs.Ytcmlbjlbgcdogaa.Pure
open Go.RowKit Go.Proofs.YtcmlbjlbgcdogaaW.PrintWords Go.Proofs.YtcmlbjlbgcdogaaW.PrintLast Go.Proofs.YtcmlbjlbgcdogaaW.PrintMore Go.Proofs.Ytcmlbjlbgcdogaa.Base Go.Proofs.Ytcmlbjlbgcdogaa.PF
set_option linter.unusedVariables false
theorem tsum_total (l : List ByteArray) : (tsum l : Int) = total l + 6 * (l.length : Int) := by
  induction l with
  | nil => simp [tsum, total]
  | cons a l ih => simp only [tsum, total, List.map_cons, List.sum_cons, List.length_cons] at ih ⊢; omega
theorem putNs_length (l : List ByteArray) : (putNs l).length ≤ 6 + tsum l := by
  have h := putN_length (l.length : Int)
  have : (l.flatMap putT).length ≤ tsum l := by
    clear h
    induction l with
    | nil => simp [tsum]
    | cons a l ih =>
      have := putT_length a
      simp only [tsum, List.flatMap_cons, List.length_append, List.map_cons, List.sum_cons] at ih ⊢
      omega
  simp only [putNs, List.length_append]
  omega
theorem FnExactPutNames : ∀ (l0 : (List Int)) (l1 : (List ByteArray)), (l0.length ≤ maxLen ∧ ∀ x ∈ l0, (Lit.int .u8 x).wf = true) → (l1.length ≤ maxLen ∧ ∀ x ∈ l1, x.size ≤ maxLen) → ∃ k, laws_FnExactPutNames.f k l0 l1 = some true := by
  intro l0 l1 hw hw1
  have g1 : l1.length ≤ 9223372036854775807 := hw1.1
  have g2 : ∀ x ∈ l1, x.size ≤ 9223372036854775807 := hw1.2
  refine Ev.rounds (g := fun k => laws_FnExactPutNames.f k l0 l1) ?_
  simp only [laws_FnExactPutNames.f]
  by_cases hbig : (l0.length : Int) > 1048576
  · exact evPos hbig (Ev.now _)
  · refine evNeg hbig ?_
    obtain ⟨r, hr, hp⟩ := szStringS_ev l1 g1 g2 1048576 (by omega) (by omega)
    refine Ev.bind hr ?_
    by_cases hneg : r < 0
    · exact evPos hneg (Ev.now _)
    have hn := total_nonneg l1
    have hts := tsum_total l1
    have hpl := putNs_length l1
    have ht := toByteS_ev l0 (by omega)
    have htS := toStringS_ev l1 (by omega)
    have hs := sPutNames_ev l0 l1 (by omega) (by omega)
    have hi := iPutNames_ev l0 l1 (by omega) (by omega)
    have hl2 : (l0 ++ putNs l1).length = l0.length + (putNs l1).length := List.length_append
    have he := eqByteS_ev (l0 ++ putNs l1) (l0 ++ putNs l1) (by omega)
    have hm := markByteS_ev l0 1 (by omega) (by omega)
    have hmS := markStringS_ev l1 (1 + (l0.length : Int)) (by omega) (by omega)
    have hm2 := markByteS_ev (l0 ++ putNs l1) 1 (by omega) (by omega)
    have hh := heldByteS_ev (l0 ++ putNs l1) 1 (by omega) (by omega)
    have j0 : Ev (fun k => laws_FnExactPutNames.j0 k l0 l1 (l0 ++ putNs l1) (l0 ++ putNs l1) false) true := by
      refine Ev.step (f := fun k => (laws_markByteS.f k (l0 ++ putNs l1) 1).bind fun bt154 => ((laws_heldByteS.f k bt154.2 1).bind fun t156 => (if t156 < 0 then (some false) else (if t156 = bt154.1 then ((laws_toByteS.f k l0).bind fun t157 => ((laws_toStringS.f k l1).bind fun t158 => ((impl_PutNames.f k t157 t158).bind fun t160 => ((laws_eqByteS.f k t160 (l0 ++ putNs l1)).bind fun t163 => (if t163 = true then ((laws_heldByteS.f k bt154.2 1).bind fun t164 => (if t164 < 0 then (some false) else (if t164 = bt154.1 then (some true) else (some false)))) else (some false)))))) else (some false))))) (fun k => ?_) ?_
      · simp only [laws_FnExactPutNames.j0]
        exact if_neg (by simp)
      · exact Ev.bind hm2 (Ev.bind hh (evNeg (by omega) (evPos rfl (Ev.bind ht (Ev.bind htS (Ev.bind hi (Ev.bind he (evPos (by simp) (Ev.bind hh (evNeg (by omega) (evPos rfl (Ev.now _))))))))))))
    refine evNeg hneg (Ev.bind ht (Ev.bind htS (Ev.bind hs (Ev.bind ht (Ev.bind htS (Ev.bind hi (Ev.bind he (evPos (by simp) (Ev.bind ht (Ev.bind (eqByteS_ev l0 l0 (by omega)) (evPos (by simp) (Ev.bind htS (Ev.bind (eqStringS_ev l1 l1 (by omega)) (evPos (by simp) (Ev.bind hm (Ev.bind hmS (evNeg (by dsimp only; omega) (Ev.bind he ?_))))))))))))))))))
    simpa using j0
end Go.Proofs.Ytcmlbjlbgcdogaa.Pure
