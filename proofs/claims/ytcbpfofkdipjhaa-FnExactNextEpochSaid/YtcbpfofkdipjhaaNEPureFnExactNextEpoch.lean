/- The plain law of FnExactNextEpoch: what it computes is always true. -/
import Derived.Test.YtcbpfofkdipjhaaNEPGx0
import Derived.Test.YtcbpfofkdipjhaaNEPGx13
import Derived.Test.YtcbpfofkdipjhaaNELibEFnExactNextEpoch
import Derived.Test.YtcbpfofkdipjhaaNELibKFnExactNextEpoch
import Derived.Test.YtcbpfofkdipjhaaNETelG
namespace Go.Proofs.Ytcbpfofkdipjhaa.Pure
open Go.RowKit Go.Proofs.YtcbpfofkdipjhaaW.PrintWords Go.Proofs.YtcbpfofkdipjhaaW.PrintLast Go.Proofs.YtcbpfofkdipjhaaW.PrintMore Go.Proofs.Ytcbpfofkdipjhaa.Base Go.Proofs.Ytcbpfofkdipjhaa.PG
set_option linter.unusedVariables false
set_option linter.unusedSimpArgs false
theorem nextL_bd (n : Int) {l : List S63} (hb : ∀ s ∈ l, BdE s) : (nextL n l).2.length = l.length ∧ ∀ s ∈ (nextL n l).2, BdE s := by
  unfold nextL
  split
  · split
    · exact ⟨List.length_map _, on_bd _ hb⟩
    · exact ⟨rfl, hb⟩
  · exact ⟨rfl, hb⟩
theorem FnExactNextEpoch : ∀ (x0_0 : Int) (x0_1 : (List S125)), ((Lit.int .i64 x0_0).wf = true) → (x0_1.length ≤ maxLen ∧ ∀ x ∈ x0_1, ok125 x) → ∃ k, laws_FnExactNextEpoch.f k x0_0 x0_1 = some true := by
  intro n l _ hw
  have g1 : l.length ≤ 9223372036854775807 := hw.1
  have g2 : ∀ s ∈ l, s.f0.size ≤ 9223372036854775807 ∧ s.f4.length ≤ 9223372036854775807 := by
    intro s hs
    have := hw.2 s hs
    unfold ok125 at this
    exact ⟨this.1, this.2.2.2.2.1⟩
  refine Ev.rounds (g := fun k => laws_FnExactNextEpoch.f k n l) ?_
  simp only [laws_FnExactNextEpoch.f, laws_FnExactNextEpoch.h, laws_szLedger.f]
  obtain ⟨r, hr, hp⟩ := szAcctS_ev l g1 g2
  by_cases hneg : r < 0
  · exact Ev.bind (Ev.bind hr (evPos hneg (Ev.now _))) (evPos (by omega) (Ev.now _))
  · have hp' := hp.resolve_left hneg
    have ht0 := toAcctS_ev l (by omega) (fun s hs => by have := hp'.2 s hs; omega)
    have ht : Ev (fun k => laws_toLedger.f k n l) (n, l.map cvA) := by
      simp only [laws_toLedger.f]
      exact Ev.bind ht0 (Ev.now _)
    have hlm : (l.map cvA).length = l.length := List.length_map _
    have hsm : ∀ s ∈ l.map cvA, BdE s := by
      intro s hs
      obtain ⟨z, hz, rfl⟩ := List.mem_map.1 hs
      have := hp'.2 z hz
      unfold BdE
      simp only [cvA, List.length_map]
      omega
    have hs := sNext_ev n (l.map cvA) (by omega) hsm
    have hi := iNext_ev n (l.map cvA) (by omega) hsm
    obtain ⟨hnl, hnb⟩ := nextL_bd n hsm
    generalize nextL n (l.map cvA) = R at hs hi hnl hnb
    have hq : ∀ (m : Int) (x : List S63), x.length ≤ 1100000 → (∀ s ∈ x, BdE s) → Ev (fun k => laws_eqLedger.f k m x m x) true := by
      intro m x hx hb
      simp only [laws_eqLedger.f]
      exact evPos trivial (Ev.bind (eqAcctS_ev x (by omega) (fun s hs => by have := (hb s hs).2; omega)) (evPos rfl (Ev.now _)))
    have hm0 := endA_one (l.map cvA) (by omega) (fun s hs => by have := (hsm s hs).2; omega)
    have hm1 := endA_one R.2 (by omega) (fun s hs => by have := (hnb s hs).2; omega)
    have h0 := markA_ev (l.map cvA) 1 (by decide) hm0.2
    have h1 := markA_ev R.2 1 (by decide) hm1.2
    have h2 := heldA_ev R.2 1 (by omega) (by decide) hm1.2
    have h3 : Ev (fun k => laws_heldLedger.f k R.1 (mkA R.2 1) 1) (endA R.2 1) := by
      simp only [laws_heldLedger.f]
      exact Ev.bind h2 (evNeg (by omega) (Ev.now _))
    refine Ev.bind (Ev.bind hr (evNeg hneg (Ev.now _))) (evNeg hneg (Ev.bind ht (Ev.bind hs (Ev.bind hi (Ev.bind (hq R.1 R.2 (by omega) hnb) (Ev.bind (hq n (l.map cvA) (by omega) hsm) (Ev.bind h0 (Ev.bind h1 (Ev.bind h3 (evPos ?_ (Ev.now _)))))))))))
    simp only [Bool.true_and, Bool.and_eq_true, decide_eq_true_eq]
    refine ⟨by omega, by omega, ?_⟩
    first | rfl | trivial
end Go.Proofs.Ytcbpfofkdipjhaa.Pure
