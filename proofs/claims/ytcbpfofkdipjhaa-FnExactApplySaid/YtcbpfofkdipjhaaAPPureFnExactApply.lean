/- The plain law of FnExactApply: what it computes is always true. -/
import Derived.Test.YtcbpfofkdipjhaaAPPLx0
import Derived.Test.YtcbpfofkdipjhaaAPPLx18
import Derived.Test.YtcbpfofkdipjhaaAPLibRFnExactApply
import Derived.Test.YtcbpfofkdipjhaaAPLibKFnExactApply
import Derived.Test.YtcbpfofkdipjhaaAPLibMFnExactApply
import Derived.Test.YtcbpfofkdipjhaaAPTelL
namespace Go.Proofs.Ytcbpfofkdipjhaa.Pure
open Go.RowKit Go.Proofs.YtcbpfofkdipjhaaW.PrintWords Go.Proofs.YtcbpfofkdipjhaaW.PrintLast Go.Proofs.YtcbpfofkdipjhaaW.PrintMore Go.Proofs.Ytcbpfofkdipjhaa.Base Go.Proofs.Ytcbpfofkdipjhaa.PL
set_option linter.unusedVariables false
set_option linter.unusedSimpArgs false
theorem FnExactApply : ∀ (x0_0 : Int) (x0_1 : (List S125)) (x1_0 : Int) (x1_1 : ByteArray) (x1_2 : ByteArray) (x1_3 : Int) (x1_4 : Int), ((Lit.int .i64 x0_0).wf = true) → (x0_1.length ≤ maxLen ∧ ∀ x ∈ x0_1, ok125 x) → ((Lit.int .i64 x1_0).wf = true) → (x1_1.size ≤ maxLen) → (x1_2.size ≤ maxLen) → ((Lit.int .i64 x1_3).wf = true) → ((Lit.int .i64 x1_4).wf = true) → ∃ k, laws_FnExactApply.f k x0_0 x0_1 x1_0 x1_1 x1_2 x1_3 x1_4 = some true := by
  intro n l kd fr tt am no _ hw _ hfr htt _ _
  have g1 : l.length ≤ 9223372036854775807 := hw.1
  have g2 : ∀ s ∈ l, s.f0.size ≤ 9223372036854775807 ∧ s.f4.length ≤ 9223372036854775807 := by
    intro s hs
    have := hw.2 s hs
    unfold ok125 at this
    exact ⟨this.1, this.2.2.2.2.1⟩
  have g3 : fr.size ≤ 9223372036854775807 := hfr
  have g4 : tt.size ≤ 9223372036854775807 := htt
  refine Ev.rounds (g := fun k => laws_FnExactApply.f k n l kd fr tt am no) ?_
  simp only [laws_FnExactApply.f, laws_FnExactApply.h, laws_szLedger.f]
  obtain ⟨r, hr, hp⟩ := szAcctS_ev l g1 g2
  by_cases hneg : r < 0
  · exact Ev.bind (Ev.bind hr (evPos hneg (Ev.now _))) (evPos (by omega) (Ev.now _))
  · have hp' := hp.resolve_left hneg
    refine Ev.bind (Ev.bind hr (evNeg hneg (Ev.now _))) (evNeg hneg ?_)
    have htop := szTop l g1 g2 hr
    obtain ⟨r2, hr2, hp2⟩ := szTx_eq kd fr tt am no r g3 g4 (by omega) (by omega)
    refine evBindC hr2 ?_
    by_cases hneg2 : r2 < 0
    · exact evPos hneg2 (Ev.now _)
    · have hp2' := hp2.resolve_left hneg2
      refine evNeg hneg2 ?_
      have ht0 := toAcctS_ev l (by omega) (fun s hs => by have := hp'.2 s hs; omega)
      have ht : Ev (fun k => laws_toLedger.f k n l) (n, l.map cvA) := by
        simp only [laws_toLedger.f]
        exact Ev.bind ht0 (Ev.now _)
      have hlm : (l.map cvA).length = l.length := List.length_map _
      have hsm : ∀ s ∈ l.map cvA, BdE s := by
        intro s hs
        obtain ⟨z, hz, rfl⟩ := List.mem_map.1 hs
        have := hp'.2 z hz
        unfold BdE
        simp only [cvA, List.length_map]
        omega
      have hs := sApply_ev n (l.map cvA) kd fr tt am no (by omega) hsm (by omega) (by omega)
      have hi := iApply_ev n (l.map cvA) kd fr tt am no (by omega) hsm (by omega) (by omega)
      obtain ⟨hnl, hnb⟩ := applyL_bd n (l.map cvA) kd fr tt am no hsm (by omega)
      generalize applyL n (l.map cvA) kd fr tt am no = R at hs hi hnl hnb
      have hq : ∀ (m : Int) (x : List S63), x.length ≤ 1100000 → (∀ s ∈ x, BdE s) → Ev (fun k => laws_eqLedger.f k m x m x) true := by
        intro m x hx hb
        simp only [laws_eqLedger.f]
        exact evPos trivial (Ev.bind (eqAcctS_ev x (by omega) (fun s hs => by have := (hb s hs).2; omega)) (evPos rfl (Ev.now _)))
      have hm0 := endA_one (l.map cvA) (by omega) (fun s hs => by have := (hsm s hs).2; omega)
      have hm1 := endA_one R.2.1 (by omega) (fun s hs => by have := (hnb s hs).2; omega)
      have h0 := markA_ev (l.map cvA) 1 (by decide) hm0.2
      have h1 := markA_ev R.2.1 1 (by decide) hm1.2
      have h2 := heldA_ev R.2.1 1 (by omega) (by decide) hm1.2
      have h3 : Ev (fun k => laws_heldLedger.f k R.1 (mkA R.2.1 1) 1) (endA R.2.1 1) := by
        simp only [laws_heldLedger.f]
        exact Ev.bind h2 (evNeg (by omega) (Ev.now _))
      refine Ev.bind ht (evBindC (a := (kd, fr, tt, am, no)) rfl (Ev.bind hs (Ev.bind hi (Ev.bind (hq R.1 R.2.1 (by omega) hnb) (Ev.bind (hq n (l.map cvA) (by omega) hsm) (Ev.bind h0 (Ev.bind h1 (Ev.bind h3 (evPos ?_ (Ev.now _))))))))))
      simp only [Bool.true_and, Bool.and_eq_true, decide_eq_true_eq]
      refine ⟨trivial, by omega, by omega, ?_⟩
      first | rfl | trivial
end Go.Proofs.Ytcbpfofkdipjhaa.Pure
