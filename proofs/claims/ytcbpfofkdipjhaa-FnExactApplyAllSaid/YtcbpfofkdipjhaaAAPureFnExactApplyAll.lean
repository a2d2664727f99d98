/- The plain law of FnExactApplyAll: what it computes is always true. -/
import Derived.Test.YtcbpfofkdipjhaaAAPJx0
import Derived.Test.YtcbpfofkdipjhaaAAPJx21
import Derived.Test.YtcbpfofkdipjhaaAALibUFnExactApplyAll
import Derived.Test.YtcbpfofkdipjhaaAATelJ
namespace Go.Proofs.Ytcbpfofkdipjhaa.Pure
open Go.RowKit Go.Proofs.YtcbpfofkdipjhaaW.PrintWords Go.Proofs.YtcbpfofkdipjhaaW.PrintLast Go.Proofs.YtcbpfofkdipjhaaW.PrintMore Go.Proofs.Ytcbpfofkdipjhaa.Base Go.Proofs.Ytcbpfofkdipjhaa.PJ
set_option linter.unusedVariables false
set_option linter.unusedSimpArgs false
theorem FnExactApplyAll : ∀ (x0_0 : Int) (x0_1 : (List S125)) (x1 : (List S26)), ((Lit.int .i64 x0_0).wf = true) → (x0_1.length ≤ maxLen ∧ ∀ x ∈ x0_1, ok125 x) → (x1.length ≤ maxLen ∧ ∀ x ∈ x1, ok26 x) → ∃ k, laws_FnExactApplyAll.f k x0_0 x0_1 x1 = some true := by
  intro n l ts _ hw hx;have g1 : l.length ≤ 9223372036854775807 := hw.1
  have g2 : ∀ s ∈ l, s.f0.size ≤ 9223372036854775807 ∧ s.f4.length ≤ 9223372036854775807 := by
    intro s hs;have := hw.2 s hs;unfold ok125 at this;exact ⟨this.1, this.2.2.2.2.1⟩
  have g3 : ts.length ≤ 9223372036854775807 := hx.1
  have g4 : ∀ s ∈ ts, s.f1.size ≤ 9223372036854775807 ∧ s.f2.size ≤ 9223372036854775807 := by
    intro s hs;have := hx.2 s hs;unfold ok26 at this;exact ⟨this.2.1, this.2.2.1⟩
  refine Ev.rounds (g := fun k => laws_FnExactApplyAll.f k n l ts) ?_;simp only [laws_FnExactApplyAll.f, laws_FnExactApplyAll.h, laws_szLedger.f];obtain ⟨r, hr, hp⟩ := szAcctS_ev l g1 g2
  by_cases hneg : r < 0
  · exact Ev.bind (Ev.bind hr (evPos hneg (Ev.now _))) (evPos (by omega) (Ev.now _))
  · have hp' := hp.resolve_left hneg
    refine Ev.bind (Ev.bind hr (evNeg hneg (Ev.now _))) (evNeg hneg ?_);have htop := szTop l g1 g2 hr;obtain ⟨r2, hr2, hp2⟩ := szTxS_ev ts r (by omega) htop g3 g4;refine Ev.bind hr2 ?_
    by_cases hneg2 : r2 < 0
    · exact evPos hneg2 (Ev.now _)
    · have hp2' := hp2.resolve_left hneg2
      refine evNeg hneg2 ?_;have ht0 := toAcctS_ev l (by omega) (fun s hs => by have := hp'.2 s hs; omega)
      have ht : Ev (fun k => laws_toLedger.f k n l) (n, l.map cvA) := by
        simp only [laws_toLedger.f];exact Ev.bind ht0 (Ev.now _)
      have htx := toTxS_ev ts (by omega);have hlm : (l.map cvA).length = l.length := List.length_map _;have hlx : (ts.map cvX).length = ts.length := List.length_map _
      have hsm : ∀ s ∈ l.map cvA, BdE s := by
        intro s hs;obtain ⟨z, hz, rfl⟩ := List.mem_map.1 hs;have := hp'.2 z hz;unfold BdE;simp only [cvA, List.length_map]
        omega
      have hsx : ∀ s ∈ ts.map cvX, TxE s := by
        intro s hs;obtain ⟨z, hz, rfl⟩ := List.mem_map.1 hs;exact hp2'.2 z hz
      have hs := sAll_ev n (l.map cvA) (ts.map cvX) (by omega) hsx (by omega) hsm;have hi := iAll_ev n (l.map cvA) (ts.map cvX) (by omega) hsx (by omega) hsm;obtain ⟨hnl, hnb⟩ := allL_bd n (ts.map cvX) (l.map cvA) 0 (by omega) hsm
      generalize allL n (ts.map cvX) (l.map cvA) 0 = R at hs hi hnl hnb
      have hq : ∀ (m : Int) (x : List S63), x.length ≤ 1100000 → (∀ s ∈ x, BdE s) → Ev (fun k => laws_eqLedger.f k m x m x) true := by
        intro m x hx hb;simp only [laws_eqLedger.f];exact evPos trivial (Ev.bind (eqAcctS_ev x (by omega) (fun s hs => by have := (hb s hs).2; omega)) (evPos rfl (Ev.now _)))
      have hq3 := eqTxS_ev (ts.map cvX) (by omega);have hm0 := endA_one (l.map cvA) (by omega) (fun s hs => by have := (hsm s hs).2; omega);have hm1 := endA_one R.1 (by omega) (fun s hs => by have := (hnb s hs).2; omega);have h0 := markA_ev (l.map cvA) 1 (by decide) hm0.2;have hme := endA_le 1048576 (l.map cvA) 1 (fun s hs => (hsm s hs).2);have h1 := markA_ev R.1 1 (by decide) hm1.2;have h2 := heldA_ev R.1 1 (by omega) (by decide) hm1.2
      have hme2 : endA (l.map cvA) 1 ≤ 8000000000000 := by
        have h3 : ((l.map cvA).length : Int) * (4 + 2 * ((1048576 : Nat) : Int)) ≤ 1048576 * (4 + 2 * ((1048576 : Nat) : Int)) := Int.mul_le_mul_of_nonneg_right (by omega) (by decide)
        have h4 : (1048576 : Int) * (4 + 2 * ((1048576 : Nat) : Int)) ≤ 3000000000000 := by decide
        omega
      obtain ⟨y, hmx⟩ := markTxS_ev (ts.map cvX) (endA (l.map cvA) 1) (by omega) hme2 (by omega)
      have h3 : Ev (fun k => laws_heldLedger.f k n (mkA R.1 1) 1) (endA R.1 1) := by
        simp only [laws_heldLedger.f];exact Ev.bind h2 (evNeg (by omega) (Ev.now _))
      refine Ev.bind ht (Ev.bind htx (Ev.bind hs (Ev.bind hi (Ev.bind (hq n R.1 (by omega) hnb) (Ev.bind (hq n (l.map cvA) (by omega) hsm) (Ev.bind hq3 (Ev.bind h0 (Ev.bind hmx (Ev.bind h1 (Ev.bind h3 (evPos ?_ (Ev.now _))))))))))));simp only [Bool.true_and, Bool.and_eq_true, decide_eq_true_eq];refine ⟨trivial, by omega, by omega, ?_⟩
      first | rfl | trivial
end Go.Proofs.Ytcbpfofkdipjhaa.Pure
