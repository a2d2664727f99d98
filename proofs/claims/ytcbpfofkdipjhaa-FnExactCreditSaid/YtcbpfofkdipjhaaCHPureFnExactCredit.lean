/- The plain law of FnExactCredit: what it computes is always true. -/
import Derived.Test.YtcbpfofkdipjhaaCHPHx0
import Derived.Test.YtcbpfofkdipjhaaCHPHx12
import Derived.Test.YtcbpfofkdipjhaaCHLibQFnExactCredit
import Derived.Test.YtcbpfofkdipjhaaCHLibKFnExactCredit
import Derived.Test.YtcbpfofkdipjhaaCHTelH
namespace Go.Proofs.Ytcbpfofkdipjhaa.Pure
open Go.RowKit Go.Proofs.YtcbpfofkdipjhaaW.PrintWords Go.Proofs.YtcbpfofkdipjhaaW.PrintLast Go.Proofs.YtcbpfofkdipjhaaW.PrintMore Go.Proofs.Ytcbpfofkdipjhaa.Base Go.Proofs.Ytcbpfofkdipjhaa.PH
set_option linter.unusedVariables false
set_option linter.unusedSimpArgs false
theorem creditL_bd (l : List S63) (nm : ByteArray) (n : Int) (hb : ∀ s ∈ l, BdE s) (hn : nm.size ≤ 1048576) : (creditL l nm n).1.length ≤ l.length + 1 ∧ ∀ s ∈ (creditL l nm n).1, BdE s := by
  unfold creditL
  split
  · exact ⟨addL_len l nm n, addL_bd n hb hn⟩
  · exact ⟨Nat.le_succ _, hb⟩
theorem FnExactCredit : ∀ (l0 : (List S125)) (a1 : ByteArray) (a2 : Int), (l0.length ≤ maxLen ∧ ∀ x ∈ l0, ok125 x) → (a1.size ≤ maxLen) → ((Lit.int .i64 a2).wf = true) → ∃ k, laws_FnExactCredit.f k l0 a1 a2 = some true := by
  intro l nm n hw _ _
  have g1 : l.length ≤ 9223372036854775807 := hw.1
  have g2 : ∀ s ∈ l, s.f0.size ≤ 9223372036854775807 ∧ s.f4.length ≤ 9223372036854775807 := by
    intro s hs
    have := hw.2 s hs
    unfold ok125 at this
    exact ⟨this.1, this.2.2.2.2.1⟩
  refine Ev.rounds (g := fun k => laws_FnExactCredit.f k l nm n) ?_
  simp only [laws_FnExactCredit.f, laws_FnExactCredit.h]
  by_cases hbig : (nm.size : Int) > 1048576
  · exact evPos hbig (Ev.now _)
  refine evNeg hbig ?_
  obtain ⟨r, hr, hp⟩ := szAcctS_ev l g1 g2
  refine Ev.bind hr ?_
  by_cases hneg : r < 0
  · exact evPos hneg (Ev.now _)
  · have hp' := hp.resolve_left hneg
    have ht := toAcctS_ev l (by omega) (fun s hs => by have := hp'.2 s hs; omega)
    have hlm : (l.map cvA).length = l.length := List.length_map _
    have hsm : ∀ s ∈ l.map cvA, BdE s := by
      intro s hs
      obtain ⟨z, hz, rfl⟩ := List.mem_map.1 hs
      have := hp'.2 z hz
      unfold BdE
      simp only [cvA, List.length_map]
      omega
    have hs := sCredit_ev (l.map cvA) nm n (by omega) hsm (by omega)
    have hi := iCredit_ev (l.map cvA) nm n (by omega) hsm (by omega)
    obtain ⟨hnl, hnb⟩ := creditL_bd (l.map cvA) nm n hsm (by omega)
    generalize creditL (l.map cvA) nm n = R at hs hi hnl hnb
    have hq : ∀ (x : List S63), x.length ≤ 1100000 → (∀ s ∈ x, BdE s) → Ev (fun k => laws_eqAcctS.f k x x) true := fun x hx hb => eqAcctS_ev x (by omega) (fun s hs => by have := (hb s hs).2; omega)
    have hm0 := endA_one (l.map cvA) (by omega) (fun s hs => by have := (hsm s hs).2; omega)
    have hm1 := endA_one R.1 (by omega) (fun s hs => by have := (hnb s hs).2; omega)
    have h0 := markA_ev (l.map cvA) 1 (by decide) hm0.2
    have h1 := markA_ev R.1 1 (by decide) hm1.2
    have h2 := heldA_ev R.1 1 (by omega) (by decide) hm1.2
    refine evNeg hneg (Ev.bind ht (Ev.bind hs (Ev.bind hi (Ev.bind (hq R.1 (by omega) hnb) (Ev.bind (hq (l.map cvA) (by omega) hsm) (Ev.bind h0 (Ev.bind h1 (Ev.bind h2 (evPos ?_ (Ev.now _))))))))))
    simp only [Bool.true_and, Bool.and_eq_true, decide_eq_true_eq]
    refine ⟨trivial, by omega, by omega, ?_⟩
    first | rfl | trivial
end Go.Proofs.Ytcbpfofkdipjhaa.Pure
