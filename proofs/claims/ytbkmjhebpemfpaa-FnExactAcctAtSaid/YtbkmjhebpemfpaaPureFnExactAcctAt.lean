/- The plain law of FnExactAcctAt: what it computes is always true. -/
import Derived.Test.YtbkmjhebpemfpaaPFx0
import Derived.Test.YtbkmjhebpemfpaaPFx3
import Derived.Test.YtbkmjhebpemfpaaLibAFnExactAcctAt
import Derived.Test.YtbkmjhebpemfpaaTelF
namespace Go.Proofs.Ytbkmjhebpemfpaa.Pure
open Go.RowKit Go.Proofs.YtbkmjhebpemfpaaW.PrintWords Go.Proofs.YtbkmjhebpemfpaaW.PrintLast Go.Proofs.YtbkmjhebpemfpaaW.PrintMore Go.Proofs.Ytbkmjhebpemfpaa.Base Go.Proofs.Ytbkmjhebpemfpaa.PF
set_option linter.unusedVariables false
theorem sAcctAt_l (l : List S38) (nm : ByteArray) (h : l.length ≤ 281474976710656) : ∀ (d i : Nat), i + d = l.length → Ev (fun k => spec_AcctAt.l0 k l nm (i : Int)) (atFrom l nm d i) := by
  intro d
  induction d with
  | zero =>
    intro i hi
    refine evOne fun k => ?_
    simp only [spec_AcctAt.l0, atFrom]
    rw [if_neg (by omega)]
  | succ d ih =>
    intro i hi
    by_cases hq : (rd_T38 l (i : Int)).f0.toList = nm.toList
    · refine evOne fun k => ?_
      simp only [spec_AcctAt.l0, atFrom]
      rw [if_pos (by omega), if_pos (by omega), if_pos hq, if_pos (by simpa using hq)]
    · refine Ev.step (f := fun k => spec_AcctAt.l0 k l nm ((i + 1 : Nat) : Int)) (fun k => ?_) (evEq (ih (i + 1) (by omega)) ?_)
      · simp only [spec_AcctAt.l0]
        rw [if_pos (by omega), if_pos (by omega), if_neg hq, w64 (by omega) (by omega)]
        rfl
      · conv => rhs; unfold atFrom
        rw [if_neg (by simpa using hq)]
theorem FnExactAcctAt : ∀ (l0 : (List S33)) (a1 : ByteArray), (l0.length ≤ maxLen ∧ ∀ x ∈ l0, ok33 x) → (a1.size ≤ maxLen) → ∃ k, laws_FnExactAcctAt.f k l0 a1 = some true := by
  intro l nm hw _
  have g1 : l.length ≤ 9223372036854775807 := hw.1
  have g2 : ∀ s ∈ l, s.f0.size ≤ 9223372036854775807 ∧ s.f4.length ≤ 9223372036854775807 := by
    intro s hs
    have := hw.2 s hs
    unfold ok33 at this
    exact ⟨this.1, this.2.2.2.2.1⟩
  refine Ev.rounds (g := fun k => laws_FnExactAcctAt.f k l nm) ?_
  simp only [laws_FnExactAcctAt.f]
  by_cases hbig : (nm.size : Int) > 1048576
  · exact evPos hbig (Ev.now _)
  refine evNeg hbig ?_
  obtain ⟨r, hr, hp⟩ := szAcctS_ev l g1 g2
  refine Ev.bind hr ?_
  by_cases hneg : r < 0
  · exact evPos hneg (Ev.now _)
  · have hp' := hp.resolve_left hneg
    have ht := toAcctS_ev l (by omega) (fun s hs => by have := hp'.2 s hs; omega)
    have hlm : (l.map cvA).length = l.length := List.length_map _
    have hsm : ∀ s ∈ l.map cvA, s.f4.length ≤ 281474976710656 := by
      intro s hs
      obtain ⟨z, hz, rfl⟩ := List.mem_map.1 hs
      have := hp'.2 z hz
      simp only [cvA, List.length_map]
      omega
    have hs : Ev (fun k => spec_AcctAt.f k (l.map cvA) nm) (atFrom (l.map cvA) nm (l.map cvA).length 0) := sAcctAt_l (l.map cvA) nm (by omega) (l.map cvA).length 0 (by omega)
    have hi : impl_AcctAt.f (l.map cvA) nm = some (atFrom (l.map cvA) nm (l.map cvA).length 0) := rfl
    have hq := eqAcctS_ev (l.map cvA) (by omega) hsm
    exact evNeg hneg (Ev.bind ht (Ev.bind hs (Ev.bind ht (evBindC hi (evPos rfl (Ev.bind ht (Ev.bind hq (evPos rfl (Ev.now _)))))))))
end Go.Proofs.Ytbkmjhebpemfpaa.Pure
