/- The plain law of FnRoots: what it computes is always true. -/
import Derived.Test.YtgbbgdlenadhlaaPKx0
import Derived.Test.YtgbbgdlenadhlaaPKx3
import Derived.Test.YtgbbgdlenadhlaaLibTFnRoots
import Derived.Test.YtgbbgdlenadhlaaLibLFnRoots
import Derived.Test.YtgbbgdlenadhlaaTelK
namespace Go.Proofs.Ytgbbgdlenadhlaa.Pure
open Go.RowKit Go.Proofs.YtgbbgdlenadhlaaW.PrintWords Go.Proofs.YtgbbgdlenadhlaaW.PrintLast Go.Proofs.YtgbbgdlenadhlaaW.PrintMore Go.Proofs.Ytgbbgdlenadhlaa.Base Go.Proofs.Ytgbbgdlenadhlaa.PK
set_option linter.unusedVariables false
set_option linter.unusedSimpArgs false
theorem roots_loop (l : List ByteArray) (h2 : 2 ≤ l.length) (h9 : l.length ≤ 9) (hz : ∀ s ∈ l, s.size ≤ 3) : ∀ (f k0 : Nat), 1 ≤ k0 → k0 < l.length → l.length ≤ k0 + f → Sha.halfF f l.length k0 = Sha.halfN l.length → Ev (fun k => laws_FnRoots.l0 k l (k0 : Int)) true := by
  intro f
  have fin : ∀ k0, k0 = Sha.halfN l.length → Ev (fun k => (impl_RootOf.f k l).bind fun t206 => (if 0 ≤ (k0 : Int) then (if (k0 : Int) ≤ (l.length : Int) then ((impl_RootOf.f k (l.take (k0 : Int).toNat)).bind fun t211 => ((impl_RootOf.f k (l.drop (k0 : Int).toNat)).bind fun t216 => ((impl_NodeDigest.f k t211 t216).bind fun t217 => (some (t206.toList == t217.toList))))) else (none)) else (none))) true := by
    intro k0 hk
    have hb := Sha.halfN_bd h2
    have hz' : ∀ s ∈ l, s.size ≤ 140000000 := fun s h => by have := hz s h; omega
    have r1 := iRootOf_ev l (by omega) hz'
    have r2 := iRootOf_ev (l.take k0) (by rw [List.length_take]; omega) (fun s h => hz' s (List.mem_of_mem_take h))
    have r3 := iRootOf_ev (l.drop k0) (by rw [List.length_drop]; omega) (fun s h => hz' s (List.mem_of_mem_drop h))
    have e1 : Sha.rootOfL l = Sha.rootL l := by unfold Sha.rootOfL; rw [if_neg (by omega)]
    have e2 : Sha.rootOfL (l.take k0) = Sha.rootL (l.take k0) := by unfold Sha.rootOfL; rw [if_neg (by rw [List.length_take]; omega)]
    have e3 : Sha.rootOfL (l.drop k0) = Sha.rootL (l.drop k0) := by unfold Sha.rootOfL; rw [if_neg (by rw [List.length_drop]; omega)]
    rw [e1] at r1
    rw [e2] at r2
    rw [e3] at r3
    have hn := iNode_ev (Sha.rootL (l.take k0)) (Sha.rootL (l.drop k0)) (by rw [Sha.rootL_size, Sha.rootL_size]; omega)
    refine Ev.bind r1 (evPos (by omega) (evPos (by omega) (Ev.bind r2 (Ev.bind r3 (Ev.bind hn (evEq (Ev.now _) ?_))))))
    rw [Sha.rootL_two h2, ← hk]
    simp
  induction f with
  | zero => intro k0 h1 hk hf; omega
  | succ f ih =>
    intro k0 h1 hk hf he
    have e1 : wrap64 (2 * (k0 : Int)) = ((2 * k0 : Nat) : Int) := by rw [w64 (by omega) (by omega)]; omega
    rw [Sha.halfF] at he
    by_cases h : 2 * k0 < l.length
    · rw [if_pos h] at he
      refine Ev.step (fun k => ?_) (ih (2 * k0) (by omega) h (by omega) he)
      simp only [laws_FnRoots.l0]
      rw [e1, if_pos (by omega)]
    · rw [if_neg h] at he
      refine Ev.step (fun k => ?_) (fin k0 he)
      simp only [laws_FnRoots.l0]
      rw [e1, if_neg (by omega)]
theorem FnRoots : ∀ (l0 : (List Int)), (l0.length ≤ maxLen ∧ ∀ x ∈ l0, (Lit.int .u8 x).wf = true) → ∃ k, laws_FnRoots.f k l0 = some true := by
  intro l0 hw
  refine Ev.rounds (g := fun k => laws_FnRoots.f k l0) ?_
  simp only [laws_FnRoots.f]
  refine evBindC (show laws_big.f l0 = some (decide ((l0.length : Int) > 1048576)) from rfl) ?_
  by_cases hbig : (l0.length : Int) > 1048576
  · exact evPos (by simpa using hbig) (Ev.now _)
  · obtain ⟨l, i, hd, h1, h9, i0, i1, hz⟩ := DrawLeaves_ev l0 (AllB.of_wf hw.2) (by omega)
    have hz' : ∀ s ∈ l, s.size ≤ 140000000 := fun s h => by have := hz s h; omega
    have hr := iRootOf_ev l (by omega) hz'
    have e1 : Sha.rootOfL l = Sha.rootL l := by unfold Sha.rootOfL; rw [if_neg (by omega)]
    rw [e1] at hr
    refine evNeg (by simpa using hbig) (Ev.bind hd (Ev.bind hr (evPos (by rw [Sha.rootL_size]; rfl) ?_)))
    by_cases hone : l.length = 1
    · have e0 : rdOf ByteArray.empty l 0 = l[0] := Sha.rdSat (xs := l) (i := 0) (by omega)
      have hleaf := iLeaf_ev (rdOf ByteArray.empty l 0) (by rw [e0]; have := hz _ (List.getElem_mem (l := l) (n := 0) (by omega)); omega)
      refine evPos (by dsimp only; omega) (Ev.bind hr (evPos (by dsimp only; omega) (Ev.bind hleaf (evEq (Ev.now _) ?_))))
      rw [Sha.rootL_one hone]
      simp
    · exact evNeg (by dsimp only; omega) (roots_loop l (by omega) h9 hz l.length 1 (by omega) (by omega) (by omega) rfl)
end Go.Proofs.Ytgbbgdlenadhlaa.Pure
