/- The plain law of FnPaths: what it computes is always true. -/
import Derived.Test.YtgbbgdlenadhlaaPEx0
import Derived.Test.YtgbbgdlenadhlaaPEx4
import Derived.Test.YtgbbgdlenadhlaaLibTFnPaths
import Derived.Test.YtgbbgdlenadhlaaLibLFnPaths
import Derived.Test.YtgbbgdlenadhlaaTelE
namespace Go.Proofs.Ytgbbgdlenadhlaa.Pure
open Go.RowKit Go.Proofs.YtgbbgdlenadhlaaW.PrintWords Go.Proofs.YtgbbgdlenadhlaaW.PrintLast Go.Proofs.YtgbbgdlenadhlaaW.PrintMore Go.Proofs.Ytgbbgdlenadhlaa.Base Go.Proofs.Ytgbbgdlenadhlaa.PE
set_option linter.unusedVariables false
set_option linter.unusedSimpArgs false
theorem FnPaths : ∀ (l0 : (List Int)), (l0.length ≤ maxLen ∧ ∀ x ∈ l0, (Lit.int .u8 x).wf = true) → ∃ k, laws_FnPaths.f k l0 = some true := by
  intro l0 hw
  refine Ev.rounds (g := fun k => laws_FnPaths.f k l0) ?_
  simp only [laws_FnPaths.f]
  refine evBindC (show laws_big.f l0 = some (decide ((l0.length : Int) > 1048576)) from rfl) ?_
  by_cases hbig : (l0.length : Int) > 1048576
  · exact evPos (by simpa using hbig) (Ev.now _)
  · obtain ⟨l, i, hd, h1, h9, i0, i1, hz⟩ := DrawLeaves_ev l0 (AllB.of_wf hw.2) (by omega)
    obtain ⟨j, rfl⟩ := Int.eq_ofNat_of_zero_le i0
    have hj : j < l.length := by omega
    have hz' : ∀ s ∈ l, s.size ≤ 140000000 := fun s h => by have := hz s h; omega
    have hr := iRootOf_ev l (by omega) hz'
    have e1 : Sha.rootOfL l = Sha.rootL l := by unfold Sha.rootOfL; rw [if_neg (by omega)]
    rw [e1] at hr
    have hp := iPathOf_ev l (j : Int) (by omega) hz'
    have e2 : Sha.pathOfL l (j : Int) = Sha.pathL l j := by unfold Sha.pathOfL; rw [if_neg (by omega), if_pos (by omega), Int.toNat_natCast]
    rw [e2] at hp
    have hpl : (Sha.pathL l j).length ≤ l.length := Sha.pathF_len _ _ _
    have hps : ∀ x ∈ Sha.pathL l j, x.size ≤ 140000000 := fun x h => by have := Sha.pathF_size _ _ _ x h; omega
    have hs : (rdOf ByteArray.empty l (j : Int)).size ≤ 140000000 := by
      rw [Sha.rdSat hj]
      exact hz' _ (List.getElem_mem _)
    have hms : ∀ x ∈ Sha.pathL l j ++ [Sha.rootL l], x.size ≤ 140000000 := by
      intro x h
      rcases List.mem_append.1 h with h | h
      · exact hps x h
      · rw [List.mem_singleton.1 h, Sha.rootL_size]; omega
    have hcl := Sha.climb_path l.length l j (Nat.le_refl _) hj
    have k1 : Sha.checkL (rdOf ByteArray.empty l (j : Int)) (j : Int) (l.length : Int) (Sha.pathL l j) (Sha.rootL l) = true := by
      unfold Sha.checkL Sha.pathL
      rw [if_pos (by omega), Int.toNat_natCast, Int.toNat_natCast, hcl]
      simp
    have k2 : Sha.checkL (rdOf ByteArray.empty l (j : Int)) (j : Int) (l.length : Int) (Sha.pathL l j ++ [Sha.rootL l]) (Sha.rootL l) = false := by
      unfold Sha.checkL
      rw [if_pos (by omega), Int.toNat_natCast, Int.toNat_natCast]
      have := Sha.climb_len (rdOf ByteArray.empty l (j : Int)) l.length j l.length (Sha.pathF l.length l j) (Sha.pathL l j ++ [Sha.rootL l]) (by unfold Sha.pathL; simp) (by rw [hcl])
      rw [this]
      rfl
    have k3 : Sha.checkL (rdOf ByteArray.empty l (j : Int)) (l.length : Int) (l.length : Int) (Sha.pathL l j) (Sha.rootL l) = false := by
      unfold Sha.checkL
      rw [if_neg (by omega)]
    have c1 := iCheck_ev (rdOf ByteArray.empty l (j : Int)) hs (j : Int) (l.length : Int) (by omega) (by omega) (Sha.pathL l j) (by omega) hps (Sha.rootL l)
    have c2 := iCheck_ev (rdOf ByteArray.empty l (j : Int)) hs (j : Int) (l.length : Int) (by omega) (by omega) (Sha.pathL l j ++ [Sha.rootL l]) (by simp; omega) hms (Sha.rootL l)
    have c3 := iCheck_ev (rdOf ByteArray.empty l (j : Int)) hs (l.length : Int) (l.length : Int) (by omega) (by omega) (Sha.pathL l j) (by omega) hps (Sha.rootL l)
    rw [k1] at c1
    rw [k2] at c2
    rw [k3] at c3
    have c2' : Ev (fun k => impl_CheckPath.f k (rdOf ByteArray.empty l (j : Int)) (j : Int) (l.length : Int) (([] : List ByteArray) ++ Sha.pathL l j ++ [Sha.rootL l]) (Sha.rootL l)) false := by simpa using c2
    refine evNeg (by simpa using hbig) (Ev.bind hd (Ev.bind hp (Ev.bind hr (evBindC rfl (evPos (by simp; omega) (evBindC rfl (evPos (by simp; omega) (evPos (by dsimp only; omega) (evPos (by dsimp only; omega) (Ev.bind c1 (evPos rfl (Ev.bind c2' (evNeg (by simp) (Ev.bind c3 (evNeg (by simp) (evEq (Ev.now _) ?_))))))))))))))))
    rw [Sha.rootL_size]
    rfl
end Go.Proofs.Ytgbbgdlenadhlaa.Pure
