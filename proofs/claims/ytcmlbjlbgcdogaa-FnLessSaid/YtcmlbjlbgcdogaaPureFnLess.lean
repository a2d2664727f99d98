/- The plain law of FnLess: what it computes is always true. -/
import Derived.Test.YtcmlbjlbgcdogaaPEx0
import Derived.Test.YtcmlbjlbgcdogaaPEx4
import Derived.Test.YtcmlbjlbgcdogaaLibDFnLess
import Derived.Test.YtcmlbjlbgcdogaaTelE
namespace Go.Proofs.Ytcmlbjlbgcdogaa.Pure
open Go.RowKit Go.Proofs.YtcmlbjlbgcdogaaW.PrintWords Go.Proofs.YtcmlbjlbgcdogaaW.PrintLast Go.Proofs.YtcmlbjlbgcdogaaW.PrintMore Go.Proofs.Ytcmlbjlbgcdogaa.Base Go.Proofs.Ytcmlbjlbgcdogaa.PE
set_option linter.unusedVariables false
theorem big_eq (l : List Int) : laws_big.f l = some (decide ((l.length : Int) > 1048576)) := rfl
def neq (k1 : Int) (f1 t1 : ByteArray) (a1 n1 k2 : Int) (f2 t2 : ByteArray) (a2 n2 : Int) : Bool := !(k1 == k2) || (!(f1.toList == f2.toList) || (!(t1.toList == t2.toList) || (!(a1 == a2) || (!(n1 == n2)))))
theorem less_law (k1 : Int) (f1 t1 : ByteArray) (a1 n1 k2 : Int) (f2 t2 : ByteArray) (a2 n2 : Int) :
    (txLess k1 f1 t1 a1 n1 k2 f2 t2 a2 n2 = true → txLess k2 f2 t2 a2 n2 k1 f1 t1 a1 n1 = false ∧ neq k1 f1 t1 a1 n1 k2 f2 t2 a2 n2 = true) ∧
    (txLess k1 f1 t1 a1 n1 k2 f2 t2 a2 n2 = false → txLess k2 f2 t2 a2 n2 k1 f1 t1 a1 n1 = neq k1 f1 t1 a1 n1 k2 f2 t2 a2 n2) := by
  have hS : ∀ a b : ByteArray, (a.toList == b.toList) = decide (a = b) := by
    intro a b
    rw [Bool.eq_iff_iff]
    simp [tl_inj]
  have hI : ∀ a b : Int, (a == b) = decide (a = b) := fun a b => rfl
  unfold txLess neq
  rw [hS, hS]
  by_cases h1 : f1 = f2
  · subst h1
    by_cases h2 : n1 = n2
    · subst h2
      by_cases h3 : k1 = k2
      · subst h3
        by_cases h4 : t1 = t2
        · subst h4
          refine ⟨fun h => ?_, fun h => ?_⟩
          · simp [hI] at h ⊢
            omega
          · simp only [hI] at h ⊢
            rw [Bool.eq_iff_iff]
            simp at h ⊢
            omega
        · have h4' : ¬ t2 = t1 := fun e => h4 e.symm
          have := bl_ne h4
          simp [h4, h4', this]
      · have h3' : ¬ k2 = k1 := fun e => h3 e.symm
        refine ⟨fun h => ?_, fun h => ?_⟩
        · simp [h3, h3'] at h ⊢
          omega
        · simp [h3, h3', hI] at h ⊢
          omega
    · have h2' : ¬ n2 = n1 := fun e => h2 e.symm
      refine ⟨fun h => ?_, fun h => ?_⟩
      · simp [h2, h2', hI] at h ⊢
        omega
      · simp [h2, h2', hI] at h ⊢
        omega
  · have h1' : ¬ f2 = f1 := fun e => h1 e.symm
    have := bl_ne h1
    simp [h1, h1', this]
theorem FnLess : ∀ (l0 : (List Int)), (l0.length ≤ maxLen ∧ ∀ x ∈ l0, (Lit.int .u8 x).wf = true) → ∃ k, laws_FnLess.f k l0 = some true := by
  intro l0 hw
  refine Ev.rounds (g := fun k => laws_FnLess.f k l0) ?_
  simp only [laws_FnLess.f]
  refine evBindC (big_eq l0) ?_
  by_cases hbig : (l0.length : Int) > 1048576
  · exact evPos (by simpa using hbig) (Ev.now _)
  · obtain ⟨⟨k1, f1, t1, a1, n1, k2, f2, t2, a2, n2⟩, hd⟩ := DrawTxLess_ev l0 (AllB.of_wf hw.2) (by omega)
    refine evNeg (by simpa using hbig) (Ev.bind hd (Ev.bind (iTxLess_ev k1 f1 t1 a1 n1 k2 f2 t2 a2 n2) (Ev.bind (iTxLess_ev k2 f2 t2 a2 n2 k1 f1 t1 a1 n1) (evBindC (sTxLess_eq k1 f1 t1 a1 n1 k2 f2 t2 a2 n2) (evPos (by simp) ?_)))))
    obtain ⟨L1, L2⟩ := less_law k1 f1 t1 a1 n1 k2 f2 t2 a2 n2
    cases hx : txLess k1 f1 t1 a1 n1 k2 f2 t2 a2 n2 with
    | true =>
      have h := L1 hx
      refine evPos rfl (evNeg (by rw [h.1]; simp) (evEq (Ev.now _) ?_))
      exact congrArg (fun b => (true == b)) h.2
    | false =>
      have h := L2 hx
      refine evNeg (by simp) (evEq (Ev.now _) ?_)
      show (_ == neq k1 f1 t1 a1 n1 k2 f2 t2 a2 n2) = true
      rw [h]
      exact beq_self_eq_true _
end Go.Proofs.Ytcmlbjlbgcdogaa.Pure
