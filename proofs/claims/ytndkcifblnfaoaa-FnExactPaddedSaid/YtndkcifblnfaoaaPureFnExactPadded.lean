/- The plain law of FnExactPadded: what it computes is always true. -/
import Derived.Test.YtndkcifblnfaoaaPDx0
import Derived.Test.YtndkcifblnfaoaaPDx2
import Derived.Test.YtndkcifblnfaoaaLibDFnExactPadded
import Derived.Test.YtndkcifblnfaoaaTelD
namespace Go.Proofs.Ytndkcifblnfaoaa.Pure
open Go.RowKit Go.Proofs.YtndkcifblnfaoaaW.PrintWords Go.Proofs.YtndkcifblnfaoaaW.PrintLast Go.Proofs.YtndkcifblnfaoaaW.PrintMore Go.Proofs.Ytndkcifblnfaoaa.Base Go.Proofs.Ytndkcifblnfaoaa.PD
set_option linter.unusedVariables false
theorem pad_l1 (m : Int) : ∀ (j : Nat) (x : List Int), j ≤ 8 → x.length + j < 140737488355328 → ∃ y, Ev (fun k => spec_Padded.l1 k x m (8 * (j : Int) - 8)) y ∧ Ev (fun k => impl_Padded.l1 k x m ((j : Int) - 1)) y ∧ y.length = x.length + j := by
  intro j
  induction j with
  | zero =>
    intro x hj hl
    refine ⟨x, evOne fun k => ?_, evOne fun k => ?_, rfl⟩
    · simp only [spec_Padded.l1]
      rw [if_neg (by omega)]
    · simp only [impl_Padded.l1]
      rw [if_neg (by omega)]
  | succ j ih =>
    intro x hj hl
    obtain ⟨y, h1, h2, h3⟩ := ih (x ++ [(shr .i64 m (8 * (j : Int))) % 256]) (by omega) (by simp; omega)
    have e1 : (8 * ((j + 1 : Nat) : Int) - 8) = 8 * (j : Int) := by omega
    have e2 : (((j + 1 : Nat) : Int) - 1) = (j : Int) := by omega
    refine ⟨y, Ev.step (fun k => ?_) h1, Ev.step (fun k => ?_) h2, by rw [h3]; simp; omega⟩
    · simp only [spec_Padded.l1]
      rw [e1, if_pos (by omega), u64_id _ (by omega) (by omega), if_pos (by omega), if_pos (by omega), w64 (by omega) (by omega)]
    · simp only [impl_Padded.l1]
      rw [e2, if_pos (by omega), w64 (x := 8 * (j : Int)) (by omega) (by omega), u64_id _ (by omega) (by omega), if_pos (by omega), if_pos (by omega), w64 (by omega) (by omega)]
theorem pad_l0 (b : List Int) (hb : b.length ≤ 281474976) : ∀ (d : Nat) (x : List Int), d < 64 → (x.length + d) % 64 = 56 → x.length + d ≤ 281474977 + 64 → ∃ y, Ev (fun k => spec_Padded.l0 k b x) y ∧ Ev (fun k => impl_Padded.l0 k b x) y ∧ y.length = x.length + d + 8 := by
  intro d
  induction d with
  | zero =>
    intro x hd hm hl
    obtain ⟨y, h1, h2, h3⟩ := pad_l1 (wrap64 ((b.length : Int) * 8)) 8 x (by omega) (by omega)
    have ht : Int.tmod (wrap64 ((x.length : Int) + 8)) 64 = 0 := by
      rw [w64 (by omega) (by omega), Int.tmod_eq_emod_of_nonneg (by omega)]
      omega
    refine ⟨y, Ev.step (fun k => ?_) h1, Ev.step (fun k => ?_) h2, by rw [h3]⟩
    · simp only [spec_Padded.l0]
      rw [if_pos (by omega)]
      rfl
    · simp only [impl_Padded.l0]
      rw [if_pos ht, Int.mul_comm 8]
      rfl
  | succ d ih =>
    intro x hd hm hl
    have hne : ¬ (x.length : Int) % 64 = 56 := by omega
    have ht : ¬ Int.tmod (wrap64 ((x.length : Int) + 8)) 64 = 0 := by
      rw [w64 (by omega) (by omega), Int.tmod_eq_emod_of_nonneg (by omega)]
      omega
    obtain ⟨y, h1, h2, h3⟩ := ih (x ++ [0]) (by omega) (by simp; omega) (by simp; omega)
    refine ⟨y, Ev.step (fun k => ?_) h1, Ev.step (fun k => ?_) h2, by rw [h3]; simp; omega⟩
    · simp only [spec_Padded.l0]
      rw [if_neg hne, if_pos (by omega)]
    · simp only [impl_Padded.l0]
      rw [if_neg ht, if_pos (by omega)]
theorem FnExactPadded : ∀ (l0 : List Int), (l0.length ≤ maxLen ∧ ∀ x ∈ l0, (Lit.int .u8 x).wf = true) → ∃ k, laws_FnExactPadded.f k l0 = some true := by
  intro l0 hw
  refine Ev.rounds (g := fun k => laws_FnExactPadded.f k l0) ?_
  simp only [laws_FnExactPadded.f]
  by_cases hbig : (l0.length : Int) > 1048576
  · exact evPos hbig (Ev.now _)
  · have ht := toByteS_ev l0 (by omega)
    obtain ⟨x, h1, h2, h3⟩ := pad_l0 l0 (by omega) ((119 - l0.length % 64) % 64) (l0 ++ [128]) (by omega) (by simp; omega) (by simp; omega)
    have hlen : x.length ≤ 281474976710656 := by rw [h3]; simp; omega
    have hs : Ev (fun k => spec_Padded.f k l0) x := by
      simp only [spec_Padded.f, Option.bind_some, List.nil_append, List.length_nil, Nat.zero_add]
      exact evPos (by omega) (evPos (by omega) h1)
    have hi : Ev (fun k => impl_Padded.f k l0) x := by
      have hc : slices_Clone_byte_byte.f l0 = some l0 := by
        unfold slices_Clone_byte_byte.f
        rw [if_pos (by omega)]
      simp only [impl_Padded.f]
      exact evBindC hc (evPos (by omega) h2)
    have he := eqByteS_ev x x hlen
    have hm := markByteS_ev l0 1 (by omega) (by omega)
    have hm2 := markByteS_ev x 1 (by omega) hlen
    have hh := heldByteS_ev x 1 (by omega) hlen
    have j0 : Ev (fun k => laws_FnExactPadded.j0 k l0 x x false) true := by
      refine Ev.step (f := fun k => (laws_markByteS.f k x 1).bind fun bt154 => ((laws_heldByteS.f k bt154.2 1).bind fun t156 => (if t156 < 0 then (some false) else (if t156 = bt154.1 then ((laws_toByteS.f k l0).bind fun t157 => ((impl_Padded.f k t157).bind fun t160 => ((laws_eqByteS.f k t160 x).bind fun t163 => (if t163 = true then ((laws_heldByteS.f k bt154.2 1).bind fun t164 => (if t164 < 0 then (some false) else (if t164 = bt154.1 then (some true) else (some false)))) else (some false))))) else (some false))))) (fun k => ?_) ?_
      · simp only [laws_FnExactPadded.j0]
        exact if_neg (by simp)
      · exact Ev.bind hm2 (Ev.bind hh (evNeg (by omega) (evPos rfl (Ev.bind ht (Ev.bind hi (Ev.bind he (evPos (by simp) (Ev.bind hh (evNeg (by omega) (evPos rfl (Ev.now _)))))))))))
    refine evNeg hbig (Ev.bind ht (Ev.bind hs (Ev.bind ht (Ev.bind hi (Ev.bind he (evPos (by simp) (Ev.bind ht (Ev.bind (eqByteS_ev l0 l0 (by omega)) (evPos (by simp) (Ev.bind hm (evNeg (by dsimp only; omega) (Ev.bind he ?_))))))))))))
    simpa using j0
end Go.Proofs.Ytndkcifblnfaoaa.Pure
