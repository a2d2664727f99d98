/- Draws of leaves and of bytes to be padded. No condition but sizes. -/
import Derived.Test.YtgbbgdlenadhlaaPEx0
import Derived.Test.YtgbbgdlenadhlaaPEx1
import Derived.Test.YtgbbgdlenadhlaaLibDFnPaths
namespace Go.Proofs.Ytgbbgdlenadhlaa.PE
open Go.RowKit Go.Proofs.YtgbbgdlenadhlaaW.PrintWords Go.Proofs.YtgbbgdlenadhlaaW.PrintLast Go.Proofs.YtgbbgdlenadhlaaW.PrintMore Go.Proofs.Ytgbbgdlenadhlaa.Base
set_option linter.unusedVariables false
set_option linter.unusedSimpArgs false
theorem l3List_l (b : List Int) : ∀ (d : Nat) (x : List ByteArray) (i h : Int), d ≤ 100 → x.length + d ≤ 1000 → (∀ s ∈ x, s.size ≤ 3) → St b i →
    ∃ r i' h', Ev (fun k => spec_l3List.l0 k x (d : Int) b i h) (r, i', h') ∧ St b i' ∧ r.length = x.length + d ∧ (∀ s ∈ r, s.size ≤ 3) := by
  intro d
  induction d with
  | zero =>
    intro x i h hd hx hz hs
    refine ⟨x, i, h, evOne fun k => ?_, hs, by omega, hz⟩
    simp only [spec_l3List.l0]
    rw [if_neg (by omega)]
  | succ d ih =>
    intro x i h hd hx hz hs
    obtain ⟨r, i', h', e, hs', hm⟩ := l1Str_eq b i h [(⟨#[]⟩ : ByteArray), (⟨#[97]⟩ : ByteArray), (⟨#[98]⟩ : ByteArray), (⟨#[120, 121, 122]⟩ : ByteArray)] (by simp) hs
    have hr : r.size ≤ 3 := by
      simp only [List.mem_cons, List.not_mem_nil, or_false] at hm
      rcases hm with rfl | rfl | rfl | rfl
      · exact Nat.zero_le 3
      · exact Nat.le_of_ble_eq_true rfl
      · exact Nat.le_of_ble_eq_true rfl
      · exact Nat.le_of_ble_eq_true rfl
    have e1 : wrap64 (((d + 1 : Nat) : Int) - 1) = (d : Int) := by rw [w64 (by omega) (by omega)]; omega
    obtain ⟨q, i2, h2, hq, hs2, hl, hz2⟩ := ih (x ++ [r]) i' h' (by omega) (by simp; omega) (by
      intro s hs
      rcases List.mem_append.1 hs with h | h
      · exact hz s h
      · rw [List.mem_singleton.1 h]; exact hr) hs'
    refine ⟨q, i2, h2, Ev.step (f := fun k => spec_l3List.l0 k (x ++ [r]) (d : Int) b i' h') (fun k => ?_) hq, hs2, by rw [hl]; simp; omega, hz2⟩
    simp only [spec_l3List.l0]
    rw [if_pos (by omega), e]
    simp only [Option.bind_some]
    rw [if_pos (by omega), e1]
theorem DrawLeaves_ev (b : List Int) (hb : AllB b) (hl : b.length ≤ 281474976710656) : ∃ l i, Ev (fun k => spec_DrawLeaves.f k b) (l, i) ∧ 1 ≤ l.length ∧ l.length ≤ 9 ∧ 0 ≤ i ∧ i < (l.length : Int) ∧ ∀ s ∈ l, s.size ≤ 3 := by
  obtain ⟨h', hn, hs⟩ := l1New_ev b hb hl
  obtain ⟨r2, i2, h2, e2, hs2, hm⟩ := l1Int_eq b 0 h' [0, 1, 2, 3, 4, 5, 7, 8] (by simp) hs
  have hr : 0 ≤ r2 ∧ r2 ≤ 8 := by
    simp at hm
    omega
  obtain ⟨m, rfl⟩ := Int.eq_ofNat_of_zero_le hr.1
  obtain ⟨q, i3, h3, hq, hs3, hql, hqz⟩ := l3List_l b m [] i2 h2 (by omega) (by simp; omega) (fun s h => by simp at h) hs2
  rw [List.length_nil, Nat.zero_add] at hql
  obtain ⟨r4, i4, h4, e4, hs4, r40, r41, _⟩ := l1Below_eq b i3 h3 ((q ++ [(⟨#[122]⟩ : ByteArray)]).length : Int) hs3
  have r41 := r41 (by rw [List.length_append, List.length_singleton]; omega)
  have hL : (q ++ [(⟨#[122]⟩ : ByteArray)]).length = q.length + 1 := by simp
  refine ⟨q ++ [(⟨#[122]⟩ : ByteArray)], r4, ?_, by omega, by omega, r40, r41, ?_⟩
  · simp only [spec_DrawLeaves.f]
    refine Ev.bind hn ?_
    have h5 : Ev (fun k => spec_l3List.f k b 0 h') (q, i3, h3) := by
      simp only [spec_l3List.f]
      exact evBindC e2 hq
    refine Ev.bind h5 (evPos (by dsimp only; omega) (evBindC rfl (evBindC e4 (Ev.now _))))
  · intro s hs
    rcases List.mem_append.1 hs with h | h
    · exact hqz s h
    · rw [List.mem_singleton.1 h]
      exact Nat.le_of_ble_eq_true rfl
end Go.Proofs.Ytgbbgdlenadhlaa.PE
