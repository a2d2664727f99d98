/- What GetNum computes, of the program and of the reference: the plain function 'gnum'. No condition but sizes. -/
import Derived.Test.YtbkmjhebpemfpaaPEx0
import Derived.Test.YtbkmjhebpemfpaaPEx1
import Derived.Test.YtbkmjhebpemfpaaPEx4
import Derived.Test.YtbkmjhebpemfpaaLibFnExactGetTx
namespace Go.Proofs.Ytbkmjhebpemfpaa.PE
open Go.RowKit Go.Proofs.YtbkmjhebpemfpaaW.PrintWords Go.Proofs.YtbkmjhebpemfpaaW.PrintLast Go.Proofs.YtbkmjhebpemfpaaW.PrintMore Go.Proofs.Ytbkmjhebpemfpaa.Base
set_option linter.unusedVariables false
theorem gn_facts (i : Nat) (hi : i ≤ 4) (m c : Int) (hm0 : 0 ≤ m) (hm1 : m < 2 ^ (7 * i)) (h0 : 0 ≤ c) (h1 : c ≤ 255) :
    Go.bits .or .i64 m (shl .i64 (Go.bits .and .i64 (wrap64 c) 127) (IntKind.u64.wrap (wrap64 (7 * (i : Int))))) = m + c % 128 * 2 ^ (7 * i) ∧ 0 ≤ m + c % 128 * 2 ^ (7 * i) ∧ m + c % 128 * 2 ^ (7 * i) < 2 ^ (7 * (i + 1)) ∧ m + c % 128 * 2 ^ (7 * i) ≤ 34359738368 ∧ 0 ≤ IntKind.u64.wrap (wrap64 (7 * (i : Int))) := by
  have hpow : (2 : Int) ^ (7 * i) ≤ 268435456 := by
    have : i = 0 ∨ i = 1 ∨ i = 2 ∨ i = 3 ∨ i = 4 := by omega
    rcases this with rfl | rfl | rfl | rfl | rfl <;> decide
  have hpow0 : (0 : Int) < 2 ^ (7 * i) := Int.pow_pos (by decide)
  have hg0 : 0 ≤ c % 128 := by omega
  have hg1 : c % 128 ≤ 127 := by omega
  have hprod0 : 0 ≤ c % 128 * 2 ^ (7 * i) := Int.mul_nonneg hg0 (Int.le_of_lt hpow0)
  have hprod1 : c % 128 * 2 ^ (7 * i) ≤ 127 * 2 ^ (7 * i) := Int.mul_le_mul_of_nonneg_right hg1 (Int.le_of_lt hpow0)
  have hq : (2 : Int) ^ (7 * (i + 1)) = 128 * 2 ^ (7 * i) := by rw [show 7 * (i + 1) = 7 * i + 7 by omega, Int.pow_add]; omega
  refine ⟨?_, by omega, by omega, by omega, ?_⟩
  · rw [w64 (x := c) (by omega) (by omega), and127 c (by omega) (by omega), w64 (x := 7 * (i : Int)) (by omega) (by omega), u64_id _ (by omega) (by omega), shl_i64 (c % 128) (7 * (i : Int)) (7 * i) (by omega) (by omega) hprod0 (by omega)]
    exact or_low (7 * i) m _ hprod0 (Int.mul_emod_left _ _) (by omega) hm0 hm1 (by omega)
  · rw [w64 (by omega) (by omega), u64_id _ (by omega) (by omega)]
    omega
theorem sGetNum_l (b : List Int) (hb : AllB b) (hl : b.length ≤ 281474976710656) (p : Nat) (hpl : p < b.length) : ∀ (f i : Nat) (m : Int), f + i = 5 → 0 ≤ m → m < 2 ^ (7 * i) →
    Ev (fun k => spec_GetNum.l0 k b (p : Int) m (i : Int)) (gn f (b.drop (p + i)) m i ((p + i : Nat) : Int)) := by
  intro f
  induction f with
  | zero =>
    intro i m hi hm0 hm1
    refine evTwo fun k => ?_
    simp only [spec_GetNum.l0, gn]
    rw [if_neg (by omega)]
    simp [spec_GetNum.j1]
  | succ f ih =>
    intro i m hi hm0 hm1
    have hi4 : i ≤ 4 := by omega
    have hw : wrap64 ((p : Int) + (i : Int)) = ((p + i : Nat) : Int) := by rw [w64 (by omega) (by omega)]; omega
    by_cases hlt : p + i < b.length
    · have hc := hb.get (p + i) hlt
      rw [drop_rd hlt]
      generalize hcc : rd b ((p + i : Nat) : Int) = c at hc
      obtain ⟨hm', hM0, hM1, hM2, hu⟩ := gn_facts i hi4 m c hm0 hm1 hc.1 hc.2
      generalize hM : m + c % 128 * 2 ^ (7 * i) = M at hm' hM0 hM1 hM2
      have hwc : wrap64 c = c := w64 (by omega) (by omega)
      have e1 : ∀ k, spec_GetNum.l0 (k + 2) b (p : Int) m (i : Int) = spec_GetNum.j1 (k + 1) b (p : Int) m (i : Int) true := by
        intro k
        simp only [spec_GetNum.l0]
        rw [if_pos (by omega), if_pos (by omega), if_pos (by omega), hw, decide_eq_true (by omega)]
      by_cases hge : 128 ≤ c
      · refine evEq (evStep2 (fun k => ?_) (ih (i + 1) M (by omega) hM0 hM1)) ?_
        · rw [e1 k]
          simp only [spec_GetNum.j1]
          rw [if_pos trivial, hw, if_pos (by omega), if_pos (by omega), hcc, if_pos hu, hm', hwc, if_pos (by omega), w64 (x := (i : Int) + 1) (by omega) (by omega)]
          rfl
        · simp only [gn]
          rw [hM, if_pos hge]
          rfl
      · refine evTwo fun k => ?_
        rw [e1 k]
        simp only [spec_GetNum.j1]
        rw [if_pos trivial, hw, if_pos (by omega), if_pos (by omega), hcc, if_pos hu, hm', hwc, if_neg (by omega), and1 M hM0 (by omega)]
        simp only [l1In_eq, Option.bind_some]
        rw [show wrap64 (wrap64 (-(M / 2)) - 1) = -(M / 2) - 1 by rw [w64 (x := -(M / 2)) (by omega) (by omega), w64 (by omega) (by omega)], w64 (x := ((p + i : Nat) : Int) + 1) (by omega) (by omega)]
        simp only [gn]
        rw [hM, if_neg hge]
        by_cases hodd : M % 2 = 1
        · simp only [hodd, if_true]
          generalize -(M / 2) - 1 = n
          by_cases hi0 : 0 < i <;> by_cases hc0 : c = 0 <;> by_cases hr : -1000000000 ≤ n ∧ n ≤ 1000000000
          all_goals simp [hi0, hc0, hr]
        · simp only [hodd, if_false]
          generalize M / 2 = n
          by_cases hi0 : 0 < i <;> by_cases hc0 : c = 0 <;> by_cases hr : -1000000000 ≤ n ∧ n ≤ 1000000000
          all_goals simp [hi0, hc0, hr]
    · rw [List.drop_of_length_le (by omega)]
      refine evTwo fun k => ?_
      simp only [spec_GetNum.l0, gn]
      rw [if_pos (by omega), if_pos (by omega), if_pos (by omega), hw, decide_eq_false (by omega)]
      simp [spec_GetNum.j1]
theorem sGetNum_ev (b : List Int) (hb : AllB b) (hl : b.length ≤ 281474976710656) (p : Int) : Ev (fun k => spec_GetNum.f k b p) (gnum b p) := by
  by_cases hp : 0 ≤ p ∧ p < b.length
  · obtain ⟨q, rfl⟩ := Int.eq_ofNat_of_zero_le hp.1
    have h1 := sGetNum_l b hb hl q (by omega) 5 0 0 rfl (by decide) (by decide)
    unfold gnum
    rw [if_pos hp, Int.toNat_natCast]
    exact h1
  · unfold gnum
    rw [if_neg hp]
    refine evTwo fun k => ?_
    simp only [spec_GetNum.f, spec_GetNum.l0]
    rw [if_pos (by omega)]
    by_cases h0 : p ≥ 0
    · rw [if_pos h0, if_neg (by omega)]
      simp [spec_GetNum.j1]
    · rw [if_neg h0]
      simp [spec_GetNum.j1]
theorem iGetNum_l (b : List Int) (hb : AllB b) (hl : b.length ≤ 281474976710656) : ∀ (f i q : Nat) (m : Int), f + i = 5 → 0 ≤ m → m < 2 ^ (7 * i) → q ≤ b.length →
    Ev (fun k => impl_GetNum.l0 k b (q : Int) m (i : Int)) (gn f (b.drop q) m i (q : Int)) := by
  intro f
  induction f with
  | zero =>
    intro i q m hi hm0 hm1 hq
    refine evTwo fun k => ?_
    simp only [impl_GetNum.l0, gn]
    rw [if_neg (by omega)]
    simp [impl_GetNum.j1]
  | succ f ih =>
    intro i q m hi hm0 hm1 hq
    have hi4 : i ≤ 4 := by omega
    by_cases hlt : q < b.length
    · have hc := hb.get q hlt
      rw [drop_rd hlt]
      generalize hcc : rd b (q : Int) = c at hc
      obtain ⟨hm', hM0, hM1, hM2, hu⟩ := gn_facts i hi4 m c hm0 hm1 hc.1 hc.2
      generalize hM : m + c % 128 * 2 ^ (7 * i) = M at hm' hM0 hM1 hM2
      have hwc : wrap64 c = c := w64 (by omega) (by omega)
      have e1 : ∀ k, impl_GetNum.l0 (k + 2) b (q : Int) m (i : Int) = impl_GetNum.j1 (k + 1) b (q : Int) m (i : Int) true := by
        intro k
        simp only [impl_GetNum.l0]
        rw [if_pos (by omega), decide_eq_true (by omega)]
      by_cases hge : 128 ≤ c
      · refine evEq (evStep2 (fun k => ?_) (ih (i + 1) (q + 1) M (by omega) hM0 hM1 (by omega))) ?_
        · rw [e1 k]
          simp only [impl_GetNum.j1]
          rw [if_pos trivial, if_pos (by omega), if_pos (by omega), hcc, if_pos hu, hm', hwc, if_pos (by omega), w64 (x := (i : Int) + 1) (by omega) (by omega), w64 (x := (q : Int) + 1) (by omega) (by omega)]
          rfl
        · simp only [gn]
          rw [hM, if_pos hge]
          rfl
      · refine evTwo fun k => ?_
        rw [e1 k]
        simp only [impl_GetNum.j1]
        rw [if_pos trivial, if_pos (by omega), if_pos (by omega), hcc, if_pos hu, hm', hwc, if_neg (by omega), Int.tmod_eq_emod_of_nonneg hM0]
        simp only [inRange_eq, Option.bind_some]
        have ht1 : M % 2 = 1 → wrap64 (Int.tdiv (wrap64 (-(wrap64 (M + 1)))) 2) = -(M / 2) - 1 := by
          intro ho
          rw [w64 (x := M + 1) (by omega) (by omega), w64 (x := -(M + 1)) (by omega) (by omega), Int.neg_tdiv, Int.tdiv_eq_ediv_of_nonneg (by omega), w64 (by omega) (by omega)]
          omega
        have ht2 : wrap64 (Int.tdiv M 2) = M / 2 := by rw [Int.tdiv_eq_ediv_of_nonneg hM0, w64 (by omega) (by omega)]
        rw [ht2, w64 (x := (q : Int) + 1) (by omega) (by omega)]
        simp only [gn]
        rw [hM, if_neg hge]
        by_cases hodd : M % 2 = 1
        · rw [ht1 hodd]
          simp only [hodd, if_true]
          generalize -(M / 2) - 1 = n
          by_cases hi0 : 0 < i <;> by_cases hc0 : c = 0 <;> by_cases hr : -1000000000 ≤ n ∧ n ≤ 1000000000
          all_goals simp [hi0, hc0, hr]
        · simp only [hodd, if_false]
          generalize M / 2 = n
          by_cases hi0 : 0 < i <;> by_cases hc0 : c = 0 <;> by_cases hr : -1000000000 ≤ n ∧ n ≤ 1000000000
          all_goals simp [hi0, hc0, hr]
    · rw [List.drop_of_length_le (by omega)]
      refine evTwo fun k => ?_
      simp only [impl_GetNum.l0, gn]
      rw [if_pos (by omega), decide_eq_false (by omega)]
      simp [impl_GetNum.j1]
theorem iGetNum_ev (b : List Int) (hb : AllB b) (hl : b.length ≤ 281474976710656) (p : Int) (hp64 : -9223372036854775808 ≤ p ∧ p ≤ 9223372036854775807) : Ev (fun k => impl_GetNum.f k b p) (gnum b p) := by
  have hw : wrap64 ((b.length : Int) - 1) = (b.length : Int) - 1 := w64 (by omega) (by omega)
  by_cases hp : 0 ≤ p ∧ p < b.length
  · obtain ⟨q, rfl⟩ := Int.eq_ofNat_of_zero_le hp.1
    have h1 := iGetNum_l b hb hl 5 0 q 0 rfl (by decide) (by decide) (by omega)
    unfold gnum
    rw [if_pos hp, Int.toNat_natCast]
    refine Ev.congr (fun k => ?_) h1
    simp only [impl_GetNum.f]
    rw [inRange_eq, hw, decide_eq_true (by omega), decide_eq_true (by omega)]
    rfl
  · unfold gnum
    rw [if_neg hp]
    refine evVal fun k => ?_
    simp only [impl_GetNum.f]
    rw [inRange_eq, hw]
    have : (decide (0 ≤ p) && decide (p ≤ (b.length : Int) - 1)) = false := by
      rw [Bool.and_eq_false_iff]
      simp
      omega
    rw [this]
    simp
end Go.Proofs.Ytbkmjhebpemfpaa.PE
