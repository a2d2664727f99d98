/- What GetNum computes, of the program and of the reference: the plain function 'gnum'. No condition but sizes. -/
import Derived.Test.YtcbpfofkdipjhaaPKx0
import Derived.Test.YtcbpfofkdipjhaaLibFnHex
namespace Go.Proofs.Ytcbpfofkdipjhaa.PK
open Go.RowKit Go.Proofs.YtcbpfofkdipjhaaW.PrintWords Go.Proofs.YtcbpfofkdipjhaaW.PrintLast Go.Proofs.YtcbpfofkdipjhaaW.PrintMore Go.Proofs.Ytcbpfofkdipjhaa.Base
set_option linter.unusedVariables false
theorem gn_facts (i : Nat) (hi : i ≤ 4) (m c : Int) (hm0 : 0 ≤ m) (hm1 : m < 2 ^ (7 * i)) (h0 : 0 ≤ c) (h1 : c ≤ 255) :
    Go.bits .or .i64 m (shl .i64 (Go.bits .and .i64 (wrap64 c) 127) (IntKind.u64.wrap (wrap64 (7 * (i : Int))))) = m + c % 128 * 2 ^ (7 * i) ∧ 0 ≤ m + c % 128 * 2 ^ (7 * i) ∧ m + c % 128 * 2 ^ (7 * i) < 2 ^ (7 * (i + 1)) ∧ m + c % 128 * 2 ^ (7 * i) ≤ 34359738368 ∧ 0 ≤ IntKind.u64.wrap (wrap64 (7 * (i : Int))) := by
  have hpow : (2 : Int) ^ (7 * i) ≤ 268435456 := by
    have : i = 0 ∨ i = 1 ∨ i = 2 ∨ i = 3 ∨ i = 4 := by omega
    rcases this with rfl | rfl | rfl | rfl | rfl <;> decide
  have hpow0 : (0 : Int) < 2 ^ (7 * i) := Int.pow_pos (by decide)
  have hg0 : 0 ≤ c % 128 := by omega
  have hg1 : c % 128 ≤ 127 := by omega
  have hprod0 : 0 ≤ c % 128 * 2 ^ (7 * i) := Int.mul_nonneg hg0 (Int.le_of_lt hpow0)
  have hprod1 : c % 128 * 2 ^ (7 * i) ≤ 127 * 2 ^ (7 * i) := Int.mul_le_mul_of_nonneg_right hg1 (Int.le_of_lt hpow0)
  have hq : (2 : Int) ^ (7 * (i + 1)) = 128 * 2 ^ (7 * i) := by rw [show 7 * (i + 1) = 7 * i + 7 by omega, Int.pow_add]; omega
  refine ⟨?_, by omega, by omega, by omega, ?_⟩
  · rw [w64 (x := c) (by omega) (by omega), and127 c (by omega) (by omega), w64 (x := 7 * (i : Int)) (by omega) (by omega), u64_id _ (by omega) (by omega), shl_i64 (c % 128) (7 * (i : Int)) (7 * i) (by omega) (by omega) hprod0 (by omega)]
    exact or_low (7 * i) m _ hprod0 (Int.mul_emod_left _ _) (by omega) hm0 hm1 (by omega)
  · rw [w64 (by omega) (by omega), u64_id _ (by omega) (by omega)]
    omega
end Go.Proofs.Ytcbpfofkdipjhaa.PK
