/- What the draws give: enough of it for the laws. No condition but the code's size. -/
import Derived.Test.YtndkcifblnfaoaaPDx0
import Derived.Test.YtndkcifblnfaoaaLibPFnExactPadded
namespace Go.Proofs.Ytndkcifblnfaoaa.PD
open Go.RowKit Go.Proofs.YtndkcifblnfaoaaW.PrintWords Go.Proofs.YtndkcifblnfaoaaW.PrintLast Go.Proofs.YtndkcifblnfaoaaW.PrintMore Go.Proofs.Ytndkcifblnfaoaa.Base
set_option linter.unusedVariables false
/-- The cursor's place lies in its bytes. -/
def St (b : List Int) (i : Int) : Prop := AllB b ∧ b.length ≤ 281474976710656 ∧ 0 ≤ i ∧ i ≤ (b.length : Int)
theorem and255 (x : Int) : 0 ≤ Go.bits .and .i64 x 255 ∧ Go.bits .and .i64 x 255 ≤ 255 := by
  have h : (BitVec.ofInt 64 x &&& BitVec.ofInt 64 255).toNat ≤ 255 := by
    rw [BitVec.toNat_and]
    exact Nat.and_le_right
  have e : Go.bits .and .i64 x 255 = IntKind.i64.wrap ((BitVec.ofInt 64 x &&& BitVec.ofInt 64 255).toNat : Int) := rfl
  rw [e, wraps_i64 _ (by omega) (by omega)]
  omega
end Go.Proofs.Ytndkcifblnfaoaa.PD
