/- What the printed functions of the byte level compute, each said by a plain Lean function. No condition but sizes. -/
import Derived.Test.YtgbbgdlenadhlaaPEx0
import Derived.Test.YtgbbgdlenadhlaaPEx2
import Derived.Test.YtgbbgdlenadhlaaBase
namespace Go.Proofs.Ytgbbgdlenadhlaa.PE
open Go.RowKit Go.Proofs.YtgbbgdlenadhlaaW.PrintWords Go.Proofs.YtgbbgdlenadhlaaW.PrintLast Go.Proofs.YtgbbgdlenadhlaaW.PrintMore Go.Proofs.Ytgbbgdlenadhlaa.Base
set_option linter.unusedVariables false
theorem inRange_eq (a b c : Int) : impl_inRange.f a b c = some (decide (b ≤ a) && decide (a ≤ c)) := by
  unfold impl_inRange.f
  by_cases h : a ≥ b
  · rw [if_pos h]
    simp [show b ≤ a from h]
  · rw [if_neg h]
    simp [show ¬ b ≤ a from h]
end Go.Proofs.Ytgbbgdlenadhlaa.PE
