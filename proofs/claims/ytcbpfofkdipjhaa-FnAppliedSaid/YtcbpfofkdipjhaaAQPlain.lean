/- Plain laws of numbers, texts and names as bytes: what was put comes back. No condition but sizes; no program. -/
import Derived.Test.YtcbpfofkdipjhaaAQBase
namespace Go.Proofs.Ytcbpfofkdipjhaa.Base
open Go.RowKit Go.Proofs.YtcbpfofkdipjhaaW.PrintWords Go.Proofs.YtcbpfofkdipjhaaW.PrintMore
set_option linter.unusedVariables false
/-! ### numbers put -/
theorem AllB.append {a b : List Int} (h : AllB a) (k : AllB b) : AllB (a ++ b) := by
  intro x hx
  rcases List.mem_append.1 hx with hx | hx
  · exact h x hx
  · exact k x hx
/-! ### what a number read tells -/
/-! ### texts -/
/-! ### names -/
end Go.Proofs.Ytcbpfofkdipjhaa.Base
