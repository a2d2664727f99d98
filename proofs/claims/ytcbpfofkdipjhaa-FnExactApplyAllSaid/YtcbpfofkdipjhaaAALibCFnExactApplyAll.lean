/- What the printed functions that compare orders compute. No condition but sizes. -/
import Derived.Test.YtcbpfofkdipjhaaAAPJx0
import Derived.Test.YtcbpfofkdipjhaaAAPJx12
import Derived.Test.YtcbpfofkdipjhaaAABase
import Derived.Test.YtcbpfofkdipjhaaAAStr
namespace Go.Proofs.Ytcbpfofkdipjhaa.PJ
open Go.RowKit Go.Proofs.YtcbpfofkdipjhaaW.PrintWords Go.Proofs.YtcbpfofkdipjhaaW.PrintLast Go.Proofs.YtcbpfofkdipjhaaW.PrintMore Go.Proofs.Ytcbpfofkdipjhaa.Base
set_option linter.unusedVariables false
theorem szTx_eq (a0 : Int) (a1 a2 : ByteArray) (a3 a4 v : Int) (h1 : a1.size ≤ 9223372036854775807) (h2 : a2.size ≤ 9223372036854775807) (hv0 : 0 ≤ v) (hv : v ≤ 1048576) :
    ∃ r, laws_szTx.f a0 a1 a2 a3 a4 v = some r ∧ (r < 0 ∨ (0 ≤ r ∧ r + (a1.size : Int) + (a2.size : Int) = v)) := by
  simp only [laws_szTx.f];have hw : wrap64 (v - (a1.size : Int)) = v - (a1.size : Int) := w64 (by omega) (by omega);rw [hw]
  by_cases hn : v - (a1.size : Int) < 0
  · exact ⟨-1, by rw [if_pos hn], .inl (by omega)⟩
  · rw [if_neg hn, w64 (x := v - (a1.size : Int) - (a2.size : Int)) (by omega) (by omega)]
    by_cases hn2 : v - (a1.size : Int) - (a2.size : Int) < 0
    · exact ⟨-1, by rw [if_pos hn2], .inl (by omega)⟩
    · exact ⟨_, by rw [if_neg hn2], .inr ⟨by omega, by omega⟩⟩
/-! ### which order is less -/
end Go.Proofs.Ytcbpfofkdipjhaa.PJ
