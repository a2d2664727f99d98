/- Draws of leaves and of bytes to be padded. No condition but sizes. -/
import Derived.Test.YtgbbgdlenadhlaaPDx0
import Derived.Test.YtgbbgdlenadhlaaPDx5
import Derived.Test.YtgbbgdlenadhlaaLibDFnPadded
namespace Go.Proofs.Ytgbbgdlenadhlaa.PD
open Go.RowKit Go.Proofs.YtgbbgdlenadhlaaW.PrintWords Go.Proofs.YtgbbgdlenadhlaaW.PrintLast Go.Proofs.YtgbbgdlenadhlaaW.PrintMore Go.Proofs.Ytgbbgdlenadhlaa.Base
set_option linter.unusedVariables false
set_option linter.unusedSimpArgs false
theorem DrawPadded_ev (b : List Int) (hb : AllB b) (hl : b.length ≤ 281474976710656) : ∃ x, Ev (fun k => spec_DrawPadded.f k b) x ∧ x.length ≤ 200 ∧ AllB x := by
  obtain ⟨h', hn, hs⟩ := l1New_ev b hb hl
  obtain ⟨r1, i1, h1, e1, hs1, r10, r11, _⟩ := l1Below_eq b 0 h' 130 hs
  have r11 := r11 (by omega)
  obtain ⟨r2, i2, h2, e2, hs2, hm⟩ := l1Int_eq b i1 h1 [0, 1, 3, 55, 56, 63, 64, 65, 119, 120, r1] (by simp) hs1
  have hr : 0 ≤ r2 ∧ r2 ≤ 200 := by
    simp at hm
    omega
  obtain ⟨x, i3, h3, hx, hs3, hxl, hxa⟩ := l1Bytes_ev b i2 h2 r2 hr.1 (by omega) hs2
  refine ⟨x, ?_, by omega, hxa⟩
  simp only [spec_DrawPadded.f]
  refine Ev.bind hn ?_
  have h4 : Ev (fun k => spec_l2Bytes.f k b 0 h') (x, i3, h3) := by
    simp only [spec_l2Bytes.f]
    exact evBindC e1 (evBindC e2 (Ev.bind hx (Ev.now _)))
  exact Ev.bind h4 (Ev.now _)
end Go.Proofs.Ytgbbgdlenadhlaa.PD
