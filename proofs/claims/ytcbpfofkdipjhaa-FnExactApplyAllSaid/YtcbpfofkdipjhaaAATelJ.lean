/- What the reading of a struct tells, type by type. No condition. -/
import Derived.Test.YtcbpfofkdipjhaaAAOpen
import Derived.Test.YtcbpfofkdipjhaaAAPJx0
import Derived.ProofKit
import Derived.KernelRfl
namespace Go.Proofs.Ytcbpfofkdipjhaa.PJ
open Go.ChangeShapes Go.WideShapes Go.RowKit Go.Proofs.YtcbpfofkdipjhaaW.PrintWords Go.Proofs.Ytcbpfofkdipjhaa.Open
set_option linter.unusedVariables false
def ok163 (s : S163) : Prop := ((Lit.int .i64 s.f0).wf = true) ∧ ((Lit.int .i64 s.f1).wf = true)
theorem tells_S163 {H : Type} {enc : TypeId × Value → H} {w : World} : Tells enc Try.prog w 163 k163 ok163 := by
  intro base spare held fuel cs x h;obtain ⟨hl, n, hF⟩ := fields_of Try.underlying163 (by kernel_rfl) (by kernel_rfl) h;obtain ⟨v0, y0, e0, t0⟩ := hF 0 _ rfl;obtain ⟨x0, K0, o0⟩ := (tells_int Try.underlying3) _ _ _ _ _ _ t0;obtain ⟨v1, y1, e1, t1⟩ := hF 1 _ rfl;obtain ⟨x1, K1, o1⟩ := (tells_int Try.underlying3) _ _ _ _ _ _ t1;obtain rfl : cs = [v0, v1] := list2 hl e0 e1;exact ⟨⟨x0, x1⟩, ⟨[v0], [v1], rfl, K0, K1⟩, ⟨o0, o1⟩⟩
def ok125 (s : S125) : Prop := (s.f0.size ≤ maxLen) ∧ ((Lit.int .i64 s.f1).wf = true) ∧ ((Lit.int .i64 s.f2).wf = true) ∧ ((Lit.int .i64 s.f3).wf = true) ∧ (s.f4.length ≤ maxLen ∧ ∀ x ∈ s.f4, ok163 x)
theorem tells_S125 {H : Type} {enc : TypeId × Value → H} {w : World} : Tells enc Try.prog w 125 k125 ok125 := by
  intro base spare held fuel cs x h;obtain ⟨hl, n, hF⟩ := fields_of Try.underlying125 (by kernel_rfl) (by kernel_rfl) h;obtain ⟨v0, y0, e0, t0⟩ := hF 0 _ rfl;obtain ⟨x0, K0, o0⟩ := (tells_string Try.underlying9) _ _ _ _ _ _ t0;obtain ⟨v1, y1, e1, t1⟩ := hF 1 _ rfl;obtain ⟨x1, K1, o1⟩ := (tells_int Try.underlying3) _ _ _ _ _ _ t1;obtain ⟨v2, y2, e2, t2⟩ := hF 2 _ rfl;obtain ⟨x2, K2, o2⟩ := (tells_int Try.underlying3) _ _ _ _ _ _ t2;obtain ⟨v3, y3, e3, t3⟩ := hF 3 _ rfl;obtain ⟨x3, K3, o3⟩ := (tells_int Try.underlying3) _ _ _ _ _ _ t3;obtain ⟨v4, y4, e4, t4⟩ := hF 4 _ rfl;obtain ⟨x4, K4, o4⟩ := (tells_slice Try.underlying123 (by kernel_rfl) (tells_S163)) _ _ _ _ _ _ t4;obtain rfl : cs = [v0, v1, v2, v3, v4] := list5 hl e0 e1 e2 e3 e4;exact ⟨⟨x0, x1, x2, x3, x4⟩, ⟨[v0], [v1, v2, v3, v4], rfl, K0, ⟨[v1], [v2, v3, v4], rfl, K1, ⟨[v2], [v3, v4], rfl, K2, ⟨[v3], [v4], rfl, K3, K4⟩⟩⟩⟩, ⟨o0, o1, o2, o3, o4⟩⟩
def ok26 (s : S26) : Prop := ((Lit.int .i64 s.f0).wf = true) ∧ (s.f1.size ≤ maxLen) ∧ (s.f2.size ≤ maxLen) ∧ ((Lit.int .i64 s.f3).wf = true) ∧ ((Lit.int .i64 s.f4).wf = true)
theorem tells_S26 {H : Type} {enc : TypeId × Value → H} {w : World} : Tells enc Try.prog w 26 k26 ok26 := by
  intro base spare held fuel cs x h;obtain ⟨hl, n, hF⟩ := fields_of Try.underlying26 (by kernel_rfl) (by kernel_rfl) h;obtain ⟨v0, y0, e0, t0⟩ := hF 0 _ rfl;obtain ⟨x0, K0, o0⟩ := (tells_int Try.underlying3) _ _ _ _ _ _ t0;obtain ⟨v1, y1, e1, t1⟩ := hF 1 _ rfl;obtain ⟨x1, K1, o1⟩ := (tells_string Try.underlying9) _ _ _ _ _ _ t1;obtain ⟨v2, y2, e2, t2⟩ := hF 2 _ rfl;obtain ⟨x2, K2, o2⟩ := (tells_string Try.underlying9) _ _ _ _ _ _ t2;obtain ⟨v3, y3, e3, t3⟩ := hF 3 _ rfl;obtain ⟨x3, K3, o3⟩ := (tells_int Try.underlying3) _ _ _ _ _ _ t3;obtain ⟨v4, y4, e4, t4⟩ := hF 4 _ rfl;obtain ⟨x4, K4, o4⟩ := (tells_int Try.underlying3) _ _ _ _ _ _ t4;obtain rfl : cs = [v0, v1, v2, v3, v4] := list5 hl e0 e1 e2 e3 e4;exact ⟨⟨x0, x1, x2, x3, x4⟩, ⟨[v0], [v1, v2, v3, v4], rfl, K0, ⟨[v1], [v2, v3, v4], rfl, K1, ⟨[v2], [v3, v4], rfl, K2, ⟨[v3], [v4], rfl, K3, K4⟩⟩⟩⟩, ⟨o0, o1, o2, o3, o4⟩⟩
end Go.Proofs.Ytcbpfofkdipjhaa.PJ
