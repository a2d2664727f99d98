/- What the reading of a struct tells, type by type. No condition. -/
import Derived.Test.YtndkcifblnfaoaaOpen
import Derived.Test.YtndkcifblnfaoaaPAx0
import Derived.ProofKit
import Derived.KernelRfl
namespace Go.Proofs.Ytndkcifblnfaoaa.PA
open Go.ChangeShapes Go.WideShapes Go.RowKit Go.Proofs.YtndkcifblnfaoaaW.PrintWords Go.Proofs.Ytndkcifblnfaoaa.Open
set_option linter.unusedVariables false
def ok101 (s : S101) : Prop := (s.f0.size ≤ maxLen) ∧ ((Lit.int .i64 s.f1).wf = true)
theorem tells_S101 {H : Type} {enc : TypeId × Value → H} {w : World} : Tells enc Try.prog w 101 k101 ok101 := by
  intro base spare held fuel cs x h
  obtain ⟨hl, n, hF⟩ := fields_of Try.underlying101 (by kernel_rfl) (by kernel_rfl) h
  obtain ⟨v0, y0, e0, t0⟩ := hF 0 _ rfl
  obtain ⟨x0, K0, o0⟩ := (tells_string Try.underlying9) _ _ _ _ _ _ t0
  obtain ⟨v1, y1, e1, t1⟩ := hF 1 _ rfl
  obtain ⟨x1, K1, o1⟩ := (tells_int Try.underlying3) _ _ _ _ _ _ t1
  obtain rfl : cs = [v0, v1] := list2 hl e0 e1
  exact ⟨⟨x0, x1⟩, ⟨[v0], [v1], rfl, K0, K1⟩, ⟨o0, o1⟩⟩
def ok102 (s : S102) : Prop := (s.f0.size ≤ maxLen) ∧ ((Lit.int .i64 s.f1).wf = true)
theorem tells_S102 {H : Type} {enc : TypeId × Value → H} {w : World} : Tells enc Try.prog w 102 k102 ok102 := by
  intro base spare held fuel cs x h
  obtain ⟨hl, n, hF⟩ := fields_of Try.underlying102 (by kernel_rfl) (by kernel_rfl) h
  obtain ⟨v0, y0, e0, t0⟩ := hF 0 _ rfl
  obtain ⟨x0, K0, o0⟩ := (tells_string Try.underlying9) _ _ _ _ _ _ t0
  obtain ⟨v1, y1, e1, t1⟩ := hF 1 _ rfl
  obtain ⟨x1, K1, o1⟩ := (tells_int Try.underlying3) _ _ _ _ _ _ t1
  obtain rfl : cs = [v0, v1] := list2 hl e0 e1
  exact ⟨⟨x0, x1⟩, ⟨[v0], [v1], rfl, K0, K1⟩, ⟨o0, o1⟩⟩
end Go.Proofs.Ytndkcifblnfaoaa.PA
