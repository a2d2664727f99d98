/- What the reading of a struct tells, type by type. No condition. -/
import Derived.Test.YtbkmjhebpemfpaaOpen
import Derived.Test.YtbkmjhebpemfpaaPAx0
import Derived.ProofKit
import Derived.KernelRfl
namespace Go.Proofs.Ytbkmjhebpemfpaa.PA
open Go.ChangeShapes Go.WideShapes Go.RowKit Go.Proofs.YtbkmjhebpemfpaaW.PrintWords Go.Proofs.Ytbkmjhebpemfpaa.Open
set_option linter.unusedVariables false
def ok128 (s : S128) : Prop := ((Lit.int .i64 s.f0).wf = true) ∧ ((Lit.int .i64 s.f1).wf = true)
theorem tells_S128 {H : Type} {enc : TypeId × Value → H} {w : World} : Tells enc Try.prog w 128 k128 ok128 := by
  intro base spare held fuel cs x h
  obtain ⟨hl, n, hF⟩ := fields_of Try.underlying128 (by kernel_rfl) (by kernel_rfl) h
  obtain ⟨v0, y0, e0, t0⟩ := hF 0 _ rfl
  obtain ⟨x0, K0, o0⟩ := (tells_int Try.underlying3) _ _ _ _ _ _ t0
  obtain ⟨v1, y1, e1, t1⟩ := hF 1 _ rfl
  obtain ⟨x1, K1, o1⟩ := (tells_int Try.underlying3) _ _ _ _ _ _ t1
  obtain rfl : cs = [v0, v1] := list2 hl e0 e1
  exact ⟨⟨x0, x1⟩, ⟨[v0], [v1], rfl, K0, K1⟩, ⟨o0, o1⟩⟩
def ok81 (s : S81) : Prop := ((Lit.int .i64 s.f0).wf = true) ∧ ((Lit.int .i64 s.f1).wf = true)
theorem tells_S81 {H : Type} {enc : TypeId × Value → H} {w : World} : Tells enc Try.prog w 81 k81 ok81 := by
  intro base spare held fuel cs x h
  obtain ⟨hl, n, hF⟩ := fields_of Try.underlying81 (by kernel_rfl) (by kernel_rfl) h
  obtain ⟨v0, y0, e0, t0⟩ := hF 0 _ rfl
  obtain ⟨x0, K0, o0⟩ := (tells_int Try.underlying3) _ _ _ _ _ _ t0
  obtain ⟨v1, y1, e1, t1⟩ := hF 1 _ rfl
  obtain ⟨x1, K1, o1⟩ := (tells_int Try.underlying3) _ _ _ _ _ _ t1
  obtain rfl : cs = [v0, v1] := list2 hl e0 e1
  exact ⟨⟨x0, x1⟩, ⟨[v0], [v1], rfl, K0, K1⟩, ⟨o0, o1⟩⟩
end Go.Proofs.Ytbkmjhebpemfpaa.PA
