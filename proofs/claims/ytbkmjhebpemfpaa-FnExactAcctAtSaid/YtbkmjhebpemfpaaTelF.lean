/- What the reading of a struct tells, type by type. No condition. -/
import Derived.Test.YtbkmjhebpemfpaaOpen
import Derived.Test.YtbkmjhebpemfpaaPFx0
import Derived.ProofKit
import Derived.KernelRfl
namespace Go.Proofs.Ytbkmjhebpemfpaa.PF
open Go.ChangeShapes Go.WideShapes Go.RowKit Go.Proofs.YtbkmjhebpemfpaaW.PrintWords Go.Proofs.Ytbkmjhebpemfpaa.Open
set_option linter.unusedVariables false
def ok128 (s : S128) : Prop := ((Lit.int .i64 s.f0).wf = true) ∧ ((Lit.int .i64 s.f1).wf = true)
theorem tells_S128 {H : Type} {enc : TypeId × Value → H} {w : World} : Tells enc Try.prog w 128 k128 ok128 := by
  intro base spare held fuel cs x h
  obtain ⟨hl, n, hF⟩ := fields_of Try.underlying128 (by kernel_rfl) (by kernel_rfl) h
  obtain ⟨v0, y0, e0, t0⟩ := hF 0 _ rfl
  obtain ⟨x0, K0, o0⟩ := (tells_int Try.underlying3) _ _ _ _ _ _ t0
  obtain ⟨v1, y1, e1, t1⟩ := hF 1 _ rfl
  obtain ⟨x1, K1, o1⟩ := (tells_int Try.underlying3) _ _ _ _ _ _ t1
  obtain rfl : cs = [v0, v1] := list2 hl e0 e1
  exact ⟨⟨x0, x1⟩, ⟨[v0], [v1], rfl, K0, K1⟩, ⟨o0, o1⟩⟩
def ok33 (s : S33) : Prop := (s.f0.size ≤ maxLen) ∧ ((Lit.int .i64 s.f1).wf = true) ∧ ((Lit.int .i64 s.f2).wf = true) ∧ ((Lit.int .i64 s.f3).wf = true) ∧ (s.f4.length ≤ maxLen ∧ ∀ x ∈ s.f4, ok128 x)
theorem tells_S33 {H : Type} {enc : TypeId × Value → H} {w : World} : Tells enc Try.prog w 33 k33 ok33 := by
  intro base spare held fuel cs x h
  obtain ⟨hl, n, hF⟩ := fields_of Try.underlying33 (by kernel_rfl) (by kernel_rfl) h
  obtain ⟨v0, y0, e0, t0⟩ := hF 0 _ rfl
  obtain ⟨x0, K0, o0⟩ := (tells_string Try.underlying9) _ _ _ _ _ _ t0
  obtain ⟨v1, y1, e1, t1⟩ := hF 1 _ rfl
  obtain ⟨x1, K1, o1⟩ := (tells_int Try.underlying3) _ _ _ _ _ _ t1
  obtain ⟨v2, y2, e2, t2⟩ := hF 2 _ rfl
  obtain ⟨x2, K2, o2⟩ := (tells_int Try.underlying3) _ _ _ _ _ _ t2
  obtain ⟨v3, y3, e3, t3⟩ := hF 3 _ rfl
  obtain ⟨x3, K3, o3⟩ := (tells_int Try.underlying3) _ _ _ _ _ _ t3
  obtain ⟨v4, y4, e4, t4⟩ := hF 4 _ rfl
  obtain ⟨x4, K4, o4⟩ := (tells_slice Try.underlying31 (by kernel_rfl) (tells_S128)) _ _ _ _ _ _ t4
  obtain rfl : cs = [v0, v1, v2, v3, v4] := list5 hl e0 e1 e2 e3 e4
  exact ⟨⟨x0, x1, x2, x3, x4⟩, ⟨[v0], [v1, v2, v3, v4], rfl, K0, ⟨[v1], [v2, v3, v4], rfl, K1, ⟨[v2], [v3, v4], rfl, K2, ⟨[v3], [v4], rfl, K3, K4⟩⟩⟩⟩, ⟨o0, o1, o2, o3, o4⟩⟩
def ok81 (s : S81) : Prop := ((Lit.int .i64 s.f0).wf = true) ∧ ((Lit.int .i64 s.f1).wf = true)
theorem tells_S81 {H : Type} {enc : TypeId × Value → H} {w : World} : Tells enc Try.prog w 81 k81 ok81 := by
  intro base spare held fuel cs x h
  obtain ⟨hl, n, hF⟩ := fields_of Try.underlying81 (by kernel_rfl) (by kernel_rfl) h
  obtain ⟨v0, y0, e0, t0⟩ := hF 0 _ rfl
  obtain ⟨x0, K0, o0⟩ := (tells_int Try.underlying3) _ _ _ _ _ _ t0
  obtain ⟨v1, y1, e1, t1⟩ := hF 1 _ rfl
  obtain ⟨x1, K1, o1⟩ := (tells_int Try.underlying3) _ _ _ _ _ _ t1
  obtain rfl : cs = [v0, v1] := list2 hl e0 e1
  exact ⟨⟨x0, x1⟩, ⟨[v0], [v1], rfl, K0, K1⟩, ⟨o0, o1⟩⟩
def ok38 (s : S38) : Prop := (s.f0.size ≤ maxLen) ∧ ((Lit.int .i64 s.f1).wf = true) ∧ ((Lit.int .i64 s.f2).wf = true) ∧ ((Lit.int .i64 s.f3).wf = true) ∧ (s.f4.length ≤ maxLen ∧ ∀ x ∈ s.f4, ok81 x)
theorem tells_S38 {H : Type} {enc : TypeId × Value → H} {w : World} : Tells enc Try.prog w 38 k38 ok38 := by
  intro base spare held fuel cs x h
  obtain ⟨hl, n, hF⟩ := fields_of Try.underlying38 (by kernel_rfl) (by kernel_rfl) h
  obtain ⟨v0, y0, e0, t0⟩ := hF 0 _ rfl
  obtain ⟨x0, K0, o0⟩ := (tells_string Try.underlying9) _ _ _ _ _ _ t0
  obtain ⟨v1, y1, e1, t1⟩ := hF 1 _ rfl
  obtain ⟨x1, K1, o1⟩ := (tells_int Try.underlying3) _ _ _ _ _ _ t1
  obtain ⟨v2, y2, e2, t2⟩ := hF 2 _ rfl
  obtain ⟨x2, K2, o2⟩ := (tells_int Try.underlying3) _ _ _ _ _ _ t2
  obtain ⟨v3, y3, e3, t3⟩ := hF 3 _ rfl
  obtain ⟨x3, K3, o3⟩ := (tells_int Try.underlying3) _ _ _ _ _ _ t3
  obtain ⟨v4, y4, e4, t4⟩ := hF 4 _ rfl
  obtain ⟨x4, K4, o4⟩ := (tells_slice Try.underlying36 (by kernel_rfl) (tells_S81)) _ _ _ _ _ _ t4
  obtain rfl : cs = [v0, v1, v2, v3, v4] := list5 hl e0 e1 e2 e3 e4
  exact ⟨⟨x0, x1, x2, x3, x4⟩, ⟨[v0], [v1, v2, v3, v4], rfl, K0, ⟨[v1], [v2, v3, v4], rfl, K1, ⟨[v2], [v3, v4], rfl, K2, ⟨[v3], [v4], rfl, K3, K4⟩⟩⟩⟩, ⟨o0, o1, o2, o3, o4⟩⟩
end Go.Proofs.Ytbkmjhebpemfpaa.PF
