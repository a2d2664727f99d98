/- What the reading of a struct tells, type by type. No condition. -/
import Derived.Test.YtgbbgdlenadhlaaOpen
import Derived.Test.YtgbbgdlenadhlaaPJx0
import Derived.ProofKit
import Derived.KernelRfl
namespace Go.Proofs.Ytgbbgdlenadhlaa.PJ
open Go.ChangeShapes Go.WideShapes Go.RowKit Go.Proofs.YtgbbgdlenadhlaaW.PrintWords Go.Proofs.Ytgbbgdlenadhlaa.Open
set_option linter.unusedVariables false
def ok54 (s : S54) : Prop := ((Lit.int .i64 s.f0).wf = true) ∧ ((Lit.int .i64 s.f1).wf = true)
theorem tells_S54 {H : Type} {enc : TypeId × Value → H} {w : World} : Tells enc Try.prog w 54 k54 ok54 := by
  intro base spare held fuel cs x h
  obtain ⟨hl, n, hF⟩ := fields_of Try.underlying54 (by kernel_rfl) (by kernel_rfl) h
  obtain ⟨v0, y0, e0, t0⟩ := hF 0 _ rfl
  obtain ⟨x0, K0, o0⟩ := (tells_int Try.underlying3) _ _ _ _ _ _ t0
  obtain ⟨v1, y1, e1, t1⟩ := hF 1 _ rfl
  obtain ⟨x1, K1, o1⟩ := (tells_int Try.underlying3) _ _ _ _ _ _ t1
  obtain rfl : cs = [v0, v1] := list2 hl e0 e1
  exact ⟨⟨x0, x1⟩, ⟨[v0], [v1], rfl, K0, K1⟩, ⟨o0, o1⟩⟩
def ok50 (s : S50) : Prop := (s.f0.size ≤ maxLen) ∧ ((Lit.int .i64 s.f1).wf = true) ∧ ((Lit.int .i64 s.f2).wf = true) ∧ ((Lit.int .i64 s.f3).wf = true) ∧ (s.f4.length ≤ maxLen ∧ ∀ x ∈ s.f4, ok54 x)
theorem tells_S50 {H : Type} {enc : TypeId × Value → H} {w : World} : Tells enc Try.prog w 50 k50 ok50 := by
  intro base spare held fuel cs x h
  obtain ⟨hl, n, hF⟩ := fields_of Try.underlying50 (by kernel_rfl) (by kernel_rfl) h
  obtain ⟨v0, y0, e0, t0⟩ := hF 0 _ rfl
  obtain ⟨x0, K0, o0⟩ := (tells_string Try.underlying9) _ _ _ _ _ _ t0
  obtain ⟨v1, y1, e1, t1⟩ := hF 1 _ rfl
  obtain ⟨x1, K1, o1⟩ := (tells_int Try.underlying3) _ _ _ _ _ _ t1
  obtain ⟨v2, y2, e2, t2⟩ := hF 2 _ rfl
  obtain ⟨x2, K2, o2⟩ := (tells_int Try.underlying3) _ _ _ _ _ _ t2
  obtain ⟨v3, y3, e3, t3⟩ := hF 3 _ rfl
  obtain ⟨x3, K3, o3⟩ := (tells_int Try.underlying3) _ _ _ _ _ _ t3
  obtain ⟨v4, y4, e4, t4⟩ := hF 4 _ rfl
  obtain ⟨x4, K4, o4⟩ := (tells_slice Try.underlying48 (by kernel_rfl) (tells_S54)) _ _ _ _ _ _ t4
  obtain rfl : cs = [v0, v1, v2, v3, v4] := list5 hl e0 e1 e2 e3 e4
  exact ⟨⟨x0, x1, x2, x3, x4⟩, ⟨[v0], [v1, v2, v3, v4], rfl, K0, ⟨[v1], [v2, v3, v4], rfl, K1, ⟨[v2], [v3, v4], rfl, K2, ⟨[v3], [v4], rfl, K3, K4⟩⟩⟩⟩, ⟨o0, o1, o2, o3, o4⟩⟩
def ok120 (s : S120) : Prop := ((Lit.int .i64 s.f0).wf = true) ∧ ((Lit.int .i64 s.f1).wf = true)
theorem tells_S120 {H : Type} {enc : TypeId × Value → H} {w : World} : Tells enc Try.prog w 120 k120 ok120 := by
  intro base spare held fuel cs x h
  obtain ⟨hl, n, hF⟩ := fields_of Try.underlying120 (by kernel_rfl) (by kernel_rfl) h
  obtain ⟨v0, y0, e0, t0⟩ := hF 0 _ rfl
  obtain ⟨x0, K0, o0⟩ := (tells_int Try.underlying3) _ _ _ _ _ _ t0
  obtain ⟨v1, y1, e1, t1⟩ := hF 1 _ rfl
  obtain ⟨x1, K1, o1⟩ := (tells_int Try.underlying3) _ _ _ _ _ _ t1
  obtain rfl : cs = [v0, v1] := list2 hl e0 e1
  exact ⟨⟨x0, x1⟩, ⟨[v0], [v1], rfl, K0, K1⟩, ⟨o0, o1⟩⟩
def ok108 (s : S108) : Prop := (s.f0.size ≤ maxLen) ∧ ((Lit.int .i64 s.f1).wf = true) ∧ ((Lit.int .i64 s.f2).wf = true) ∧ ((Lit.int .i64 s.f3).wf = true) ∧ (s.f4.length ≤ maxLen ∧ ∀ x ∈ s.f4, ok120 x)
theorem tells_S108 {H : Type} {enc : TypeId × Value → H} {w : World} : Tells enc Try.prog w 108 k108 ok108 := by
  intro base spare held fuel cs x h
  obtain ⟨hl, n, hF⟩ := fields_of Try.underlying108 (by kernel_rfl) (by kernel_rfl) h
  obtain ⟨v0, y0, e0, t0⟩ := hF 0 _ rfl
  obtain ⟨x0, K0, o0⟩ := (tells_string Try.underlying9) _ _ _ _ _ _ t0
  obtain ⟨v1, y1, e1, t1⟩ := hF 1 _ rfl
  obtain ⟨x1, K1, o1⟩ := (tells_int Try.underlying3) _ _ _ _ _ _ t1
  obtain ⟨v2, y2, e2, t2⟩ := hF 2 _ rfl
  obtain ⟨x2, K2, o2⟩ := (tells_int Try.underlying3) _ _ _ _ _ _ t2
  obtain ⟨v3, y3, e3, t3⟩ := hF 3 _ rfl
  obtain ⟨x3, K3, o3⟩ := (tells_int Try.underlying3) _ _ _ _ _ _ t3
  obtain ⟨v4, y4, e4, t4⟩ := hF 4 _ rfl
  obtain ⟨x4, K4, o4⟩ := (tells_slice Try.underlying106 (by kernel_rfl) (tells_S120)) _ _ _ _ _ _ t4
  obtain rfl : cs = [v0, v1, v2, v3, v4] := list5 hl e0 e1 e2 e3 e4
  exact ⟨⟨x0, x1, x2, x3, x4⟩, ⟨[v0], [v1, v2, v3, v4], rfl, K0, ⟨[v1], [v2, v3, v4], rfl, K1, ⟨[v2], [v3, v4], rfl, K2, ⟨[v3], [v4], rfl, K3, K4⟩⟩⟩⟩, ⟨o0, o1, o2, o3, o4⟩⟩
end Go.Proofs.Ytgbbgdlenadhlaa.PJ
