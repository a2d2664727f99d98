/- The law FnExactApplyAll holds of the given program for every input. No condition. -/
import Derived.Test.YtcbpfofkdipjhaaRows
import Derived.Test.YtcbpfofkdipjhaaAAPJx21
import Derived.Test.YtcbpfofkdipjhaaAATelJ
import Derived.Test.YtcbpfofkdipjhaaAAPureFnExactApplyAll
import Derived.WalkKit
import Derived.ProofKit
import Derived.OpenShut
import Derived.ShutString
import Derived.ChangeOld
import Derived.Below
import Derived.SizedLaws
namespace Go.Proofs.Ytcbpfofkdipjhaa.fnExactApplyAll
open Go.ChangeShapes Go.WideShapes Go.ChangeAt Go.RowKit Go.Proofs.YtcbpfofkdipjhaaW.PrintWords Go.Proofs.Ytcbpfofkdipjhaa.Open Go.Proofs.Ytcbpfofkdipjhaa.PJ
open Go.ChangeMaps (open_string shut_string)
set_option linter.unusedVariables false
theorem own : ownKnob Try.prog.godebug = none := by kernel_rfl
theorem laidOut : laidOutB Try.prog = true := by kernel_rfl
set_option maxRecDepth 100000 in
theorem lifted (os : Os) (started : os.Started) (H : Type) (enc : TypeId × Value → H) :
    ReturnsInHanded {} Try.checked os 5 .any (Rows.fnExactApplyAllSpec.pre6 enc Try.prog Try.f5 Rows.fnExactApplyAllRow.domain false) (Rows.fnExactApplyAllSpec.post enc Try.prog Try.f5 false true false false) := by
  refine returnsInHanded_of_change_sized (C := Try.checked) own started (by kernel_rfl) Try.func5
    (ChangeSpec.witness6 (enc := enc) (C := Try.checked) false ⟨#[], #[.agg #[.int .i64 0, .slice none 0 0], .slice none 0 0], []⟩ 8 (by kernel_rfl) (by kernel_rfl) (by kernel_rfl) (by kernel_rfl)) ?_
  intro W base args ds gs before hval0 hW hcnd hsz0 _;have hval : ∀ (j : Nat) t v, Try.f5.params[j]? = some t → args[j]? = some v → Value.okWide Try.prog W .any base t v := hval0;have hW' := hW;obtain ⟨p, q, hA0, hV, rfl, hfz, hnd⟩ := hW;have hA : DataW.TrodAll enc Try.prog W 0 (fun _ => true) true Try.f5.params.toList args.toList ds p := hA0;rw [Try.params5] at hA hval;obtain ⟨v0, vs0, d0, ds0, p0, q0, hargs, rfl, rfl, h0, r0⟩ := trodAll_cons hA;obtain ⟨v1, vs1, d1, ds1, p1, q1, rfl, rfl, rfl, h1, r1⟩ := trodAll_cons r0;obtain ⟨rfl, rfl, rfl⟩ := trodAll_nil r1
  obtain rfl : args = #[v0, v1] := by cases args; simp_all
  obtain ⟨rfl, rfl⟩ := trodVars_none hV;obtain ⟨cs0, rfl, hs0⟩ := okWide_struct Try.underlying24 (hval 0 24 v0 rfl rfl);have b0 := h0
  have lt0 : ∀ x ∈ p0, x.block < W.heap.size := by obtain ⟨m, hm⟩ := b0; exact DataW.trod_lt m _ _ _ hm
  obtain ⟨u0, g0⟩ := h0;obtain ⟨hl0, m0, hF0⟩ := fields_of Try.underlying24 (by kernel_rfl) (by kernel_rfl) g0;obtain ⟨v0_0, y0_0, e0_0, t0_0⟩ := hF0 0 _ rfl;obtain ⟨x0_0, K0_0, w0_0⟩ := (tells_int Try.underlying3) _ _ _ _ _ _ t0_0;obtain ⟨v0_1, y0_1, e0_1, t0_1⟩ := hF0 1 _ rfl;obtain ⟨x0_1, K0_1, w0_1⟩ := (tells_slice Try.underlying22 (by kernel_rfl) (tells_S125)) _ _ _ _ _ _ t0_1;have E0 := list2 hl0 e0_0 e0_1
  obtain rfl : cs0 = #[v0_0, v0_1] := by apply Array.ext'; simpa [Value.cells] using E0
  obtain rfl := (List.cons.inj (show [v0_0] = [_] from K0_0)).1;obtain ⟨A0_1, c0_1, Q0_1, hc0_1, hr0_1⟩ := K0_1;obtain rfl := (List.cons.inj Q0_1).1;obtain ⟨a1, n1, c1, rfl⟩ := okWide_slice Try.underlying50 (hval 1 50 v1 rfl rfl);have b1 := h1
  have lt1 : ∀ x ∈ p1, x.block < W.heap.size := by obtain ⟨m, hm⟩ := b1; exact DataW.trod_lt m _ _ _ hm
  obtain ⟨l1, rfl, hc1, hr1, w1⟩ := tells_arg_slice rfl (tells_slice Try.underlying50 (by kernel_rfl) (tells_S26)) h1;clear hA0 hval0 hsz0;obtain ⟨k, hk⟩ := Pure.FnExactApplyAll x0_0 x0_1 l1 w0_0 w0_1 w1
  refine (laws_FnExactApplyAll.calls k x0_0 _ _ x0_1 _ _ l1 true W hr0_1 hc0_1 hr1 hc1 hk).mono fun e W' hh => ?_
  obtain ⟨he, hd⟩ := hh;have bel : Below W.heap.size W W' := hd;subst he;exact ⟨_, rfl, _, _, _, [], _, [], hW', trodAll_mk1 (shut_bool Try.underlying4 _), (trodAll_cons_mk (Below.trod laidOut (by kernel_rfl) (of_decide_eq_true (by kernel_rfl)) b0 bel lt0) (trodAll_cons_mk (Below.trod laidOut (by kernel_rfl) (of_decide_eq_true (by kernel_rfl)) b1 bel lt1) trodAll_mk0)), rfl, bel.frame _, fun h => by cases h⟩
theorem over : Rows.fnExactApplyAllRow.holds Try.pinned (OpenSpec.ofChange Rows.fnExactApplyAllSpec) :=
  OpenClaim.holds_of_wide 5 Try.f5 rfl rfl rfl rfl rfl rfl rfl ⟨rfl, rfl, rfl, rfl, rfl⟩ rfl rfl rfl rfl rfl (by kernel_rfl) Try.func5 (by kernel_rfl)
    (of_decide_eq_true (by kernel_rfl)) (by unfold Func.isWrapper; first | (rw [if_pos (by decide +kernel)]; kernel_rfl) | (rw [if_neg (by decide +kernel)]; exact ⟨rfl, rfl⟩))
    (fun os started H enc _ => lifted os started H enc)
theorem proved : Rows.FnExactApplyAllSaid := over
#print axioms proved
end Go.Proofs.Ytcbpfofkdipjhaa.fnExactApplyAll
namespace Go.Proofs.Ytcbpfofkdipjhaa
/-- The row, under a short name, for the claim. -/
theorem fnExactApplyAll_holds : Rows.FnExactApplyAllSaid := fnExactApplyAll.proved
end Go.Proofs.Ytcbpfofkdipjhaa
