/- The law FnExactAcctOk holds of the given program for every input. No condition. -/
import Derived.Test.YtbkmjhebpemfpaaRows
import Derived.Test.YtbkmjhebpemfpaaPAx3
import Derived.Test.YtbkmjhebpemfpaaTelA
import Derived.Test.YtbkmjhebpemfpaaPureFnExactAcctOk
import Derived.WalkKit
import Derived.ProofKit
import Derived.OpenShut
import Derived.ShutString
import Derived.ChangeOld
import Derived.Below
import Derived.SizedLaws
namespace Go.Proofs.Ytbkmjhebpemfpaa.fnExactAcctOk
open Go.ChangeShapes Go.WideShapes Go.ChangeAt Go.RowKit Go.Proofs.YtbkmjhebpemfpaaW.PrintWords Go.Proofs.Ytbkmjhebpemfpaa.Open Go.Proofs.Ytbkmjhebpemfpaa.PA
open Go.ChangeMaps (open_string shut_string)
set_option linter.unusedVariables false
theorem own : ownKnob Try.prog.godebug = none := by kernel_rfl
theorem laidOut : laidOutB Try.prog = true := by kernel_rfl
set_option maxRecDepth 100000 in
theorem lifted (os : Os) (started : os.Started) (H : Type) (enc : TypeId × Value → H) :
    ReturnsInHanded {} Try.checked os 4 .any (Rows.fnExactAcctOkSpec.pre6 enc Try.prog Try.f4 Rows.fnExactAcctOkRow.domain false) (Rows.fnExactAcctOkSpec.post enc Try.prog Try.f4 false true false false) := by
  refine returnsInHanded_of_change_sized (C := Try.checked) own started (by kernel_rfl) Try.func4
    (ChangeSpec.witness6 (enc := enc) (C := Try.checked) false ⟨#[], #[.agg #[.string ByteArray.empty, .int .i64 0, .int .i64 0, .int .i64 0, .slice none 0 0]], []⟩ 8 (by kernel_rfl) (by kernel_rfl) (by kernel_rfl) (by kernel_rfl)) ?_
  intro W base args ds gs before hval0 hW hcnd hsz0 _
  have hval : ∀ (j : Nat) t v, Try.f4.params[j]? = some t → args[j]? = some v → Value.okWide Try.prog W .any base t v := hval0
  have hW' := hW
  obtain ⟨p, q, hA0, hV, rfl, hfz, hnd⟩ := hW
  have hA : DataW.TrodAll enc Try.prog W 0 (fun _ => true) true Try.f4.params.toList args.toList ds p := hA0
  rw [Try.params4] at hA hval
  obtain ⟨v0, vs0, d0, ds0, p0, q0, hargs, rfl, rfl, h0, r0⟩ := trodAll_cons hA
  obtain ⟨rfl, rfl, rfl⟩ := trodAll_nil r0
  obtain rfl : args = #[v0] := by cases args; simp_all
  obtain ⟨rfl, rfl⟩ := trodVars_none hV
  obtain ⟨cs0, rfl, hs0⟩ := okWide_struct Try.underlying33 (hval 0 33 v0 rfl rfl)
  have b0 := h0
  have lt0 : ∀ x ∈ p0, x.block < W.heap.size := by obtain ⟨m, hm⟩ := b0; exact DataW.trod_lt m _ _ _ hm
  obtain ⟨u0, g0⟩ := h0
  obtain ⟨hl0, m0, hF0⟩ := fields_of Try.underlying33 (by kernel_rfl) (by kernel_rfl) g0
  obtain ⟨v0_0, y0_0, e0_0, t0_0⟩ := hF0 0 _ rfl
  obtain ⟨x0_0, K0_0, w0_0⟩ := (tells_string Try.underlying9) _ _ _ _ _ _ t0_0
  obtain ⟨v0_1, y0_1, e0_1, t0_1⟩ := hF0 1 _ rfl
  obtain ⟨x0_1, K0_1, w0_1⟩ := (tells_int Try.underlying3) _ _ _ _ _ _ t0_1
  obtain ⟨v0_2, y0_2, e0_2, t0_2⟩ := hF0 2 _ rfl
  obtain ⟨x0_2, K0_2, w0_2⟩ := (tells_int Try.underlying3) _ _ _ _ _ _ t0_2
  obtain ⟨v0_3, y0_3, e0_3, t0_3⟩ := hF0 3 _ rfl
  obtain ⟨x0_3, K0_3, w0_3⟩ := (tells_int Try.underlying3) _ _ _ _ _ _ t0_3
  obtain ⟨v0_4, y0_4, e0_4, t0_4⟩ := hF0 4 _ rfl
  obtain ⟨x0_4, K0_4, w0_4⟩ := (tells_slice Try.underlying31 (by kernel_rfl) (tells_S128)) _ _ _ _ _ _ t0_4
  have E0 := list5 hl0 e0_0 e0_1 e0_2 e0_3 e0_4
  obtain rfl : cs0 = #[v0_0, v0_1, v0_2, v0_3, v0_4] := by apply Array.ext'; simpa [Value.cells] using E0
  obtain rfl := (List.cons.inj (show [v0_0] = [_] from K0_0)).1
  obtain rfl := (List.cons.inj (show [v0_1] = [_] from K0_1)).1
  obtain rfl := (List.cons.inj (show [v0_2] = [_] from K0_2)).1
  obtain rfl := (List.cons.inj (show [v0_3] = [_] from K0_3)).1
  obtain ⟨A0_4, c0_4, Q0_4, hc0_4, hr0_4⟩ := K0_4
  obtain rfl := (List.cons.inj Q0_4).1
  clear hA0 hval0 hsz0
  obtain ⟨k, hk⟩ := Pure.FnExactAcctOk x0_0 x0_1 x0_2 x0_3 x0_4 w0_0 w0_1 w0_2 w0_3 w0_4
  refine (laws_FnExactAcctOk.calls k x0_0 x0_1 x0_2 x0_3 _ _ x0_4 true W hr0_4 hc0_4 hk).mono fun e W' hh => ?_
  obtain ⟨he, hd⟩ := hh
  have bel : Below W.heap.size W W' := hd
  subst he
  exact ⟨_, rfl, _, _, _, [], _, [], hW', trodAll_mk1 (shut_bool Try.underlying4 _), (trodAll_cons_mk (Below.trod laidOut (by kernel_rfl) (of_decide_eq_true (by kernel_rfl)) b0 bel lt0) trodAll_mk0), rfl, bel.frame _, fun h => by cases h⟩
theorem over : Rows.fnExactAcctOkRow.holds Try.pinned (OpenSpec.ofChange Rows.fnExactAcctOkSpec) :=
  OpenClaim.holds_of_wide 4 Try.f4 rfl rfl rfl rfl rfl rfl rfl ⟨rfl, rfl, rfl, rfl, rfl⟩ rfl rfl rfl rfl rfl (by kernel_rfl) Try.func4 (by kernel_rfl)
    (of_decide_eq_true (by kernel_rfl)) (by unfold Func.isWrapper; first | (rw [if_pos (by decide +kernel)]; kernel_rfl) | (rw [if_neg (by decide +kernel)]; exact ⟨rfl, rfl⟩))
    (fun os started H enc _ => lifted os started H enc)
theorem proved : Rows.FnExactAcctOkSaid := over
#print axioms proved
end Go.Proofs.Ytbkmjhebpemfpaa.fnExactAcctOk
namespace Go.Proofs.Ytbkmjhebpemfpaa
/-- The row, under a short name, for the claim. -/
theorem fnExactAcctOk_holds : Rows.FnExactAcctOkSaid := fnExactAcctOk.proved
end Go.Proofs.Ytbkmjhebpemfpaa
