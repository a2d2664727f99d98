/- The law FnExactPutTx holds of the given program for every input. No condition. -/
import Derived.Test.YtcmlbjlbgcdogaaRows
import Derived.Test.YtcmlbjlbgcdogaaPIx6
import Derived.Test.YtcmlbjlbgcdogaaTelI
import Derived.Test.YtcmlbjlbgcdogaaPureFnExactPutTx
import Derived.WalkKit
import Derived.ProofKit
import Derived.OpenShut
import Derived.ShutString
import Derived.ChangeOld
import Derived.Below
import Derived.SizedLaws
namespace Go.Proofs.Ytcmlbjlbgcdogaa.fnExactPutTx
open Go.ChangeShapes Go.WideShapes Go.ChangeAt Go.RowKit Go.Proofs.YtcmlbjlbgcdogaaW.PrintWords Go.Proofs.Ytcmlbjlbgcdogaa.Open Go.Proofs.Ytcmlbjlbgcdogaa.PI
open Go.ChangeMaps (open_string shut_string)
set_option linter.unusedVariables false
theorem own : ownKnob Try.prog.godebug = none := by kernel_rfl
theorem laidOut : laidOutB Try.prog = true := by kernel_rfl
set_option maxRecDepth 100000 in
theorem lifted (os : Os) (started : os.Started) (H : Type) (enc : TypeId × Value → H) :
    ReturnsInHanded {} Try.checked os 13 .any (Rows.fnExactPutTxSpec.pre6 enc Try.prog Try.f13 Rows.fnExactPutTxRow.domain false) (Rows.fnExactPutTxSpec.post enc Try.prog Try.f13 false true false false) := by
  refine returnsInHanded_of_change_sized (C := Try.checked) own started (by kernel_rfl) Try.func13
    (ChangeSpec.witness6 (enc := enc) (C := Try.checked) false ⟨#[], #[.slice none 0 0, .agg #[.int .i64 0, .string ByteArray.empty, .string ByteArray.empty, .int .i64 0, .int .i64 0]], []⟩ 8 (by kernel_rfl) (by kernel_rfl) (by kernel_rfl) (by kernel_rfl)) ?_
  intro W base args ds gs before hval0 hW hcnd hsz0 _
  have hval : ∀ (j : Nat) t v, Try.f13.params[j]? = some t → args[j]? = some v → Value.okWide Try.prog W .any base t v := hval0
  have hW' := hW
  obtain ⟨p, q, hA0, hV, rfl, hfz, hnd⟩ := hW
  have hA : DataW.TrodAll enc Try.prog W 0 (fun _ => true) true Try.f13.params.toList args.toList ds p := hA0
  rw [Try.params13] at hA hval
  obtain ⟨v0, vs0, d0, ds0, p0, q0, hargs, rfl, rfl, h0, r0⟩ := trodAll_cons hA
  obtain ⟨v1, vs1, d1, ds1, p1, q1, rfl, rfl, rfl, h1, r1⟩ := trodAll_cons r0
  obtain ⟨rfl, rfl, rfl⟩ := trodAll_nil r1
  obtain rfl : args = #[v0, v1] := by cases args; simp_all
  obtain ⟨rfl, rfl⟩ := trodVars_none hV
  obtain ⟨a0, n0, c0, rfl⟩ := okWide_slice Try.underlying22 (hval 0 22 v0 rfl rfl)
  have b0 := h0
  have lt0 : ∀ x ∈ p0, x.block < W.heap.size := by obtain ⟨m, hm⟩ := b0; exact DataW.trod_lt m _ _ _ hm
  obtain ⟨l0, rfl, hc0, hr0, w0⟩ := tells_arg_slice rfl (tells_slice Try.underlying22 (by kernel_rfl) (tells_int Try.underlying5)) h0
  obtain ⟨cs1, rfl, hs1⟩ := okWide_struct Try.underlying61 (hval 1 61 v1 rfl rfl)
  have b1 := h1
  have lt1 : ∀ x ∈ p1, x.block < W.heap.size := by obtain ⟨m, hm⟩ := b1; exact DataW.trod_lt m _ _ _ hm
  obtain ⟨u1, g1⟩ := h1
  obtain ⟨hl1, m1, hF1⟩ := fields_of Try.underlying61 (by kernel_rfl) (by kernel_rfl) g1
  obtain ⟨v1_0, y1_0, e1_0, t1_0⟩ := hF1 0 _ rfl
  obtain ⟨x1_0, K1_0, w1_0⟩ := (tells_int Try.underlying3) _ _ _ _ _ _ t1_0
  obtain ⟨v1_1, y1_1, e1_1, t1_1⟩ := hF1 1 _ rfl
  obtain ⟨x1_1, K1_1, w1_1⟩ := (tells_string Try.underlying9) _ _ _ _ _ _ t1_1
  obtain ⟨v1_2, y1_2, e1_2, t1_2⟩ := hF1 2 _ rfl
  obtain ⟨x1_2, K1_2, w1_2⟩ := (tells_string Try.underlying9) _ _ _ _ _ _ t1_2
  obtain ⟨v1_3, y1_3, e1_3, t1_3⟩ := hF1 3 _ rfl
  obtain ⟨x1_3, K1_3, w1_3⟩ := (tells_int Try.underlying3) _ _ _ _ _ _ t1_3
  obtain ⟨v1_4, y1_4, e1_4, t1_4⟩ := hF1 4 _ rfl
  obtain ⟨x1_4, K1_4, w1_4⟩ := (tells_int Try.underlying3) _ _ _ _ _ _ t1_4
  have E1 := list5 hl1 e1_0 e1_1 e1_2 e1_3 e1_4
  obtain rfl : cs1 = #[v1_0, v1_1, v1_2, v1_3, v1_4] := by apply Array.ext'; simpa [Value.cells] using E1
  obtain rfl := (List.cons.inj (show [v1_0] = [_] from K1_0)).1
  obtain rfl := (List.cons.inj (show [v1_1] = [_] from K1_1)).1
  obtain rfl := (List.cons.inj (show [v1_2] = [_] from K1_2)).1
  obtain rfl := (List.cons.inj (show [v1_3] = [_] from K1_3)).1
  obtain rfl := (List.cons.inj (show [v1_4] = [_] from K1_4)).1
  clear hA0 hval0 hsz0
  obtain ⟨k, hk⟩ := Pure.FnExactPutTx l0 x1_0 x1_1 x1_2 x1_3 x1_4 w0 w1_0 w1_1 w1_2 w1_3 w1_4
  refine (laws_FnExactPutTx.calls k _ _ l0 x1_0 x1_1 x1_2 x1_3 x1_4 true W hr0 hc0 hk).mono fun e W' hh => ?_
  obtain ⟨he, hd⟩ := hh
  have bel : Below W.heap.size W W' := hd
  subst he
  exact ⟨_, rfl, _, _, _, [], _, [], hW', trodAll_mk1 (shut_bool Try.underlying4 _), (trodAll_cons_mk (Below.trod laidOut (by kernel_rfl) (of_decide_eq_true (by kernel_rfl)) b0 bel lt0) (trodAll_cons_mk (Below.trod laidOut (by kernel_rfl) (of_decide_eq_true (by kernel_rfl)) b1 bel lt1) trodAll_mk0)), rfl, bel.frame _, fun h => by cases h⟩
theorem over : Rows.fnExactPutTxRow.holds Try.pinned (OpenSpec.ofChange Rows.fnExactPutTxSpec) :=
  OpenClaim.holds_of_wide 13 Try.f13 rfl rfl rfl rfl rfl rfl rfl ⟨rfl, rfl, rfl, rfl, rfl⟩ rfl rfl rfl rfl rfl (by kernel_rfl) Try.func13 (by kernel_rfl)
    (of_decide_eq_true (by kernel_rfl)) (by unfold Func.isWrapper; first | (rw [if_pos (by decide +kernel)]; kernel_rfl) | (rw [if_neg (by decide +kernel)]; exact ⟨rfl, rfl⟩))
    (fun os started H enc _ => lifted os started H enc)
theorem proved : Rows.FnExactPutTxSaid := over
#print axioms proved
end Go.Proofs.Ytcmlbjlbgcdogaa.fnExactPutTx
namespace Go.Proofs.Ytcmlbjlbgcdogaa
/-- The row, under a short name, for the claim. -/
theorem fnExactPutTx_holds : Rows.FnExactPutTxSaid := fnExactPutTx.proved
end Go.Proofs.Ytcmlbjlbgcdogaa
