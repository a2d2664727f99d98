/- What the printed functions of the byte level compute, each said by a plain Lean function. No condition but sizes. -/
import Derived.Test.YtcbpfofkdipjhaaAQPMx0
import Derived.Test.YtcbpfofkdipjhaaAQPMx1
import Derived.Test.YtcbpfofkdipjhaaAQPMx8
import Derived.Test.YtcbpfofkdipjhaaAQBase
namespace Go.Proofs.Ytcbpfofkdipjhaa.PM
open Go.RowKit Go.Proofs.YtcbpfofkdipjhaaW.PrintWords Go.Proofs.YtcbpfofkdipjhaaW.PrintLast Go.Proofs.YtcbpfofkdipjhaaW.PrintMore Go.Proofs.Ytcbpfofkdipjhaa.Base
set_option linter.unusedVariables false
theorem l1In_eq (a b c : Int) : spec_l1In.f a b c = some (decide (b ≤ a) && decide (a ≤ c)) := by
  unfold spec_l1In.f
  by_cases h : a ≥ b
  · rw [if_pos h]
    simp [show b ≤ a from h]
  · rw [if_neg h]
    simp [show ¬ b ≤ a from h]
theorem inRange_eq (a b c : Int) : impl_inRange.f a b c = some (decide (b ≤ a) && decide (a ≤ c)) := by
  unfold impl_inRange.f
  by_cases h : a ≥ b
  · rw [if_pos h]
    simp [show b ≤ a from h]
  · rw [if_neg h]
    simp [show ¬ b ≤ a from h]
theorem sNameOk_l (s : ByteArray) (h : s.size ≤ 9223372036854775807) : ∀ (d i : Nat), i + d = s.size → Ev (fun k => spec_NameOk.l0 k s (i : Int)) (((bytesOf s).drop i).all nmc && lenOk s.size) := by
  intro d
  induction d with
  | zero =>
    intro i hi
    refine evOne fun k => ?_
    simp only [spec_NameOk.l0];rw [if_neg (by omega), l1In_eq, List.drop_of_length_le (by rw [bytes_length]; omega)];simp [lenOk];rw [Bool.eq_iff_iff];simp
    omega
  | succ d ih =>
    intro i hi
    have hlt : i < (bytesOf s).length := by rw [bytes_length]; omega
    have hb := (bytes_all s).get i hlt;rw [drop_rd hlt, List.all_cons]
    have e : ∀ k, spec_NameOk.l0 (k + 1) s (i : Int) = if nmc (rd (bytesOf s) (i : Int)) = true then spec_NameOk.l0 k s ((i + 1 : Nat) : Int) else some false := by
      intro k;simp only [spec_NameOk.l0];rw [if_pos (by omega), if_pos (by omega), bt_rd, w64 (by omega) (by omega), w64 (x := (i : Int) + 1) (by omega) (by omega), l1In_eq, l1In_eq];simp only [Option.bind_some];unfold nmc
      cases h1 : (decide (97 ≤ rd (bytesOf s) (i : Int)) && decide (rd (bytesOf s) (i : Int) ≤ 122)) with
      | true => simp
      | false => simp
    by_cases hn : nmc (rd (bytesOf s) (i : Int)) = true
    · refine Ev.step (f := fun k => spec_NameOk.l0 k s ((i + 1 : Nat) : Int)) (fun k => by rw [e, if_pos hn]) (evEq (ih (i + 1) (by omega)) (by simp [hn]))
    · refine evOne fun k => ?_
      rw [e, if_neg hn];simp [hn]
theorem sNameOk_ev (s : ByteArray) (h : s.size ≤ 9223372036854775807) : Ev (fun k => spec_NameOk.f k s) (nameOk s) := evEq (sNameOk_l s h s.size 0 (by omega)) (by simp [nameOk])
theorem iNameOk_l (s : ByteArray) (h : s.size ≤ 9223372036854775807) : ∀ (d i : Nat), i + d = s.size → Ev (fun k => impl_NameOk.l0 k s (i : Int)) (((bytesOf s).drop i).all nmc && lenOk s.size) := by
  intro d
  induction d with
  | zero =>
    intro i hi
    refine evOne fun k => ?_
    simp only [impl_NameOk.l0];rw [if_neg (by omega), inRange_eq, List.drop_of_length_le (by rw [bytes_length]; omega)];simp [lenOk];rw [Bool.eq_iff_iff];simp
    omega
  | succ d ih =>
    intro i hi
    have hlt : i < (bytesOf s).length := by rw [bytes_length]; omega
    have hb := (bytes_all s).get i hlt;rw [drop_rd hlt, List.all_cons]
    have e : ∀ k, impl_NameOk.l0 (k + 1) s (i : Int) = if nmc (rd (bytesOf s) (i : Int)) = true then impl_NameOk.l0 k s ((i + 1 : Nat) : Int) else some false := by
      intro k;simp only [impl_NameOk.l0];rw [if_pos (by omega), if_pos (by omega), bt_rd, w64 (x := (i : Int) + 1) (by omega) (by omega)];unfold nmc
      repeat' split
      all_goals first | rfl | (simp_all; done) | (simp_all; omega)
    by_cases hn : nmc (rd (bytesOf s) (i : Int)) = true
    · refine Ev.step (f := fun k => impl_NameOk.l0 k s ((i + 1 : Nat) : Int)) (fun k => by rw [e, if_pos hn]) (evEq (ih (i + 1) (by omega)) (by simp [hn]))
    · refine evOne fun k => ?_
      rw [e, if_neg hn];simp [hn]
theorem iNameOk_ev (s : ByteArray) (h : s.size ≤ 9223372036854775807) : Ev (fun k => impl_NameOk.f k s) (nameOk s) := evEq (iNameOk_l s h s.size 0 (by omega)) (by simp [nameOk])
end Go.Proofs.Ytcbpfofkdipjhaa.PM
