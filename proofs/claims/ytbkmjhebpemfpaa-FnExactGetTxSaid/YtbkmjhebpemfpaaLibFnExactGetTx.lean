/- What the printed functions of the byte level compute, each said by a plain Lean function. No condition but sizes. -/
import Derived.Test.YtbkmjhebpemfpaaPEx0
import Derived.Test.YtbkmjhebpemfpaaPEx1
import Derived.Test.YtbkmjhebpemfpaaPEx2
import Derived.Test.YtbkmjhebpemfpaaPEx3
import Derived.Test.YtbkmjhebpemfpaaPEx5
import Derived.Test.YtbkmjhebpemfpaaBase
namespace Go.Proofs.Ytbkmjhebpemfpaa.PE
open Go.RowKit Go.Proofs.YtbkmjhebpemfpaaW.PrintWords Go.Proofs.YtbkmjhebpemfpaaW.PrintLast Go.Proofs.YtbkmjhebpemfpaaW.PrintMore Go.Proofs.Ytbkmjhebpemfpaa.Base
set_option linter.unusedVariables false
theorem toByteS_l (x0 : List Int) (h : x0.length ≤ 281474976710656) : ∀ (d i : Nat) (x3 : List Int), i + d = x0.length → x3.length = x0.length → Ev (fun k => laws_toByteS.l0 k x0 x3 (i : Int)) (x3.take i ++ x0.drop i) := by
  intro d
  induction d with
  | zero =>
    intro i x3 hi hl
    refine evOne fun k => ?_
    simp only [laws_toByteS.l0]
    rw [if_neg (by omega), List.take_of_length_le (by omega), List.drop_of_length_le (by omega), List.append_nil]
  | succ d ih =>
    intro i x3 hi hl
    have hlt : i < x0.length := by omega
    have h1 := ih (i + 1) (x3.set i x0[i]) (by omega) (by simp; exact hl)
    rw [set_step hlt hl] at h1
    refine Ev.step (f := fun k => laws_toByteS.l0 k x0 (x3.set i x0[i]) ((i + 1 : Nat) : Int)) (fun k => ?_) h1
    simp only [laws_toByteS.l0]
    rw [if_pos (by omega), if_pos (by omega), if_pos (by omega), rd_get hlt, w64 (by omega) (by omega), Int.toNat_natCast]
    rfl
theorem toByteS_ev (l : List Int) (h : l.length ≤ 281474976710656) : Ev (fun k => laws_toByteS.f k l) l := by
  have h1 := toByteS_l l h l.length 0 (List.replicate l.length 0) (by omega) (by simp)
  simp only [laws_toByteS.f]
  simp only [Int.toNat_natCast]
  refine evPos (by omega) (evPos h (evEq h1 (by simp)))
theorem eqByteS_l (x0 x1 : List Int) (h : x0.length ≤ 281474976710656) (hl : x0.length = x1.length) : ∀ (d i : Nat), i + d = x0.length → Ev (fun k => laws_eqByteS.l0 k x0 x1 (i : Int)) (decide (x0.drop i = x1.drop i)) := by
  intro d
  induction d with
  | zero =>
    intro i hi
    refine evOne fun k => ?_
    simp only [laws_eqByteS.l0]
    rw [if_neg (by omega), List.drop_of_length_le (by omega), List.drop_of_length_le (by omega)]
    simp
  | succ d ih =>
    intro i hi
    have hlt : i < x0.length := by omega
    have hlt1 : i < x1.length := by omega
    rw [drop_rd hlt, drop_rd hlt1]
    by_cases he : rd x0 (i : Int) = rd x1 (i : Int)
    · refine Ev.step (f := fun k => laws_eqByteS.l0 k x0 x1 ((i + 1 : Nat) : Int)) (fun k => ?_) (evEq (ih (i + 1) (by omega)) (by simp [he]))
      simp only [laws_eqByteS.l0]
      rw [if_pos (by omega), if_pos (by omega), if_pos (by omega), if_pos he, w64 (by omega) (by omega)]
      rfl
    · refine evOne fun k => ?_
      simp only [laws_eqByteS.l0]
      rw [if_pos (by omega), if_pos (by omega), if_pos (by omega), if_neg he]
      simp [he]
theorem eqByteS_ev (a b : List Int) (h : a.length ≤ 281474976710656) : Ev (fun k => laws_eqByteS.f k a b) (decide (a = b)) := by
  by_cases hl : a.length = b.length
  · refine Ev.congr (f := fun k => laws_eqByteS.l0 k a b 0) (fun k => ?_) (evEq (eqByteS_l a b h hl a.length 0 (by omega)) (by simp))
    simp only [laws_eqByteS.f]
    rw [if_pos (by omega)]
  · refine evVal fun k => ?_
    simp only [laws_eqByteS.f]
    rw [if_neg (by omega)]
    simp
    intro he
    exact hl (by rw [he])
theorem l1In_eq (a b c : Int) : spec_l1In.f a b c = some (decide (b ≤ a) && decide (a ≤ c)) := by
  unfold spec_l1In.f
  by_cases h : a ≥ b
  · rw [if_pos h]
    simp [show b ≤ a from h]
  · rw [if_neg h]
    simp [show ¬ b ≤ a from h]
theorem inRange_eq (a b c : Int) : impl_inRange.f a b c = some (decide (b ≤ a) && decide (a ≤ c)) := by
  unfold impl_inRange.f
  by_cases h : a ≥ b
  · rw [if_pos h]
    simp [show b ≤ a from h]
  · rw [if_neg h]
    simp [show ¬ b ≤ a from h]
theorem sNameOk_l (s : ByteArray) (h : s.size ≤ 9223372036854775807) : ∀ (d i : Nat), i + d = s.size → Ev (fun k => spec_NameOk.l0 k s (i : Int)) (((bytesOf s).drop i).all nmc && lenOk s.size) := by
  intro d
  induction d with
  | zero =>
    intro i hi
    refine evOne fun k => ?_
    simp only [spec_NameOk.l0]
    rw [if_neg (by omega), l1In_eq, List.drop_of_length_le (by rw [bytes_length]; omega)]
    simp [lenOk]
    rw [Bool.eq_iff_iff]
    simp
    omega
  | succ d ih =>
    intro i hi
    have hlt : i < (bytesOf s).length := by rw [bytes_length]; omega
    have hb := (bytes_all s).get i hlt
    rw [drop_rd hlt, List.all_cons]
    have e : ∀ k, spec_NameOk.l0 (k + 1) s (i : Int) = if nmc (rd (bytesOf s) (i : Int)) = true then spec_NameOk.l0 k s ((i + 1 : Nat) : Int) else some false := by
      intro k
      simp only [spec_NameOk.l0]
      rw [if_pos (by omega), if_pos (by omega), bt_rd, w64 (by omega) (by omega), w64 (x := (i : Int) + 1) (by omega) (by omega), l1In_eq, l1In_eq]
      simp only [Option.bind_some]
      unfold nmc
      cases h1 : (decide (97 ≤ rd (bytesOf s) (i : Int)) && decide (rd (bytesOf s) (i : Int) ≤ 122)) with
      | true => simp
      | false => simp
    by_cases hn : nmc (rd (bytesOf s) (i : Int)) = true
    · refine Ev.step (f := fun k => spec_NameOk.l0 k s ((i + 1 : Nat) : Int)) (fun k => by rw [e, if_pos hn]) (evEq (ih (i + 1) (by omega)) (by simp [hn]))
    · refine evOne fun k => ?_
      rw [e, if_neg hn]
      simp [hn]
theorem sNameOk_ev (s : ByteArray) (h : s.size ≤ 9223372036854775807) : Ev (fun k => spec_NameOk.f k s) (nameOk s) := evEq (sNameOk_l s h s.size 0 (by omega)) (by simp [nameOk])
theorem iNameOk_l (s : ByteArray) (h : s.size ≤ 9223372036854775807) : ∀ (d i : Nat), i + d = s.size → Ev (fun k => impl_NameOk.l0 k s (i : Int)) (((bytesOf s).drop i).all nmc && lenOk s.size) := by
  intro d
  induction d with
  | zero =>
    intro i hi
    refine evOne fun k => ?_
    simp only [impl_NameOk.l0]
    rw [if_neg (by omega), inRange_eq, List.drop_of_length_le (by rw [bytes_length]; omega)]
    simp [lenOk]
    rw [Bool.eq_iff_iff]
    simp
    omega
  | succ d ih =>
    intro i hi
    have hlt : i < (bytesOf s).length := by rw [bytes_length]; omega
    have hb := (bytes_all s).get i hlt
    rw [drop_rd hlt, List.all_cons]
    have e : ∀ k, impl_NameOk.l0 (k + 1) s (i : Int) = if nmc (rd (bytesOf s) (i : Int)) = true then impl_NameOk.l0 k s ((i + 1 : Nat) : Int) else some false := by
      intro k
      simp only [impl_NameOk.l0]
      rw [if_pos (by omega), if_pos (by omega), bt_rd, w64 (x := (i : Int) + 1) (by omega) (by omega)]
      unfold nmc
      repeat' split
      all_goals first | rfl | (simp_all; done) | (simp_all; omega)
    by_cases hn : nmc (rd (bytesOf s) (i : Int)) = true
    · refine Ev.step (f := fun k => impl_NameOk.l0 k s ((i + 1 : Nat) : Int)) (fun k => by rw [e, if_pos hn]) (evEq (ih (i + 1) (by omega)) (by simp [hn]))
    · refine evOne fun k => ?_
      rw [e, if_neg hn]
      simp [hn]
theorem iNameOk_ev (s : ByteArray) (h : s.size ≤ 9223372036854775807) : Ev (fun k => impl_NameOk.f k s) (nameOk s) := evEq (iNameOk_l s h s.size 0 (by omega)) (by simp [nameOk])
end Go.Proofs.Ytbkmjhebpemfpaa.PE
