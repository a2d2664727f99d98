/- What the printed functions of the byte level compute, each said by a plain Lean function. No condition but sizes. -/
import Derived.Test.YtgbbgdlenadhlaaPCx0
import Derived.Test.YtgbbgdlenadhlaaPCx4
import Derived.Test.YtgbbgdlenadhlaaPCx5
import Derived.Test.YtgbbgdlenadhlaaBase
namespace Go.Proofs.Ytgbbgdlenadhlaa.PC
open Go.RowKit Go.Proofs.YtgbbgdlenadhlaaW.PrintWords Go.Proofs.YtgbbgdlenadhlaaW.PrintLast Go.Proofs.YtgbbgdlenadhlaaW.PrintMore Go.Proofs.Ytgbbgdlenadhlaa.Base
set_option linter.unusedVariables false
theorem toByteS_l (x0 : List Int) (h : x0.length ≤ 281474976710656) : ∀ (d i : Nat) (x3 : List Int), i + d = x0.length → x3.length = x0.length → Ev (fun k => laws_toByteS.l0 k x0 x3 (i : Int)) (x3.take i ++ x0.drop i) := by
  intro d
  induction d with
  | zero =>
    intro i x3 hi hl
    refine evOne fun k => ?_
    simp only [laws_toByteS.l0]
    rw [if_neg (by omega), List.take_of_length_le (by omega), List.drop_of_length_le (by omega), List.append_nil]
  | succ d ih =>
    intro i x3 hi hl
    have hlt : i < x0.length := by omega
    have h1 := ih (i + 1) (x3.set i x0[i]) (by omega) (by simp; exact hl)
    rw [set_step hlt hl] at h1
    refine Ev.step (f := fun k => laws_toByteS.l0 k x0 (x3.set i x0[i]) ((i + 1 : Nat) : Int)) (fun k => ?_) h1
    simp only [laws_toByteS.l0]
    rw [if_pos (by omega), if_pos (by omega), if_pos (by omega), rd_get hlt, w64 (by omega) (by omega), Int.toNat_natCast]
    rfl
theorem toByteS_ev (l : List Int) (h : l.length ≤ 281474976710656) : Ev (fun k => laws_toByteS.f k l) l := by
  have h1 := toByteS_l l h l.length 0 (List.replicate l.length 0) (by omega) (by simp)
  simp only [laws_toByteS.f]
  simp only [Int.toNat_natCast]
  refine evPos (by omega) (evPos h (evEq h1 (by simp)))
theorem eqByteS_l (x0 x1 : List Int) (h : x0.length ≤ 281474976710656) (hl : x0.length = x1.length) : ∀ (d i : Nat), i + d = x0.length → Ev (fun k => laws_eqByteS.l0 k x0 x1 (i : Int)) (decide (x0.drop i = x1.drop i)) := by
  intro d
  induction d with
  | zero =>
    intro i hi
    refine evOne fun k => ?_
    simp only [laws_eqByteS.l0]
    rw [if_neg (by omega), List.drop_of_length_le (by omega), List.drop_of_length_le (by omega)]
    simp
  | succ d ih =>
    intro i hi
    have hlt : i < x0.length := by omega
    have hlt1 : i < x1.length := by omega
    rw [drop_rd hlt, drop_rd hlt1]
    by_cases he : rd x0 (i : Int) = rd x1 (i : Int)
    · refine Ev.step (f := fun k => laws_eqByteS.l0 k x0 x1 ((i + 1 : Nat) : Int)) (fun k => ?_) (evEq (ih (i + 1) (by omega)) (by simp [he]))
      simp only [laws_eqByteS.l0]
      rw [if_pos (by omega), if_pos (by omega), if_pos (by omega), if_pos he, w64 (by omega) (by omega)]
      rfl
    · refine evOne fun k => ?_
      simp only [laws_eqByteS.l0]
      rw [if_pos (by omega), if_pos (by omega), if_pos (by omega), if_neg he]
      simp [he]
theorem eqByteS_ev (a b : List Int) (h : a.length ≤ 281474976710656) : Ev (fun k => laws_eqByteS.f k a b) (decide (a = b)) := by
  by_cases hl : a.length = b.length
  · refine Ev.congr (f := fun k => laws_eqByteS.l0 k a b 0) (fun k => ?_) (evEq (eqByteS_l a b h hl a.length 0 (by omega)) (by simp))
    simp only [laws_eqByteS.f]
    rw [if_pos (by omega)]
  · refine evVal fun k => ?_
    simp only [laws_eqByteS.f]
    rw [if_neg (by omega)]
    simp
    intro he
    exact hl (by rw [he])
end Go.Proofs.Ytgbbgdlenadhlaa.PC
