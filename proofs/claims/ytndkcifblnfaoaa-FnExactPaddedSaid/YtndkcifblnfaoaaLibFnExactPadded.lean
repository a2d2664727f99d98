/- What the printed functions of the byte level compute, each said by a plain Lean function. No condition but sizes. -/
import Derived.Test.YtndkcifblnfaoaaPDx0
import Derived.Test.YtndkcifblnfaoaaPDx1
import Derived.Test.YtndkcifblnfaoaaPDx2
import Derived.Test.YtndkcifblnfaoaaBase
namespace Go.Proofs.Ytndkcifblnfaoaa.PD
open Go.RowKit Go.Proofs.YtndkcifblnfaoaaW.PrintWords Go.Proofs.YtndkcifblnfaoaaW.PrintLast Go.Proofs.YtndkcifblnfaoaaW.PrintMore Go.Proofs.Ytndkcifblnfaoaa.Base
set_option linter.unusedVariables false
theorem toByteS_l (x0 : List Int) (h : x0.length ≤ 281474976710656) : ∀ (d i : Nat) (x3 : List Int), i + d = x0.length → x3.length = x0.length → Ev (fun k => laws_toByteS.l0 k x0 x3 (i : Int)) (x3.take i ++ x0.drop i) := by
  intro d
  induction d with
  | zero =>
    intro i x3 hi hl
    refine evOne fun k => ?_
    simp only [laws_toByteS.l0]
    rw [if_neg (by omega), List.take_of_length_le (by omega), List.drop_of_length_le (by omega), List.append_nil]
  | succ d ih =>
    intro i x3 hi hl
    have hlt : i < x0.length := by omega
    have h1 := ih (i + 1) (x3.set i x0[i]) (by omega) (by simp; exact hl)
    rw [set_step hlt hl] at h1
    refine Ev.step (f := fun k => laws_toByteS.l0 k x0 (x3.set i x0[i]) ((i + 1 : Nat) : Int)) (fun k => ?_) h1
    simp only [laws_toByteS.l0]
    rw [if_pos (by omega), if_pos (by omega), if_pos (by omega), rd_get hlt, w64 (by omega) (by omega), Int.toNat_natCast]
    rfl
theorem toByteS_ev (l : List Int) (h : l.length ≤ 281474976710656) : Ev (fun k => laws_toByteS.f k l) l := by
  have h1 := toByteS_l l h l.length 0 (List.replicate l.length 0) (by omega) (by simp)
  simp only [laws_toByteS.f]
  simp only [Int.toNat_natCast]
  refine evPos (by omega) (evPos h (evEq h1 (by simp)))
theorem eqByteS_l (x0 x1 : List Int) (h : x0.length ≤ 281474976710656) (hl : x0.length = x1.length) : ∀ (d i : Nat), i + d = x0.length → Ev (fun k => laws_eqByteS.l0 k x0 x1 (i : Int)) (decide (x0.drop i = x1.drop i)) := by
  intro d
  induction d with
  | zero =>
    intro i hi
    refine evOne fun k => ?_
    simp only [laws_eqByteS.l0]
    rw [if_neg (by omega), List.drop_of_length_le (by omega), List.drop_of_length_le (by omega)]
    simp
  | succ d ih =>
    intro i hi
    have hlt : i < x0.length := by omega
    have hlt1 : i < x1.length := by omega
    rw [drop_rd hlt, drop_rd hlt1]
    by_cases he : rd x0 (i : Int) = rd x1 (i : Int)
    · refine Ev.step (f := fun k => laws_eqByteS.l0 k x0 x1 ((i + 1 : Nat) : Int)) (fun k => ?_) (evEq (ih (i + 1) (by omega)) (by simp [he]))
      simp only [laws_eqByteS.l0]
      rw [if_pos (by omega), if_pos (by omega), if_pos (by omega), if_pos he, w64 (by omega) (by omega)]
      rfl
    · refine evOne fun k => ?_
      simp only [laws_eqByteS.l0]
      rw [if_pos (by omega), if_pos (by omega), if_pos (by omega), if_neg he]
      simp [he]
theorem eqByteS_ev (a b : List Int) (h : a.length ≤ 281474976710656) : Ev (fun k => laws_eqByteS.f k a b) (decide (a = b)) := by
  by_cases hl : a.length = b.length
  · refine Ev.congr (f := fun k => laws_eqByteS.l0 k a b 0) (fun k => ?_) (evEq (eqByteS_l a b h hl a.length 0 (by omega)) (by simp))
    simp only [laws_eqByteS.f]
    rw [if_pos (by omega)]
  · refine evVal fun k => ?_
    simp only [laws_eqByteS.f]
    rw [if_neg (by omega)]
    simp
    intro he
    exact hl (by rw [he])
def markB (xs : List Int) (m : Int) : List Int := (List.range xs.length).map fun (j : Nat) => (m + (j : Int)) % 256
theorem markB_length (xs : List Int) (m : Int) : (markB xs m).length = xs.length := by simp [markB]
theorem markByteS_l (n : Nat) (m : Int) (hm : 0 ≤ m ∧ m ≤ 1000000000000) (h : n ≤ 281474976710656) : ∀ (d i : Nat) (x : List Int), i + d = n → x.length = n →
    Ev (fun k => laws_markByteS.l0 k x (m + (i : Int)) (i : Int)) (m + (n : Int), x.take i ++ ((List.range d).map fun (j : Nat) => (m + ((i + j : Nat) : Int)) % 256)) := by
  intro d
  induction d with
  | zero =>
    intro i x hi hl
    refine evOne fun k => ?_
    simp only [laws_markByteS.l0]
    rw [if_neg (by omega), List.take_of_length_le (by omega)]
    simp
    omega
  | succ d ih =>
    intro i x hi hl
    have hlt : i < x.length := by omega
    have h1 := ih (i + 1) (x.set i ((m + (i : Int)) % 256)) (by omega) (by simp; exact hl)
    have h2 : (x.set i ((m + (i : Int)) % 256)).take (i + 1) ++ ((List.range d).map fun (j : Nat) => (m + ((i + 1 + j : Nat) : Int)) % 256) = x.take i ++ ((List.range (d + 1)).map fun (j : Nat) => (m + ((i + j : Nat) : Int)) % 256) := by
      rw [take_snoc (by simp; omega), List.getElem_set_self, List.append_assoc, List.take_set_of_le (Nat.le_refl _), List.range_succ_eq_map]
      simp only [List.map_cons, List.map_map, List.singleton_append, Nat.add_zero]
      congr 2
      apply List.map_congr_left
      intro j _
      simp only [Function.comp_apply, Nat.succ_eq_add_one]
      congr 3
      omega
    rw [h2] at h1
    refine Ev.step (f := fun k => laws_markByteS.l0 k (x.set i ((m + (i : Int)) % 256)) (m + ((i + 1 : Nat) : Int)) ((i + 1 : Nat) : Int)) (fun k => ?_) h1
    simp only [laws_markByteS.l0]
    rw [if_pos (by omega), if_pos (by omega), w64 (by omega) (by omega), w64 (by omega) (by omega), Int.toNat_natCast, show m + (i : Int) + 1 = m + ((i + 1 : Nat) : Int) by omega]
    rfl
theorem markByteS_ev (x : List Int) (m : Int) (hm : 0 ≤ m ∧ m ≤ 1000000000000) (h : x.length ≤ 281474976710656) : Ev (fun k => laws_markByteS.f k x m) (m + (x.length : Int), markB x m) := by
  have h1 := markByteS_l x.length m hm h x.length 0 x (by omega) rfl
  refine Ev.congr (f := fun k => laws_markByteS.l0 k x (m + ((0 : Nat) : Int)) ((0 : Nat) : Int)) (fun k => by simp [laws_markByteS.f]) (evEq h1 ?_)
  simp [markB]
theorem heldByteS_l (m : Int) (hm : 0 ≤ m ∧ m ≤ 1000000000000) (x : List Int) (h : x.length ≤ 281474976710656) (hx : ∀ j, j < x.length → rd x (j : Int) = (m + (j : Int)) % 256) : ∀ (d i : Nat), i + d = x.length →
    Ev (fun k => laws_heldByteS.l0 k x (m + (i : Int)) (i : Int)) (m + (x.length : Int)) := by
  intro d
  induction d with
  | zero =>
    intro i hi
    refine evOne fun k => ?_
    simp only [laws_heldByteS.l0]
    rw [if_neg (by omega)]
    simp
    omega
  | succ d ih =>
    intro i hi
    have hlt : i < x.length := by omega
    refine Ev.step (f := fun k => laws_heldByteS.l0 k x (m + ((i + 1 : Nat) : Int)) ((i + 1 : Nat) : Int)) (fun k => ?_) (ih (i + 1) (by omega))
    simp only [laws_heldByteS.l0]
    rw [if_pos (by omega), if_pos (by omega), if_pos (hx i hlt), w64 (by omega) (by omega), w64 (by omega) (by omega), show m + (i : Int) + 1 = m + ((i + 1 : Nat) : Int) by omega]
    rfl
theorem heldByteS_ev (x : List Int) (m : Int) (hm : 0 ≤ m ∧ m ≤ 1000000000000) (h : x.length ≤ 281474976710656) : Ev (fun k => laws_heldByteS.f k (markB x m) m) (m + (x.length : Int)) := by
  have hl := markB_length x m
  have h1 := heldByteS_l m hm (markB x m) (by omega) (fun j hj => by
    rw [rd_get hj]
    simp [markB]) (markB x m).length 0 (by omega)
  refine Ev.congr (f := fun k => laws_heldByteS.l0 k (markB x m) (m + ((0 : Nat) : Int)) ((0 : Nat) : Int)) (fun k => by simp [laws_heldByteS.f]) (evEq h1 (by rw [hl]))
end Go.Proofs.Ytndkcifblnfaoaa.PD
