/- What the printed functions that compare orders compute. No condition but sizes. -/
import Derived.Test.YtcmlbjlbgcdogaaPEx0
import Derived.Test.YtcmlbjlbgcdogaaPEx3
import Derived.Test.YtcmlbjlbgcdogaaPEx4
import Derived.Test.YtcmlbjlbgcdogaaBase
import Derived.Test.YtcmlbjlbgcdogaaStr
namespace Go.Proofs.Ytcmlbjlbgcdogaa.PE
open Go.RowKit Go.Proofs.YtcmlbjlbgcdogaaW.PrintWords Go.Proofs.YtcmlbjlbgcdogaaW.PrintLast Go.Proofs.YtcmlbjlbgcdogaaW.PrintMore Go.Proofs.Ytcmlbjlbgcdogaa.Base
set_option linter.unusedVariables false
theorem tl_inj {a b : ByteArray} : a.toList = b.toList ↔ a = b := by
  constructor
  · intro h
    rw [ByteArray.toList_eq, ByteArray.toList_eq] at h
    cases a; cases b
    simp at h
    rw [h]
  · intro h
    rw [h]
/-! ### which order is less -/
def cmpI (a b : Int) : Int := if a < b then -1 else if b < a then 1 else 0
def cmpS (a b : ByteArray) : Int := if Op.bytesLess a.toList b.toList = true then -1 else if Op.bytesLess b.toList a.toList = true then 1 else 0
def txLess (k1 : Int) (f1 t1 : ByteArray) (a1 n1 k2 : Int) (f2 t2 : ByteArray) (a2 n2 : Int) : Bool :=
  if f1 = f2 then (if n1 = n2 then (if k1 = k2 then (if t1 = t2 then decide (a1 < a2) else Op.bytesLess t1.toList t2.toList) else decide (k1 < k2)) else decide (n1 < n2)) else Op.bytesLess f1.toList f2.toList
theorem bl_irr (a : ByteArray) : Op.bytesLess a.toList a.toList = false := by
  have h := Str.bl_tot a.toList a.toList
  simp at h
  exact h
theorem bl_ne {a b : ByteArray} (h : ¬ a = b) : Op.bytesLess b.toList a.toList = !Op.bytesLess a.toList b.toList := by
  have h1 := Str.bl_tot a.toList b.toList
  have h2 : (a.toList == b.toList) = false := by
    rw [beq_eq_false_iff_ne]
    exact fun e => h (tl_inj.1 e)
  rw [h2, Bool.or_false] at h1
  rw [h1, Bool.not_not]
theorem sTxLess_eq (k1 : Int) (f1 t1 : ByteArray) (a1 n1 k2 : Int) (f2 t2 : ByteArray) (a2 n2 : Int) : spec_TxLess.f k1 f1 t1 a1 n1 k2 f2 t2 a2 n2 = some (txLess k1 f1 t1 a1 n1 k2 f2 t2 a2 n2) := by
  simp only [spec_TxLess.f, txLess, tl_inj]
  by_cases h1 : f1 = f2 <;> by_cases h2 : n1 = n2 <;> by_cases h3 : k1 = k2 <;> by_cases h4 : t1 = t2 <;> simp [h1, h2, h3, h4]
theorem cmpI_eq (a b : Int) : cmp_Compare_int.f a b = some (cmpI a b) := by
  simp only [cmp_Compare_int.f, cmp_isNaN_int.f, cmpI, Option.bind_some, bne_self_eq_false]
  by_cases h1 : a < b
  · simp [h1]
  · by_cases h2 : b < a <;> simp [h1, h2]
theorem cmpS_eq (a b : ByteArray) : cmp_Compare_string.f a b = some (cmpS a b) := by
  simp only [cmp_Compare_string.f, cmp_isNaN_string.f, cmpS, Option.bind_some, bne_self_eq_false]
  by_cases h1 : Op.bytesLess a.toList b.toList = true
  · simp [h1]
  · by_cases h2 : Op.bytesLess b.toList a.toList = true <;> simp [h1, h2]
def firstNZ : List Int → Int
  | [] => 0
  | a :: l => if a = 0 then firstNZ l else a
theorem cmpOr_l (l : List Int) (h : l.length ≤ 281474976710656) : ∀ (d i : Nat), i + d = l.length → Ev (fun k => cmp_Or_int.l0 k 0 l (l.length : Int) (i : Int)) (firstNZ (l.drop i)) := by
  intro d
  induction d with
  | zero =>
    intro i hi
    refine evOne fun k => ?_
    simp only [cmp_Or_int.l0]
    rw [if_neg (by omega), List.drop_of_length_le (by omega)]
    rfl
  | succ d ih =>
    intro i hi
    have hlt : i < l.length := by omega
    rw [drop_rd hlt]
    by_cases hz : rd l (i : Int) = 0
    · refine Ev.step (f := fun k => cmp_Or_int.l0 k 0 l (l.length : Int) ((i + 1 : Nat) : Int)) (fun k => ?_) (evEq (ih (i + 1) (by omega)) (by simp [firstNZ, hz]))
      simp only [cmp_Or_int.l0]
      rw [if_pos (by omega), if_pos (by omega), if_pos (by omega), if_pos hz, w64 (by omega) (by omega)]
      rfl
    · refine evOne fun k => ?_
      simp only [cmp_Or_int.l0]
      rw [if_pos (by omega), if_pos (by omega), if_pos (by omega), if_neg hz]
      simp [firstNZ, hz]
theorem cmpOr_ev (l : List Int) (h : l.length ≤ 281474976710656) : Ev (fun k => cmp_Or_int.f k l) (firstNZ l) := evEq (cmpOr_l l h l.length 0 (by omega)) (by simp)
theorem iTxLess_ev (k1 : Int) (f1 t1 : ByteArray) (a1 n1 k2 : Int) (f2 t2 : ByteArray) (a2 n2 : Int) : Ev (fun k => impl_TxLess.f k k1 f1 t1 a1 n1 k2 f2 t2 a2 n2) (txLess k1 f1 t1 a1 n1 k2 f2 t2 a2 n2) := by
  have hc : Ev (fun k => impl_compareTx.f k k1 f1 t1 a1 n1 k2 f2 t2 a2 n2) (firstNZ [cmpS f1 f2, cmpI n1 n2, cmpI k1 k2, cmpS t1 t2, cmpI a1 a2]) := by
    simp only [impl_compareTx.f, cmpS_eq, cmpI_eq, Option.bind_some]
    exact Ev.bind (cmpOr_ev _ (by simp)) (Ev.now _)
  simp only [impl_TxLess.f]
  refine evEq (Ev.bind hc (Ev.now _)) ?_
  have hS : ∀ a b : ByteArray, cmpS a b = 0 ↔ a = b := by
    intro a b
    unfold cmpS
    by_cases e : a = b
    · subst e; simp [bl_irr]
    · have := bl_ne e
      rw [this]
      cases Op.bytesLess a.toList b.toList <;> simp [e]
  have hS' : ∀ a b : ByteArray, decide (cmpS a b < 0) = Op.bytesLess a.toList b.toList := by
    intro a b
    unfold cmpS
    cases h1 : Op.bytesLess a.toList b.toList <;> cases h2 : Op.bytesLess b.toList a.toList <;> simp
  have hI : ∀ a b : Int, cmpI a b = 0 ↔ a = b := by
    intro a b
    unfold cmpI
    split
    · simp; omega
    · split
      · simp; omega
      · simp; omega
  have hI' : ∀ a b : Int, decide (cmpI a b < 0) = decide (a < b) := by
    intro a b
    unfold cmpI
    by_cases h1 : a < b <;> by_cases h2 : b < a <;> simp [h1, h2]
  simp only [firstNZ, hS, hI, txLess]
  by_cases h1 : f1 = f2
  · by_cases h2 : n1 = n2
    · by_cases h3 : k1 = k2
      · by_cases h4 : t1 = t2
        · by_cases h5 : a1 = a2
          · simp [h1, h2, h3, h4, h5]
          · simp only [h1, h2, h3, h4, h5, if_true, if_false]
            exact hI' _ _
        · simp only [h1, h2, h3, h4, if_true, if_false]
          exact hS' _ _
      · simp only [h1, h2, h3, if_true, if_false]
        exact hI' _ _
    · simp only [h1, h2, if_true, if_false]
      exact hI' _ _
  · simp only [h1, if_false]
    exact hS' _ _
end Go.Proofs.Ytcmlbjlbgcdogaa.PE
