/- What the printed functions on accounts compute. No condition but sizes. -/
import Derived.Test.YtcbpfofkdipjhaaAQPMx0
import Derived.Test.YtcbpfofkdipjhaaAQPMx1
import Derived.Test.YtcbpfofkdipjhaaAQPMx2
import Derived.Test.YtcbpfofkdipjhaaAQPMx3
import Derived.Test.YtcbpfofkdipjhaaAQPMx8
import Derived.Test.YtcbpfofkdipjhaaAQPMx9
import Derived.Test.YtcbpfofkdipjhaaAQLibSFnApplied
namespace Go.Proofs.Ytcbpfofkdipjhaa.PM
open Go.RowKit Go.Proofs.YtcbpfofkdipjhaaW.PrintWords Go.Proofs.YtcbpfofkdipjhaaW.PrintLast Go.Proofs.YtcbpfofkdipjhaaW.PrintMore Go.Proofs.Ytcbpfofkdipjhaa.Base
set_option linter.unusedVariables false
theorem rdIA_get {xs : List S63} {i : Nat} (h : i < xs.length) : rd_T63 xs (i : Int) = xs[i] := by
  unfold rd_T63;rw [Int.toNat_natCast, List.getD_eq_getElem?_getD, List.getElem?_eq_getElem h];rfl
theorem rdIL_get {xs : List S65} {i : Nat} (h : i < xs.length) : rd_T65 xs (i : Int) = xs[i] := by
  unfold rd_T65;rw [Int.toNat_natCast, List.getD_eq_getElem?_getD, List.getElem?_eq_getElem h];rfl
/-! ### an account that is sound -/
def inr (a b c : Int) : Bool := decide (b ≤ a) && decide (a ≤ c)
def lvAt (l : List S65) (i : Nat) : Bool := inr (rd_T65 l (i : Int)).f0 1 1000000 && (inr (rd_T65 l (i : Int)).f1 0 1000 && (decide (i = 0) || decide ((rd_T65 l ((i - 1 : Nat) : Int)).f1 < (rd_T65 l (i : Int)).f1)))
def lvFrom (l : List S65) : Nat → Nat → Bool
  | 0, _ => true
  | d + 1, i => lvAt l i && lvFrom l d (i + 1)
def acctOk (a : ByteArray) (b c d : Int) (l : List S65) : Bool := nameOk a && (inr b 0 1000000 && (inr c 0 10000 && (inr d 0 1000000 && (decide (l.length ≤ 4) && lvFrom l l.length 0))))
theorem sAcctOk_l (a : ByteArray) (b c d : Int) (l : List S65) (h : l.length ≤ 281474976710656) : ∀ (n i : Nat), i + n = l.length → Ev (fun k => spec_AcctOk.l0 k (i : Int) a b c d l) (lvFrom l n i) := by
  intro n
  induction n with
  | zero =>
    intro i hi
    refine evOne fun k => ?_
    simp only [spec_AcctOk.l0];rw [if_neg (by omega)];rfl
  | succ n ih =>
    intro i hi
    have hlt : i < l.length := by omega
    simp only [lvFrom, lvAt]
    have hw : wrap64 ((i : Int) + 1) = ((i + 1 : Nat) : Int) := by rw [w64 (by omega) (by omega)]; omega
    refine Ev.step (f := fun k => (if inr (rd_T65 l (i : Int)).f0 1 1000000 = true then (if inr (rd_T65 l (i : Int)).f1 0 1000 = true then (if (i : Int) > 0 then (if 0 ≤ (wrap64 ((i : Int) - 1)) then (if (wrap64 ((i : Int) - 1)) < (l.length : Int) then (if ((rd_T65 l (wrap64 ((i : Int) - 1))).f1) ≥ ((rd_T65 l (i : Int)).f1) then (some false) else (spec_AcctOk.l0 k ((i + 1 : Nat) : Int) a b c d l)) else (none)) else (none)) else (spec_AcctOk.l0 k ((i + 1 : Nat) : Int) a b c d l)) else (some false)) else (some false))) (fun k => ?_) ?_
    · simp only [spec_AcctOk.l0, l1In_eq, Option.bind_some]
      rw [if_pos (by omega), if_pos (by omega), hw];rfl
    · by_cases h1 : inr (rd_T65 l (i : Int)).f0 1 1000000 = true
      · refine evPos h1 ?_
        by_cases h2 : inr (rd_T65 l (i : Int)).f1 0 1000 = true
        · refine evPos h2 ?_
          rw [h1, h2]
          by_cases hi0 : (i : Int) > 0
          · have hw1 : wrap64 ((i : Int) - 1) = ((i - 1 : Nat) : Int) := by rw [w64 (by omega) (by omega)]; omega
            refine evPos hi0 (evPos (by omega) (evPos (by omega) ?_));rw [hw1]
            have hi' : ¬ i = 0 := by omega
            by_cases hb : (rd_T65 l ((i - 1 : Nat) : Int)).f1 ≥ (rd_T65 l (i : Int)).f1
            · exact evPos hb (evEq (Ev.now _) (by simp [hi']; omega))
            · exact evNeg hb (evEq (ih (i + 1) (by omega)) (by rw [decide_eq_true (show (rd_T65 l ((i - 1 : Nat) : Int)).f1 < (rd_T65 l (i : Int)).f1 by omega)]; simp))
          · have hi' : i = 0 := by omega
            refine evNeg hi0 (evEq (ih (i + 1) (by omega)) ?_);rw [decide_eq_true hi'];simp
        · exact evNeg h2 (evEq (Ev.now _) (by simp [h2]))
      · exact evNeg h1 (evEq (Ev.now _) (by simp [h1]))
theorem sAcctOk_ev (a : ByteArray) (b c d : Int) (l : List S65) (ha : a.size ≤ 9223372036854775807) (h : l.length ≤ 281474976710656) : Ev (fun k => spec_AcctOk.f k a b c d l) (acctOk a b c d l) := by
  have jt : Ev (fun k => spec_AcctOk.j0 k true a b c d l) false := evOne fun k => by simp [spec_AcctOk.j0]
  have jf : ¬ (l.length : Int) > 4 → Ev (fun k => spec_AcctOk.j0 k false a b c d l) (lvFrom l l.length 0) := by
    intro hl;refine Ev.step (f := fun k => spec_AcctOk.l0 k ((0 : Nat) : Int) a b c d l) (fun k => ?_) (sAcctOk_l a b c d l h l.length 0 (by omega));simp only [spec_AcctOk.j0];rw [if_neg (by simp)];rfl
  simp only [spec_AcctOk.f, l1In_eq, Option.bind_some];refine Ev.bind (sNameOk_ev a ha) ?_;unfold acctOk
  by_cases h1 : nameOk a = true
  · refine evPos h1 ?_
    by_cases h2 : (decide (0 ≤ b) && decide (b ≤ 1000000)) = true
    · refine evPos h2 ?_
      by_cases h3 : (decide (0 ≤ c) && decide (c ≤ 10000)) = true
      · refine evPos h3 ?_
        by_cases h4 : (decide (0 ≤ d) && decide (d ≤ 1000000)) = true
        · refine evPos h4 ?_
          simp only [inr, h1, h2, h3, h4, Bool.true_and]
          by_cases h5 : (l.length : Int) > 4
          · rw [decide_eq_true h5]
            exact evEq jt (by rw [decide_eq_false (by omega)]; rfl)
          · rw [decide_eq_false h5]
            exact evEq (jf h5) (by rw [decide_eq_true (by omega)]; rfl)
        · exact evNeg h4 (evEq jt (by simp only [inr]; rw [Bool.not_eq_true] at h4; rw [h4]; simp))
      · exact evNeg h3 (evEq jt (by simp only [inr]; rw [Bool.not_eq_true] at h3; rw [h3]; simp))
    · exact evNeg h2 (evEq jt (by simp only [inr]; rw [Bool.not_eq_true] at h2; rw [h2]; simp))
  · exact evNeg h1 (evEq jt (by rw [Bool.not_eq_true] at h1; rw [h1]; simp))
theorem iAcctOk_l (a : ByteArray) (b c d : Int) (l : List S65) (ha : a.size ≤ 9223372036854775807) (h : l.length ≤ 281474976710656) : ∀ (n i : Nat), i + n = l.length → Ev (fun k => impl_AcctOk.l0 k l (l.length : Int) (i : Int) a b c d l) (lvFrom l n i && (nameOk a && (inr b 0 1000000 && (inr d 0 1000000 && (inr c 0 10000 && decide (l.length ≤ 4)))))) := by
  intro n
  induction n with
  | zero =>
    intro i hi;refine Ev.step (f := fun k => (impl_NameOk.f k a).bind fun t => (if t = true then (if inr b 0 1000000 = true then (if inr d 0 1000000 = true then (if inr c 0 10000 = true then (some (decide ((l.length : Int) ≤ 4))) else (some false)) else (some false)) else (some false)) else (some false))) (fun k => ?_) (Ev.bind (iNameOk_ev a ha) ?_)
    · simp only [impl_AcctOk.l0, impl_isAmount.f, inRange_eq, Option.bind_some]
      rw [if_neg (by omega)];rfl
    · simp only [lvFrom, Bool.true_and]
      by_cases h1 : nameOk a = true
      · refine evPos h1 ?_
        by_cases h2 : inr b 0 1000000 = true
        · refine evPos h2 ?_
          by_cases h3 : inr d 0 1000000 = true
          · refine evPos h3 ?_
            by_cases h4 : inr c 0 10000 = true
            · refine evPos h4 (evEq (Ev.now _) ?_)
              rw [h1, h2, h3, h4, Bool.true_and, Bool.true_and, Bool.true_and, Bool.true_and, decide_eq_decide]
              omega
            · exact evNeg h4 (evEq (Ev.now _) (by rw [Bool.not_eq_true] at h4; rw [h4]; simp))
          · exact evNeg h3 (evEq (Ev.now _) (by rw [Bool.not_eq_true] at h3; rw [h3]; simp))
        · exact evNeg h2 (evEq (Ev.now _) (by rw [Bool.not_eq_true] at h2; rw [h2]; simp))
      · exact evNeg h1 (evEq (Ev.now _) (by rw [Bool.not_eq_true] at h1; rw [h1]; simp))
  | succ n ih =>
    intro i hi
    have hlt : i < l.length := by omega
    simp only [lvFrom, lvAt]
    have hw : wrap64 ((i : Int) + 1) = ((i + 1 : Nat) : Int) := by rw [w64 (by omega) (by omega)]; omega
    refine Ev.step (f := fun k => (if inr (rd_T65 l (i : Int)).f0 1 1000000 = true then (if inr (rd_T65 l (i : Int)).f1 0 1000 = true then (if (i : Int) > 0 then (if 0 ≤ (wrap64 ((i : Int) - 1)) then (if (wrap64 ((i : Int) - 1)) < (l.length : Int) then (if ((rd_T65 l (i : Int)).f1) ≤ ((rd_T65 l (wrap64 ((i : Int) - 1))).f1) then (some false) else (impl_AcctOk.l0 k l (l.length : Int) ((i + 1 : Nat) : Int) a b c d l)) else (none)) else (none)) else (impl_AcctOk.l0 k l (l.length : Int) ((i + 1 : Nat) : Int) a b c d l)) else (some false)) else (some false))) (fun k => ?_) ?_
    · simp only [impl_AcctOk.l0, inRange_eq, Option.bind_some]
      rw [if_pos (by omega), if_pos (by omega), if_pos (by omega), hw];rfl
    · by_cases h1 : inr (rd_T65 l (i : Int)).f0 1 1000000 = true
      · refine evPos h1 ?_
        by_cases h2 : inr (rd_T65 l (i : Int)).f1 0 1000 = true
        · refine evPos h2 ?_
          rw [h1, h2]
          by_cases hi0 : (i : Int) > 0
          · have hw1 : wrap64 ((i : Int) - 1) = ((i - 1 : Nat) : Int) := by rw [w64 (by omega) (by omega)]; omega
            refine evPos hi0 (evPos (by omega) (evPos (by omega) ?_));rw [hw1]
            have hi' : ¬ i = 0 := by omega
            by_cases hb : (rd_T65 l (i : Int)).f1 ≤ (rd_T65 l ((i - 1 : Nat) : Int)).f1
            · refine evPos hb (evEq (Ev.now _) ?_)
              rw [decide_eq_false hi', decide_eq_false (show ¬ (rd_T65 l ((i - 1 : Nat) : Int)).f1 < (rd_T65 l (i : Int)).f1 by omega)];simp
            · exact evNeg hb (evEq (ih (i + 1) (by omega)) (by rw [decide_eq_true (show (rd_T65 l ((i - 1 : Nat) : Int)).f1 < (rd_T65 l (i : Int)).f1 by omega)]; simp))
          · have hi' : i = 0 := by omega
            refine evNeg hi0 (evEq (ih (i + 1) (by omega)) ?_);rw [decide_eq_true hi'];simp
        · exact evNeg h2 (evEq (Ev.now _) (by rw [Bool.not_eq_true] at h2; rw [h2]; simp))
      · exact evNeg h1 (evEq (Ev.now _) (by rw [Bool.not_eq_true] at h1; rw [h1]; simp))
theorem iAcctOk_ev (a : ByteArray) (b c d : Int) (l : List S65) (ha : a.size ≤ 9223372036854775807) (h : l.length ≤ 281474976710656) : Ev (fun k => impl_AcctOk.f k a b c d l) (acctOk a b c d l) := by
  simp only [impl_AcctOk.f];refine evEq (iAcctOk_l a b c d l ha h l.length 0 (by omega)) ?_;unfold acctOk
  cases nameOk a <;> cases inr b 0 1000000 <;> cases inr c 0 10000 <;> cases inr d 0 1000000 <;> cases decide (l.length ≤ 4) <;> cases lvFrom l l.length 0 <;> rfl
/-! ### what accounts hold -/
def lsum (l : List S65) : Int := (l.map fun s => s.f0).sum
def asum (l : List S63) : Int := (l.map fun s => s.f1 + s.f3 + lsum s.f4).sum
theorem wadd_l (a b : Int) : wrap64 (wrap64 a + b) = wrap64 (a + b) := by unfold wrap64; omega
theorem wadd_r (a b : Int) : wrap64 (a + wrap64 b) = wrap64 (a + b) := by unfold wrap64; omega
theorem sOf_l (a : ByteArray) (b c d : Int) (l : List S65) (h : l.length ≤ 281474976710656) : ∀ (n i : Nat) (X : Int), i + n = l.length → Ev (fun k => spec_l4Of.l0 k (wrap64 X) (i : Int) a b c d l) (wrap64 (X + lsum (l.drop i))) := by
  intro n
  induction n with
  | zero =>
    intro i X hi
    refine evOne fun k => ?_
    simp only [spec_l4Of.l0];rw [if_neg (by omega), List.drop_of_length_le (by omega)];simp [lsum]
  | succ n ih =>
    intro i X hi
    have hlt : i < l.length := by omega
    refine Ev.step (f := fun k => spec_l4Of.l0 k (wrap64 (X + l[i].f0)) ((i + 1 : Nat) : Int) a b c d l) (fun k => ?_) (evEq (ih (i + 1) (X + l[i].f0) (by omega)) ?_)
    · simp only [spec_l4Of.l0]
      rw [if_pos (by omega), if_pos (by omega), rdIL_get hlt, wadd_l, w64 (x := (i : Int) + 1) (by omega) (by omega)];rfl
    · rw [drop_cons hlt]
      simp only [lsum, List.map_cons, List.sum_cons]
      congr 1
      omega
theorem sOf_ev (a : ByteArray) (b c d : Int) (l : List S65) (h : l.length ≤ 281474976710656) : Ev (fun k => spec_l4Of.f k a b c d l) (wrap64 (b + d + lsum l)) := by
  simp only [spec_l4Of.f];exact sOf_l a b c d l h l.length 0 (b + d) (by omega)
theorem sWealth_l (l : List S63) (h : l.length ≤ 281474976710656) (hs : ∀ s ∈ l, s.f4.length ≤ 281474976710656) : ∀ (n i : Nat) (X : Int), i + n = l.length → Ev (fun k => spec_Wealth.l0 k l (wrap64 X) (i : Int)) (wrap64 (X + asum (l.drop i))) := by
  intro n
  induction n with
  | zero =>
    intro i X hi
    refine evOne fun k => ?_
    simp only [spec_Wealth.l0];rw [if_neg (by omega), List.drop_of_length_le (by omega)];simp [asum]
  | succ n ih =>
    intro i X hi
    have hlt : i < l.length := by omega
    have hE := ih (i + 1) (X + (l[i].f1 + l[i].f3 + lsum l[i].f4)) (by omega);rw [← wadd_l, ← wadd_r (wrap64 X)] at hE;refine Ev.step (f := fun k => (spec_l4Of.f k l[i].f0 l[i].f1 l[i].f2 l[i].f3 l[i].f4).bind fun t => spec_Wealth.l0 k l (wrap64 (wrap64 X + t)) ((i + 1 : Nat) : Int)) (fun k => ?_) (Ev.bind (sOf_ev _ _ _ _ _ (hs _ (List.getElem_mem hlt))) (evEq hE ?_))
    · simp only [spec_Wealth.l0]
      rw [if_pos (by omega), if_pos (by omega), rdIA_get hlt, w64 (x := (i : Int) + 1) (by omega) (by omega)];rfl
    · rw [drop_cons hlt]
      simp only [asum, List.map_cons, List.sum_cons]
      congr 1
      omega
theorem sWealth_ev (l : List S63) (h : l.length ≤ 281474976710656) (hs : ∀ s ∈ l, s.f4.length ≤ 281474976710656) : Ev (fun k => spec_Wealth.f k l) (wrap64 (asum l)) := by
  have := sWealth_l l h hs l.length 0 0 (by omega);simp only [spec_Wealth.f];rw [Int.zero_add, List.drop_zero, show wrap64 0 = 0 from w64 (by omega) (by omega)] at this;exact this
theorem iWealth_l1 (l : List S63) (N i : Int) (m : List S65) (h : m.length ≤ 281474976710656) (r : Int) : ∀ (n j : Nat) (X : Int), j + n = m.length → Ev (fun k => impl_Wealth.l0 k (wrap64 (X + lsum (m.drop j))) l N (wrap64 (i + 1))) r → Ev (fun k => impl_Wealth.l1 k (wrap64 X) l N i m (m.length : Int) (j : Int)) r := by
  intro n
  induction n with
  | zero =>
    intro j X hj hr;rw [List.drop_of_length_le (by omega)] at hr;refine Ev.step (fun k => ?_) hr;simp only [impl_Wealth.l1];rw [if_neg (by omega)];simp [lsum]
  | succ n ih =>
    intro j X hj hr
    have hlt : j < m.length := by omega
    refine Ev.step (f := fun k => impl_Wealth.l1 k (wrap64 (X + m[j].f0)) l N i m (m.length : Int) ((j + 1 : Nat) : Int)) (fun k => ?_) (ih (j + 1) (X + m[j].f0) (by omega) ?_)
    · simp only [impl_Wealth.l1]
      rw [if_pos (by omega), if_pos (by omega), if_pos (by omega), rdIL_get hlt, wadd_l, w64 (x := (j : Int) + 1) (by omega) (by omega)];rfl
    · rw [drop_cons hlt] at hr
      simp only [lsum, List.map_cons, List.sum_cons] at hr ⊢;rw [Int.add_assoc];exact hr
theorem iWealth_l (l : List S63) (h : l.length ≤ 281474976710656) (hs : ∀ s ∈ l, s.f4.length ≤ 281474976710656) : ∀ (n i : Nat) (X : Int), i + n = l.length → Ev (fun k => impl_Wealth.l0 k (wrap64 X) l (l.length : Int) (i : Int)) (wrap64 (X + asum (l.drop i))) := by
  intro n
  induction n with
  | zero =>
    intro i X hi
    refine evOne fun k => ?_
    simp only [impl_Wealth.l0];rw [if_neg (by omega), List.drop_of_length_le (by omega)];simp [asum]
  | succ n ih =>
    intro i X hi
    have hlt : i < l.length := by omega
    have hE := ih (i + 1) (X + (l[i].f1 + l[i].f3) + lsum l[i].f4) (by omega)
    have hw : wrap64 ((i : Int) + 1) = ((i + 1 : Nat) : Int) := by rw [w64 (by omega) (by omega)]; omega
    have h1 := iWealth_l1 l (l.length : Int) (i : Int) l[i].f4 (hs _ (List.getElem_mem hlt)) _ l[i].f4.length 0 (X + (l[i].f1 + l[i].f3)) (by omega) (by rw [hw, List.drop_zero]; exact hE);refine Ev.step (f := fun k => impl_Wealth.l1 k (wrap64 (X + (l[i].f1 + l[i].f3))) l (l.length : Int) (i : Int) l[i].f4 (l[i].f4.length : Int) ((0 : Nat) : Int)) (fun k => ?_) (evEq h1 ?_)
    · simp only [impl_Wealth.l0]
      rw [if_pos (by omega), if_pos (by omega), if_pos (by omega), rdIA_get hlt, wadd_r, wadd_l];rfl
    · rw [drop_cons hlt]
      simp only [asum, List.map_cons, List.sum_cons]
      congr 1
      omega
theorem iWealth_ev (l : List S63) (h : l.length ≤ 281474976710656) (hs : ∀ s ∈ l, s.f4.length ≤ 281474976710656) : Ev (fun k => impl_Wealth.f k l) (wrap64 (asum l)) := by
  have := iWealth_l l h hs l.length 0 0 (by omega);simp only [impl_Wealth.f];rw [Int.zero_add, List.drop_zero, show wrap64 0 = 0 from w64 (by omega) (by omega)] at this;exact this
/-! ### accounts in their order -/
def acAt (l : List S63) (i : Nat) : Bool := acctOk (rd_T63 l (i : Int)).f0 (rd_T63 l (i : Int)).f1 (rd_T63 l (i : Int)).f2 (rd_T63 l (i : Int)).f3 (rd_T63 l (i : Int)).f4 && (decide (i = 0) || Op.bytesLess (rd_T63 l ((i - 1 : Nat) : Int)).f0.toList (rd_T63 l (i : Int)).f0.toList)
def acFrom (l : List S63) : Nat → Nat → Bool
  | 0, _ => true
  | d + 1, i => acAt l i && acFrom l d (i + 1)
def acctsOk (l : List S63) : Bool := acFrom l l.length 0 && (decide (l.length ≤ 12) && decide (wrap64 (asum l) ≤ 1000000))
theorem sAcctsOk_l (l : List S63) (h : l.length ≤ 281474976710656) (hs : ∀ s ∈ l, s.f0.size ≤ 9223372036854775807 ∧ s.f4.length ≤ 281474976710656) : ∀ (n i : Nat), i + n = l.length → Ev (fun k => spec_AcctsOk.l0 k l (i : Int)) (acFrom l n i && (decide (l.length ≤ 12) && decide (wrap64 (asum l) ≤ 1000000))) := by
  intro n
  induction n with
  | zero =>
    intro i hi;refine Ev.step (f := fun k => if (l.length : Int) ≤ 12 then ((spec_Wealth.f k l).bind fun t => (some (decide (t ≤ 1000000)))) else (some false)) (fun k => ?_) ?_
    · simp only [spec_AcctsOk.l0]
      rw [if_neg (by omega)]
    · simp only [acFrom, Bool.true_and]
      by_cases h12 : (l.length : Int) ≤ 12
      · exact evPos h12 (Ev.bind (sWealth_ev l h (fun s hx => (hs s hx).2)) (evEq (Ev.now _) (by rw [decide_eq_true (show l.length ≤ 12 by omega), Bool.true_and])))
      · exact evNeg h12 (evEq (Ev.now _) (by rw [decide_eq_false (show ¬ l.length ≤ 12 by omega), Bool.false_and]))
  | succ n ih =>
    intro i hi
    have hlt : i < l.length := by omega
    have hm := hs _ (List.getElem_mem hlt);rw [← rdIA_get hlt] at hm;simp only [acFrom, acAt]
    have hw : wrap64 ((i : Int) + 1) = ((i + 1 : Nat) : Int) := by rw [w64 (by omega) (by omega)]; omega
    generalize hx : rd_T63 l (i : Int) = x at hm
    refine Ev.step (f := fun k => (spec_AcctOk.f k x.f0 x.f1 x.f2 x.f3 x.f4).bind fun t => (if t = true then (if (i : Int) > 0 then (if 0 ≤ (wrap64 ((i : Int) - 1)) then (if (wrap64 ((i : Int) - 1)) < (l.length : Int) then (if ((Op.bytesLess (((rd_T63 l (wrap64 ((i : Int) - 1))).f0).toList) (x.f0.toList)) = true) then (spec_AcctsOk.l0 k l ((i + 1 : Nat) : Int)) else (some false)) else (none)) else (none)) else (spec_AcctsOk.l0 k l ((i + 1 : Nat) : Int))) else (some false))) (fun k => ?_) (Ev.bind (sAcctOk_ev x.f0 x.f1 x.f2 x.f3 x.f4 hm.1 hm.2) ?_)
    · simp only [spec_AcctsOk.l0]
      rw [if_pos (by omega), if_pos (by omega), hx, hw]
    · by_cases h1 : acctOk x.f0 x.f1 x.f2 x.f3 x.f4 = true
      · refine evPos h1 ?_
        rw [h1]
        by_cases hi0 : (i : Int) > 0
        · have hw1 : wrap64 ((i : Int) - 1) = ((i - 1 : Nat) : Int) := by rw [w64 (by omega) (by omega)]; omega
          refine evPos hi0 (evPos (by omega) (evPos (by omega) ?_));rw [hw1]
          have hi' : ¬ i = 0 := by omega
          by_cases hb : Op.bytesLess (rd_T63 l ((i - 1 : Nat) : Int)).f0.toList x.f0.toList = true
          · exact evPos hb (evEq (ih (i + 1) (by omega)) (by rw [hb]; simp))
          · exact evNeg hb (evEq (Ev.now _) (by rw [Bool.not_eq_true] at hb; rw [hb, decide_eq_false hi']; simp))
        · have hi' : i = 0 := by omega
          refine evNeg hi0 (evEq (ih (i + 1) (by omega)) ?_);rw [decide_eq_true hi'];simp
      · exact evNeg h1 (evEq (Ev.now _) (by rw [Bool.not_eq_true] at h1; rw [h1]; simp))
theorem sAcctsOk_ev (l : List S63) (h : l.length ≤ 281474976710656) (hs : ∀ s ∈ l, s.f0.size ≤ 9223372036854775807 ∧ s.f4.length ≤ 281474976710656) : Ev (fun k => spec_AcctsOk.f k l) (acctsOk l) := sAcctsOk_l l h hs l.length 0 (by omega)
theorem iAcctsOk_l (l : List S63) (h : l.length ≤ 281474976710656) (hs : ∀ s ∈ l, s.f0.size ≤ 9223372036854775807 ∧ s.f4.length ≤ 281474976710656) : ∀ (n i : Nat), i + n = l.length → Ev (fun k => impl_AcctsOk.l0 k l l (l.length : Int) (i : Int)) (acFrom l n i && (decide (l.length ≤ 12) && decide (wrap64 (asum l) ≤ 1000000))) := by
  intro n
  induction n with
  | zero =>
    intro i hi;refine Ev.step (f := fun k => if (l.length : Int) ≤ 12 then ((impl_Wealth.f k l).bind fun t => (some (decide (t ≤ 1000000)))) else (some false)) (fun k => ?_) ?_
    · simp only [impl_AcctsOk.l0]
      rw [if_neg (by omega)]
    · simp only [acFrom, Bool.true_and]
      by_cases h12 : (l.length : Int) ≤ 12
      · exact evPos h12 (Ev.bind (iWealth_ev l h (fun s hx => (hs s hx).2)) (evEq (Ev.now _) (by rw [decide_eq_true (show l.length ≤ 12 by omega), Bool.true_and])))
      · exact evNeg h12 (evEq (Ev.now _) (by rw [decide_eq_false (show ¬ l.length ≤ 12 by omega), Bool.false_and]))
  | succ n ih =>
    intro i hi
    have hlt : i < l.length := by omega
    have hm := hs _ (List.getElem_mem hlt);rw [← rdIA_get hlt] at hm;simp only [acFrom, acAt]
    have hw : wrap64 ((i : Int) + 1) = ((i + 1 : Nat) : Int) := by rw [w64 (by omega) (by omega)]; omega
    generalize hx : rd_T63 l (i : Int) = x at hm
    refine Ev.step (f := fun k => (impl_AcctOk.f k x.f0 x.f1 x.f2 x.f3 x.f4).bind fun t => (if t = true then (if (i : Int) > 0 then (if 0 ≤ (wrap64 ((i : Int) - 1)) then (if (wrap64 ((i : Int) - 1)) < (l.length : Int) then (if ((Op.bytesLess (((rd_T63 l (wrap64 ((i : Int) - 1))).f0).toList) (x.f0.toList)) = true) then (impl_AcctsOk.l0 k l l (l.length : Int) ((i + 1 : Nat) : Int)) else (some false)) else (none)) else (none)) else (impl_AcctsOk.l0 k l l (l.length : Int) ((i + 1 : Nat) : Int))) else (some false))) (fun k => ?_) (Ev.bind (iAcctOk_ev x.f0 x.f1 x.f2 x.f3 x.f4 hm.1 hm.2) ?_)
    · simp only [impl_AcctsOk.l0]
      rw [if_pos (by omega), if_pos (by omega), if_pos (by omega), hx, hw]
    · by_cases h1 : acctOk x.f0 x.f1 x.f2 x.f3 x.f4 = true
      · refine evPos h1 ?_
        rw [h1]
        by_cases hi0 : (i : Int) > 0
        · have hw1 : wrap64 ((i : Int) - 1) = ((i - 1 : Nat) : Int) := by rw [w64 (by omega) (by omega)]; omega
          refine evPos hi0 (evPos (by omega) (evPos (by omega) ?_));rw [hw1]
          have hi' : ¬ i = 0 := by omega
          by_cases hb : Op.bytesLess (rd_T63 l ((i - 1 : Nat) : Int)).f0.toList x.f0.toList = true
          · exact evPos hb (evEq (ih (i + 1) (by omega)) (by rw [hb]; simp))
          · exact evNeg hb (evEq (Ev.now _) (by rw [Bool.not_eq_true] at hb; rw [hb, decide_eq_false hi']; simp))
        · have hi' : i = 0 := by omega
          refine evNeg hi0 (evEq (ih (i + 1) (by omega)) ?_);rw [decide_eq_true hi'];simp
      · exact evNeg h1 (evEq (Ev.now _) (by rw [Bool.not_eq_true] at h1; rw [h1]; simp))
theorem iAcctsOk_ev (l : List S63) (h : l.length ≤ 281474976710656) (hs : ∀ s ∈ l, s.f0.size ≤ 9223372036854775807 ∧ s.f4.length ≤ 281474976710656) : Ev (fun k => impl_AcctsOk.f k l) (acctsOk l) := iAcctsOk_l l h hs l.length 0 (by omega)
end Go.Proofs.Ytcbpfofkdipjhaa.PM
