/- What the printed functions on rows of strings, names and orders compute. No condition but sizes. -/
import Derived.Test.YtcbpfofkdipjhaaAQPMx0
import Derived.Test.YtcbpfofkdipjhaaAQPMx4
import Derived.Test.YtcbpfofkdipjhaaAQPMx10
import Derived.Test.YtcbpfofkdipjhaaAQLibNFnApplied
import Derived.Test.YtcbpfofkdipjhaaAQLibCFnApplied
namespace Go.Proofs.Ytcbpfofkdipjhaa.PM
open Go.RowKit Go.Proofs.YtcbpfofkdipjhaaW.PrintWords Go.Proofs.YtcbpfofkdipjhaaW.PrintLast Go.Proofs.YtcbpfofkdipjhaaW.PrintMore Go.Proofs.Ytcbpfofkdipjhaa.Base
set_option linter.unusedVariables false
/-! ### names that rise -/
/-! ### orders -/
def txOk (kind : Int) (fr tt : ByteArray) (am no : Int) : Bool :=
  nameOk fr && (decide (1 ≤ am) && decide (am ≤ 1000000)) && (decide (0 ≤ no) && decide (no ≤ 10000)) && (if kind = 1 then nameOk tt else (decide (2 ≤ kind) && decide (kind ≤ 3)) && (tt.toList == ([] : List UInt8)))
theorem sTxOk_j (b : Bool) (kind : Int) (fr tt : ByteArray) (am no : Int) (ht : tt.size ≤ 9223372036854775807) :
    Ev (fun k => spec_TxOk.j0 k b kind fr tt am no) (!b && (if kind = 1 then nameOk tt else (decide (2 ≤ kind) && decide (kind ≤ 3)) && (tt.toList == ([] : List UInt8)))) := by
  refine Ev.step (f := fun k => if b = true then (some false) else (if kind = 1 then ((spec_NameOk.f k tt).bind fun t109 => (some t109)) else ((spec_l1In.f kind 2 3).bind fun t110 => (if t110 = true then (some (tt.toList == ([] : List UInt8))) else (some false))))) (fun k => by simp only [spec_TxOk.j0]) ?_
  cases b with
  | true => exact evPos rfl (Ev.now _)
  | false =>
    refine evNeg (by simp) ?_
    by_cases hk : kind = 1
    · simp only [hk, if_true]
      exact Ev.bind (sNameOk_ev tt ht) (Ev.now _)
    · simp only [hk, if_false]
      refine evVal fun k => ?_
      rw [l1In_eq]
      cases hd : (decide (2 ≤ kind) && decide (kind ≤ 3)) <;> simp
theorem sTxOk_ev (kind : Int) (fr tt : ByteArray) (am no : Int) (hf : fr.size ≤ 9223372036854775807) (ht : tt.size ≤ 9223372036854775807) :
    Ev (fun k => spec_TxOk.f k kind fr tt am no) (txOk kind fr tt am no) := by
  simp only [spec_TxOk.f, txOk];refine Ev.bind (sNameOk_ev fr hf) ?_
  cases hn : nameOk fr with
  | false => exact evNeg (by simp) (evEq (sTxOk_j true kind fr tt am no ht) (by simp))
  | true =>
    refine evPos rfl (evBindC (l1In_eq _ _ _) ?_)
    cases ha : (decide (1 ≤ am) && decide (am ≤ 1000000)) with
    | false => exact evNeg (by simp) (evEq (sTxOk_j true kind fr tt am no ht) (by simp))
    | true =>
      refine evPos rfl (evBindC (l1In_eq _ _ _) ?_);exact evEq (sTxOk_j _ kind fr tt am no ht) (by simp)
theorem iTxOk_j (b : Bool) (kind : Int) (fr tt : ByteArray) (am no : Int) (ht : tt.size ≤ 9223372036854775807) :
    Ev (fun k => impl_TxOk.j0 k b kind fr tt am no) (!b && (if kind = 1 then nameOk tt else (tt.toList == ([] : List UInt8)))) := by
  refine Ev.step (f := fun k => if b = true then (some false) else (if kind = 1 then ((impl_NameOk.f k tt).bind fun t109 => (some t109)) else (some (tt.toList == ([] : List UInt8))))) (fun k => by simp only [impl_TxOk.j0]) ?_
  cases b with
  | true => exact evPos rfl (Ev.now _)
  | false =>
    refine evNeg (by simp) ?_
    by_cases hk : kind = 1
    · simp only [hk, if_true]
      exact Ev.bind (iNameOk_ev tt ht) (Ev.now _)
    · simp only [hk, if_false]
      exact Ev.now _
theorem iTxOk_ev (kind : Int) (fr tt : ByteArray) (am no : Int) (hf : fr.size ≤ 9223372036854775807) (ht : tt.size ≤ 9223372036854775807) :
    Ev (fun k => impl_TxOk.f k kind fr tt am no) (txOk kind fr tt am no) := by
  simp only [impl_TxOk.f, txOk];refine evBindC (inRange_eq _ _ _) ?_
  cases hk : (decide (1 ≤ kind) && decide (kind ≤ 3)) with
  | false =>
    refine evNeg (by simp) (evEq (iTxOk_j true kind fr tt am no ht) ?_)
    have h1 : ¬ kind = 1 := by rintro rfl; simp at hk
    have h2 : (decide (2 ≤ kind) && decide (kind ≤ 3)) = false := by
      rw [Bool.and_eq_false_iff] at hk ⊢;simp at hk ⊢
      omega
    simp only [h1, if_false, h2];simp
  | true =>
    refine evPos rfl (Ev.bind (iNameOk_ev fr hf) ?_)
    have h2 : (if kind = 1 then nameOk tt else (decide (2 ≤ kind) && decide (kind ≤ 3)) && (tt.toList == ([] : List UInt8))) = (if kind = 1 then nameOk tt else (tt.toList == ([] : List UInt8))) := by
      by_cases h1 : kind = 1
      · simp [h1]
      · simp only [h1, if_false]
        have : (decide (2 ≤ kind) && decide (kind ≤ 3)) = true := by
          simp at hk ⊢
          omega
        rw [this, Bool.true_and]
    rw [h2]
    cases hn : nameOk fr with
    | false => exact evNeg (by simp) (evEq (iTxOk_j true kind fr tt am no ht) (by simp))
    | true =>
      refine evPos rfl (evBindC (inRange_eq _ _ _) ?_)
      cases ha : (decide (1 ≤ am) && decide (am ≤ 1000000)) with
      | false => exact evNeg (by simp) (evEq (iTxOk_j true kind fr tt am no ht) (by simp))
      | true =>
        refine evPos rfl (evBindC (inRange_eq _ _ _) ?_);exact evEq (iTxOk_j _ kind fr tt am no ht) (by simp)
end Go.Proofs.Ytcbpfofkdipjhaa.PM
