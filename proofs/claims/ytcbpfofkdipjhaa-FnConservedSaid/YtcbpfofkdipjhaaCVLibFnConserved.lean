/- Parts of one proof, laid together. -/
import Derived.Test.YtcbpfofkdipjhaaCVPVx0
import Derived.Test.YtcbpfofkdipjhaaCVPVx1
import Derived.Test.YtcbpfofkdipjhaaCVPVx7
import Derived.Test.YtcbpfofkdipjhaaCVBase
import Derived.Test.YtcbpfofkdipjhaaCVStr
import Derived.Test.YtcbpfofkdipjhaaCVPVx3
import Derived.Test.YtcbpfofkdipjhaaCVPVx10
import Derived.Test.YtcbpfofkdipjhaaCVPVx2
import Derived.Test.YtcbpfofkdipjhaaCVPVx8
import Derived.Test.YtcbpfofkdipjhaaCVPVx9
import Derived.Test.YtcbpfofkdipjhaaCVPVx15
import Derived.Test.YtcbpfofkdipjhaaCVPlain
import Derived.Test.YtcbpfofkdipjhaaCVPVx6
import Derived.Test.YtcbpfofkdipjhaaCVPVx13
import Derived.Test.YtcbpfofkdipjhaaCVPVx14
import Derived.Test.YtcbpfofkdipjhaaCVPVx16
import Derived.Test.YtcbpfofkdipjhaaCVShaP
import Derived.Test.YtcbpfofkdipjhaaCVPVx4
import Derived.Test.YtcbpfofkdipjhaaCVPVx11
import Derived.Test.YtcbpfofkdipjhaaCVPVx5
import Derived.Test.YtcbpfofkdipjhaaCVPVx12
import Derived.Test.YtcbpfofkdipjhaaCVShaT
import Derived.Test.YtcbpfofkdipjhaaCVPVx17
namespace Go.Proofs.Ytcbpfofkdipjhaa.PV
open Go.RowKit Go.Proofs.YtcbpfofkdipjhaaW.PrintWords Go.Proofs.YtcbpfofkdipjhaaW.PrintLast Go.Proofs.YtcbpfofkdipjhaaW.PrintMore Go.Proofs.Ytcbpfofkdipjhaa.Base
set_option linter.unusedVariables false
theorem l1In_eq (a b c : Int) : spec_l1In.f a b c = some (decide (b ≤ a) && decide (a ≤ c)) := by
  unfold spec_l1In.f
  by_cases h : a ≥ b
  · rw [if_pos h]
    simp [show b ≤ a from h]
  · rw [if_neg h]
    simp [show ¬ b ≤ a from h]
theorem inRange_eq (a b c : Int) : impl_inRange.f a b c = some (decide (b ≤ a) && decide (a ≤ c)) := by
  unfold impl_inRange.f
  by_cases h : a ≥ b
  · rw [if_pos h]
    simp [show b ≤ a from h]
  · rw [if_neg h]
    simp [show ¬ b ≤ a from h]
theorem sNameOk_l (s : ByteArray) (h : s.size ≤ 9223372036854775807) : ∀ (d i : Nat), i + d = s.size → Ev (fun k => spec_NameOk.l0 k s (i : Int)) (((bytesOf s).drop i).all nmc && lenOk s.size) := by
  intro d
  induction d with
  | zero =>
    intro i hi
    refine evOne fun k => ?_
    simp only [spec_NameOk.l0];rw [if_neg (by omega), l1In_eq, List.drop_of_length_le (by rw [bytes_length]; omega)];simp [lenOk];rw [Bool.eq_iff_iff];simp
    omega
  | succ d ih =>
    intro i hi
    have hlt : i < (bytesOf s).length := by rw [bytes_length]; omega
    have hb := (bytes_all s).get i hlt;rw [drop_rd hlt, List.all_cons]
    have e : ∀ k, spec_NameOk.l0 (k + 1) s (i : Int) = if nmc (rd (bytesOf s) (i : Int)) = true then spec_NameOk.l0 k s ((i + 1 : Nat) : Int) else some false := by
      intro k;simp only [spec_NameOk.l0];rw [if_pos (by omega), if_pos (by omega), bt_rd, w64 (by omega) (by omega), w64 (x := (i : Int) + 1) (by omega) (by omega), l1In_eq, l1In_eq];simp only [Option.bind_some];unfold nmc
      cases h1 : (decide (97 ≤ rd (bytesOf s) (i : Int)) && decide (rd (bytesOf s) (i : Int) ≤ 122)) with
      | true => simp
      | false => simp
    by_cases hn : nmc (rd (bytesOf s) (i : Int)) = true
    · refine Ev.step (f := fun k => spec_NameOk.l0 k s ((i + 1 : Nat) : Int)) (fun k => by rw [e, if_pos hn]) (evEq (ih (i + 1) (by omega)) (by simp [hn]))
    · refine evOne fun k => ?_
      rw [e, if_neg hn];simp [hn]
theorem sNameOk_ev (s : ByteArray) (h : s.size ≤ 9223372036854775807) : Ev (fun k => spec_NameOk.f k s) (nameOk s) := evEq (sNameOk_l s h s.size 0 (by omega)) (by simp [nameOk])
theorem iNameOk_l (s : ByteArray) (h : s.size ≤ 9223372036854775807) : ∀ (d i : Nat), i + d = s.size → Ev (fun k => impl_NameOk.l0 k s (i : Int)) (((bytesOf s).drop i).all nmc && lenOk s.size) := by
  intro d
  induction d with
  | zero =>
    intro i hi
    refine evOne fun k => ?_
    simp only [impl_NameOk.l0];rw [if_neg (by omega), inRange_eq, List.drop_of_length_le (by rw [bytes_length]; omega)];simp [lenOk];rw [Bool.eq_iff_iff];simp
    omega
  | succ d ih =>
    intro i hi
    have hlt : i < (bytesOf s).length := by rw [bytes_length]; omega
    have hb := (bytes_all s).get i hlt;rw [drop_rd hlt, List.all_cons]
    have e : ∀ k, impl_NameOk.l0 (k + 1) s (i : Int) = if nmc (rd (bytesOf s) (i : Int)) = true then impl_NameOk.l0 k s ((i + 1 : Nat) : Int) else some false := by
      intro k;simp only [impl_NameOk.l0];rw [if_pos (by omega), if_pos (by omega), bt_rd, w64 (x := (i : Int) + 1) (by omega) (by omega)];unfold nmc
      repeat' split
      all_goals first | rfl | (simp_all; done) | (simp_all; omega)
    by_cases hn : nmc (rd (bytesOf s) (i : Int)) = true
    · refine Ev.step (f := fun k => impl_NameOk.l0 k s ((i + 1 : Nat) : Int)) (fun k => by rw [e, if_pos hn]) (evEq (ih (i + 1) (by omega)) (by simp [hn]))
    · refine evOne fun k => ?_
      rw [e, if_neg hn];simp [hn]
theorem iNameOk_ev (s : ByteArray) (h : s.size ≤ 9223372036854775807) : Ev (fun k => impl_NameOk.f k s) (nameOk s) := evEq (iNameOk_l s h s.size 0 (by omega)) (by simp [nameOk])
end Go.Proofs.Ytcbpfofkdipjhaa.PV
namespace Go.Proofs.Ytcbpfofkdipjhaa.PV
open Go.RowKit Go.Proofs.YtcbpfofkdipjhaaW.PrintWords Go.Proofs.YtcbpfofkdipjhaaW.PrintLast Go.Proofs.YtcbpfofkdipjhaaW.PrintMore Go.Proofs.Ytcbpfofkdipjhaa.Base
set_option linter.unusedVariables false
end Go.Proofs.Ytcbpfofkdipjhaa.PV
namespace Go.Proofs.Ytcbpfofkdipjhaa.PV
open Go.RowKit Go.Proofs.YtcbpfofkdipjhaaW.PrintWords Go.Proofs.YtcbpfofkdipjhaaW.PrintLast Go.Proofs.YtcbpfofkdipjhaaW.PrintMore Go.Proofs.Ytcbpfofkdipjhaa.Base
set_option linter.unusedVariables false
/-! ### which order is less -/
end Go.Proofs.Ytcbpfofkdipjhaa.PV
namespace Go.Proofs.Ytcbpfofkdipjhaa.PV
open Go.RowKit Go.Proofs.YtcbpfofkdipjhaaW.PrintWords Go.Proofs.YtcbpfofkdipjhaaW.PrintLast Go.Proofs.YtcbpfofkdipjhaaW.PrintMore Go.Proofs.Ytcbpfofkdipjhaa.Base
set_option linter.unusedVariables false
/-! ### names that rise -/
/-! ### orders -/
def txOk (kind : Int) (fr tt : ByteArray) (am no : Int) : Bool :=
  nameOk fr && (decide (1 ≤ am) && decide (am ≤ 1000000)) && (decide (0 ≤ no) && decide (no ≤ 10000)) && (if kind = 1 then nameOk tt else (decide (2 ≤ kind) && decide (kind ≤ 3)) && (tt.toList == ([] : List UInt8)))
theorem sTxOk_j (b : Bool) (kind : Int) (fr tt : ByteArray) (am no : Int) (ht : tt.size ≤ 9223372036854775807) :
    Ev (fun k => spec_TxOk.j0 k b kind fr tt am no) (!b && (if kind = 1 then nameOk tt else (decide (2 ≤ kind) && decide (kind ≤ 3)) && (tt.toList == ([] : List UInt8)))) := by
  refine Ev.step (f := fun k => if b = true then (some false) else (if kind = 1 then ((spec_NameOk.f k tt).bind fun t109 => (some t109)) else ((spec_l1In.f kind 2 3).bind fun t110 => (if t110 = true then (some (tt.toList == ([] : List UInt8))) else (some false))))) (fun k => by simp only [spec_TxOk.j0]) ?_
  cases b with
  | true => exact evPos rfl (Ev.now _)
  | false =>
    refine evNeg (by simp) ?_
    by_cases hk : kind = 1
    · simp only [hk, if_true]
      exact Ev.bind (sNameOk_ev tt ht) (Ev.now _)
    · simp only [hk, if_false]
      refine evVal fun k => ?_
      rw [l1In_eq]
      cases hd : (decide (2 ≤ kind) && decide (kind ≤ 3)) <;> simp
theorem sTxOk_ev (kind : Int) (fr tt : ByteArray) (am no : Int) (hf : fr.size ≤ 9223372036854775807) (ht : tt.size ≤ 9223372036854775807) :
    Ev (fun k => spec_TxOk.f k kind fr tt am no) (txOk kind fr tt am no) := by
  simp only [spec_TxOk.f, txOk];refine Ev.bind (sNameOk_ev fr hf) ?_
  cases hn : nameOk fr with
  | false => exact evNeg (by simp) (evEq (sTxOk_j true kind fr tt am no ht) (by simp))
  | true =>
    refine evPos rfl (evBindC (l1In_eq _ _ _) ?_)
    cases ha : (decide (1 ≤ am) && decide (am ≤ 1000000)) with
    | false => exact evNeg (by simp) (evEq (sTxOk_j true kind fr tt am no ht) (by simp))
    | true =>
      refine evPos rfl (evBindC (l1In_eq _ _ _) ?_);exact evEq (sTxOk_j _ kind fr tt am no ht) (by simp)
theorem iTxOk_j (b : Bool) (kind : Int) (fr tt : ByteArray) (am no : Int) (ht : tt.size ≤ 9223372036854775807) :
    Ev (fun k => impl_TxOk.j0 k b kind fr tt am no) (!b && (if kind = 1 then nameOk tt else (tt.toList == ([] : List UInt8)))) := by
  refine Ev.step (f := fun k => if b = true then (some false) else (if kind = 1 then ((impl_NameOk.f k tt).bind fun t109 => (some t109)) else (some (tt.toList == ([] : List UInt8))))) (fun k => by simp only [impl_TxOk.j0]) ?_
  cases b with
  | true => exact evPos rfl (Ev.now _)
  | false =>
    refine evNeg (by simp) ?_
    by_cases hk : kind = 1
    · simp only [hk, if_true]
      exact Ev.bind (iNameOk_ev tt ht) (Ev.now _)
    · simp only [hk, if_false]
      exact Ev.now _
theorem iTxOk_ev (kind : Int) (fr tt : ByteArray) (am no : Int) (hf : fr.size ≤ 9223372036854775807) (ht : tt.size ≤ 9223372036854775807) :
    Ev (fun k => impl_TxOk.f k kind fr tt am no) (txOk kind fr tt am no) := by
  simp only [impl_TxOk.f, txOk];refine evBindC (inRange_eq _ _ _) ?_
  cases hk : (decide (1 ≤ kind) && decide (kind ≤ 3)) with
  | false =>
    refine evNeg (by simp) (evEq (iTxOk_j true kind fr tt am no ht) ?_)
    have h1 : ¬ kind = 1 := by rintro rfl; simp at hk
    have h2 : (decide (2 ≤ kind) && decide (kind ≤ 3)) = false := by
      rw [Bool.and_eq_false_iff] at hk ⊢;simp at hk ⊢
      omega
    simp only [h1, if_false, h2];simp
  | true =>
    refine evPos rfl (Ev.bind (iNameOk_ev fr hf) ?_)
    have h2 : (if kind = 1 then nameOk tt else (decide (2 ≤ kind) && decide (kind ≤ 3)) && (tt.toList == ([] : List UInt8))) = (if kind = 1 then nameOk tt else (tt.toList == ([] : List UInt8))) := by
      by_cases h1 : kind = 1
      · simp [h1]
      · simp only [h1, if_false]
        have : (decide (2 ≤ kind) && decide (kind ≤ 3)) = true := by
          simp at hk ⊢
          omega
        rw [this, Bool.true_and]
    rw [h2]
    cases hn : nameOk fr with
    | false => exact evNeg (by simp) (evEq (iTxOk_j true kind fr tt am no ht) (by simp))
    | true =>
      refine evPos rfl (evBindC (inRange_eq _ _ _) ?_)
      cases ha : (decide (1 ≤ am) && decide (am ≤ 1000000)) with
      | false => exact evNeg (by simp) (evEq (iTxOk_j true kind fr tt am no ht) (by simp))
      | true =>
        refine evPos rfl (evBindC (inRange_eq _ _ _) ?_);exact evEq (iTxOk_j _ kind fr tt am no ht) (by simp)
end Go.Proofs.Ytcbpfofkdipjhaa.PV
namespace Go.Proofs.Ytcbpfofkdipjhaa.PV
open Go.RowKit Go.Proofs.YtcbpfofkdipjhaaW.PrintWords Go.Proofs.YtcbpfofkdipjhaaW.PrintLast Go.Proofs.YtcbpfofkdipjhaaW.PrintMore Go.Proofs.Ytcbpfofkdipjhaa.Base
set_option linter.unusedVariables false
theorem rdIA_get {xs : List S63} {i : Nat} (h : i < xs.length) : rd_T63 xs (i : Int) = xs[i] := by
  unfold rd_T63;rw [Int.toNat_natCast, List.getD_eq_getElem?_getD, List.getElem?_eq_getElem h];rfl
theorem rdIL_get {xs : List S65} {i : Nat} (h : i < xs.length) : rd_T65 xs (i : Int) = xs[i] := by
  unfold rd_T65;rw [Int.toNat_natCast, List.getD_eq_getElem?_getD, List.getElem?_eq_getElem h];rfl
/-! ### an account that is sound -/
def inr (a b c : Int) : Bool := decide (b ≤ a) && decide (a ≤ c)
def lvAt (l : List S65) (i : Nat) : Bool := inr (rd_T65 l (i : Int)).f0 1 1000000 && (inr (rd_T65 l (i : Int)).f1 0 1000 && (decide (i = 0) || decide ((rd_T65 l ((i - 1 : Nat) : Int)).f1 < (rd_T65 l (i : Int)).f1)))
def lvFrom (l : List S65) : Nat → Nat → Bool
  | 0, _ => true
  | d + 1, i => lvAt l i && lvFrom l d (i + 1)
def acctOk (a : ByteArray) (b c d : Int) (l : List S65) : Bool := nameOk a && (inr b 0 1000000 && (inr c 0 10000 && (inr d 0 1000000 && (decide (l.length ≤ 4) && lvFrom l l.length 0))))
theorem sAcctOk_l (a : ByteArray) (b c d : Int) (l : List S65) (h : l.length ≤ 281474976710656) : ∀ (n i : Nat), i + n = l.length → Ev (fun k => spec_AcctOk.l0 k (i : Int) a b c d l) (lvFrom l n i) := by
  intro n
  induction n with
  | zero =>
    intro i hi
    refine evOne fun k => ?_
    simp only [spec_AcctOk.l0];rw [if_neg (by omega)];rfl
  | succ n ih =>
    intro i hi
    have hlt : i < l.length := by omega
    simp only [lvFrom, lvAt]
    have hw : wrap64 ((i : Int) + 1) = ((i + 1 : Nat) : Int) := by rw [w64 (by omega) (by omega)]; omega
    refine Ev.step (f := fun k => (if inr (rd_T65 l (i : Int)).f0 1 1000000 = true then (if inr (rd_T65 l (i : Int)).f1 0 1000 = true then (if (i : Int) > 0 then (if 0 ≤ (wrap64 ((i : Int) - 1)) then (if (wrap64 ((i : Int) - 1)) < (l.length : Int) then (if ((rd_T65 l (wrap64 ((i : Int) - 1))).f1) ≥ ((rd_T65 l (i : Int)).f1) then (some false) else (spec_AcctOk.l0 k ((i + 1 : Nat) : Int) a b c d l)) else (none)) else (none)) else (spec_AcctOk.l0 k ((i + 1 : Nat) : Int) a b c d l)) else (some false)) else (some false))) (fun k => ?_) ?_
    · simp only [spec_AcctOk.l0, l1In_eq, Option.bind_some]
      rw [if_pos (by omega), if_pos (by omega), hw];rfl
    · by_cases h1 : inr (rd_T65 l (i : Int)).f0 1 1000000 = true
      · refine evPos h1 ?_
        by_cases h2 : inr (rd_T65 l (i : Int)).f1 0 1000 = true
        · refine evPos h2 ?_
          rw [h1, h2]
          by_cases hi0 : (i : Int) > 0
          · have hw1 : wrap64 ((i : Int) - 1) = ((i - 1 : Nat) : Int) := by rw [w64 (by omega) (by omega)]; omega
            refine evPos hi0 (evPos (by omega) (evPos (by omega) ?_));rw [hw1]
            have hi' : ¬ i = 0 := by omega
            by_cases hb : (rd_T65 l ((i - 1 : Nat) : Int)).f1 ≥ (rd_T65 l (i : Int)).f1
            · exact evPos hb (evEq (Ev.now _) (by simp [hi']; omega))
            · exact evNeg hb (evEq (ih (i + 1) (by omega)) (by rw [decide_eq_true (show (rd_T65 l ((i - 1 : Nat) : Int)).f1 < (rd_T65 l (i : Int)).f1 by omega)]; simp))
          · have hi' : i = 0 := by omega
            refine evNeg hi0 (evEq (ih (i + 1) (by omega)) ?_);rw [decide_eq_true hi'];simp
        · exact evNeg h2 (evEq (Ev.now _) (by simp [h2]))
      · exact evNeg h1 (evEq (Ev.now _) (by simp [h1]))
theorem sAcctOk_ev (a : ByteArray) (b c d : Int) (l : List S65) (ha : a.size ≤ 9223372036854775807) (h : l.length ≤ 281474976710656) : Ev (fun k => spec_AcctOk.f k a b c d l) (acctOk a b c d l) := by
  have jt : Ev (fun k => spec_AcctOk.j0 k true a b c d l) false := evOne fun k => by simp [spec_AcctOk.j0]
  have jf : ¬ (l.length : Int) > 4 → Ev (fun k => spec_AcctOk.j0 k false a b c d l) (lvFrom l l.length 0) := by
    intro hl;refine Ev.step (f := fun k => spec_AcctOk.l0 k ((0 : Nat) : Int) a b c d l) (fun k => ?_) (sAcctOk_l a b c d l h l.length 0 (by omega));simp only [spec_AcctOk.j0];rw [if_neg (by simp)];rfl
  simp only [spec_AcctOk.f, l1In_eq, Option.bind_some];refine Ev.bind (sNameOk_ev a ha) ?_;unfold acctOk
  by_cases h1 : nameOk a = true
  · refine evPos h1 ?_
    by_cases h2 : (decide (0 ≤ b) && decide (b ≤ 1000000)) = true
    · refine evPos h2 ?_
      by_cases h3 : (decide (0 ≤ c) && decide (c ≤ 10000)) = true
      · refine evPos h3 ?_
        by_cases h4 : (decide (0 ≤ d) && decide (d ≤ 1000000)) = true
        · refine evPos h4 ?_
          simp only [inr, h1, h2, h3, h4, Bool.true_and]
          by_cases h5 : (l.length : Int) > 4
          · rw [decide_eq_true h5]
            exact evEq jt (by rw [decide_eq_false (by omega)]; rfl)
          · rw [decide_eq_false h5]
            exact evEq (jf h5) (by rw [decide_eq_true (by omega)]; rfl)
        · exact evNeg h4 (evEq jt (by simp only [inr]; rw [Bool.not_eq_true] at h4; rw [h4]; simp))
      · exact evNeg h3 (evEq jt (by simp only [inr]; rw [Bool.not_eq_true] at h3; rw [h3]; simp))
    · exact evNeg h2 (evEq jt (by simp only [inr]; rw [Bool.not_eq_true] at h2; rw [h2]; simp))
  · exact evNeg h1 (evEq jt (by rw [Bool.not_eq_true] at h1; rw [h1]; simp))
theorem iAcctOk_l (a : ByteArray) (b c d : Int) (l : List S65) (ha : a.size ≤ 9223372036854775807) (h : l.length ≤ 281474976710656) : ∀ (n i : Nat), i + n = l.length → Ev (fun k => impl_AcctOk.l0 k l (l.length : Int) (i : Int) a b c d l) (lvFrom l n i && (nameOk a && (inr b 0 1000000 && (inr d 0 1000000 && (inr c 0 10000 && decide (l.length ≤ 4)))))) := by
  intro n
  induction n with
  | zero =>
    intro i hi;refine Ev.step (f := fun k => (impl_NameOk.f k a).bind fun t => (if t = true then (if inr b 0 1000000 = true then (if inr d 0 1000000 = true then (if inr c 0 10000 = true then (some (decide ((l.length : Int) ≤ 4))) else (some false)) else (some false)) else (some false)) else (some false))) (fun k => ?_) (Ev.bind (iNameOk_ev a ha) ?_)
    · simp only [impl_AcctOk.l0, impl_isAmount.f, inRange_eq, Option.bind_some]
      rw [if_neg (by omega)];rfl
    · simp only [lvFrom, Bool.true_and]
      by_cases h1 : nameOk a = true
      · refine evPos h1 ?_
        by_cases h2 : inr b 0 1000000 = true
        · refine evPos h2 ?_
          by_cases h3 : inr d 0 1000000 = true
          · refine evPos h3 ?_
            by_cases h4 : inr c 0 10000 = true
            · refine evPos h4 (evEq (Ev.now _) ?_)
              rw [h1, h2, h3, h4, Bool.true_and, Bool.true_and, Bool.true_and, Bool.true_and, decide_eq_decide]
              omega
            · exact evNeg h4 (evEq (Ev.now _) (by rw [Bool.not_eq_true] at h4; rw [h4]; simp))
          · exact evNeg h3 (evEq (Ev.now _) (by rw [Bool.not_eq_true] at h3; rw [h3]; simp))
        · exact evNeg h2 (evEq (Ev.now _) (by rw [Bool.not_eq_true] at h2; rw [h2]; simp))
      · exact evNeg h1 (evEq (Ev.now _) (by rw [Bool.not_eq_true] at h1; rw [h1]; simp))
  | succ n ih =>
    intro i hi
    have hlt : i < l.length := by omega
    simp only [lvFrom, lvAt]
    have hw : wrap64 ((i : Int) + 1) = ((i + 1 : Nat) : Int) := by rw [w64 (by omega) (by omega)]; omega
    refine Ev.step (f := fun k => (if inr (rd_T65 l (i : Int)).f0 1 1000000 = true then (if inr (rd_T65 l (i : Int)).f1 0 1000 = true then (if (i : Int) > 0 then (if 0 ≤ (wrap64 ((i : Int) - 1)) then (if (wrap64 ((i : Int) - 1)) < (l.length : Int) then (if ((rd_T65 l (i : Int)).f1) ≤ ((rd_T65 l (wrap64 ((i : Int) - 1))).f1) then (some false) else (impl_AcctOk.l0 k l (l.length : Int) ((i + 1 : Nat) : Int) a b c d l)) else (none)) else (none)) else (impl_AcctOk.l0 k l (l.length : Int) ((i + 1 : Nat) : Int) a b c d l)) else (some false)) else (some false))) (fun k => ?_) ?_
    · simp only [impl_AcctOk.l0, inRange_eq, Option.bind_some]
      rw [if_pos (by omega), if_pos (by omega), if_pos (by omega), hw];rfl
    · by_cases h1 : inr (rd_T65 l (i : Int)).f0 1 1000000 = true
      · refine evPos h1 ?_
        by_cases h2 : inr (rd_T65 l (i : Int)).f1 0 1000 = true
        · refine evPos h2 ?_
          rw [h1, h2]
          by_cases hi0 : (i : Int) > 0
          · have hw1 : wrap64 ((i : Int) - 1) = ((i - 1 : Nat) : Int) := by rw [w64 (by omega) (by omega)]; omega
            refine evPos hi0 (evPos (by omega) (evPos (by omega) ?_));rw [hw1]
            have hi' : ¬ i = 0 := by omega
            by_cases hb : (rd_T65 l (i : Int)).f1 ≤ (rd_T65 l ((i - 1 : Nat) : Int)).f1
            · refine evPos hb (evEq (Ev.now _) ?_)
              rw [decide_eq_false hi', decide_eq_false (show ¬ (rd_T65 l ((i - 1 : Nat) : Int)).f1 < (rd_T65 l (i : Int)).f1 by omega)];simp
            · exact evNeg hb (evEq (ih (i + 1) (by omega)) (by rw [decide_eq_true (show (rd_T65 l ((i - 1 : Nat) : Int)).f1 < (rd_T65 l (i : Int)).f1 by omega)]; simp))
          · have hi' : i = 0 := by omega
            refine evNeg hi0 (evEq (ih (i + 1) (by omega)) ?_);rw [decide_eq_true hi'];simp
        · exact evNeg h2 (evEq (Ev.now _) (by rw [Bool.not_eq_true] at h2; rw [h2]; simp))
      · exact evNeg h1 (evEq (Ev.now _) (by rw [Bool.not_eq_true] at h1; rw [h1]; simp))
theorem iAcctOk_ev (a : ByteArray) (b c d : Int) (l : List S65) (ha : a.size ≤ 9223372036854775807) (h : l.length ≤ 281474976710656) : Ev (fun k => impl_AcctOk.f k a b c d l) (acctOk a b c d l) := by
  simp only [impl_AcctOk.f];refine evEq (iAcctOk_l a b c d l ha h l.length 0 (by omega)) ?_;unfold acctOk
  cases nameOk a <;> cases inr b 0 1000000 <;> cases inr c 0 10000 <;> cases inr d 0 1000000 <;> cases decide (l.length ≤ 4) <;> cases lvFrom l l.length 0 <;> rfl
/-! ### what accounts hold -/
def lsum (l : List S65) : Int := (l.map fun s => s.f0).sum
def asum (l : List S63) : Int := (l.map fun s => s.f1 + s.f3 + lsum s.f4).sum
theorem wadd_l (a b : Int) : wrap64 (wrap64 a + b) = wrap64 (a + b) := by unfold wrap64; omega
theorem wadd_r (a b : Int) : wrap64 (a + wrap64 b) = wrap64 (a + b) := by unfold wrap64; omega
theorem sOf_l (a : ByteArray) (b c d : Int) (l : List S65) (h : l.length ≤ 281474976710656) : ∀ (n i : Nat) (X : Int), i + n = l.length → Ev (fun k => spec_l4Of.l0 k (wrap64 X) (i : Int) a b c d l) (wrap64 (X + lsum (l.drop i))) := by
  intro n
  induction n with
  | zero =>
    intro i X hi
    refine evOne fun k => ?_
    simp only [spec_l4Of.l0];rw [if_neg (by omega), List.drop_of_length_le (by omega)];simp [lsum]
  | succ n ih =>
    intro i X hi
    have hlt : i < l.length := by omega
    refine Ev.step (f := fun k => spec_l4Of.l0 k (wrap64 (X + l[i].f0)) ((i + 1 : Nat) : Int) a b c d l) (fun k => ?_) (evEq (ih (i + 1) (X + l[i].f0) (by omega)) ?_)
    · simp only [spec_l4Of.l0]
      rw [if_pos (by omega), if_pos (by omega), rdIL_get hlt, wadd_l, w64 (x := (i : Int) + 1) (by omega) (by omega)];rfl
    · rw [drop_cons hlt]
      simp only [lsum, List.map_cons, List.sum_cons]
      congr 1
      omega
theorem sOf_ev (a : ByteArray) (b c d : Int) (l : List S65) (h : l.length ≤ 281474976710656) : Ev (fun k => spec_l4Of.f k a b c d l) (wrap64 (b + d + lsum l)) := by
  simp only [spec_l4Of.f];exact sOf_l a b c d l h l.length 0 (b + d) (by omega)
theorem sWealth_l (l : List S63) (h : l.length ≤ 281474976710656) (hs : ∀ s ∈ l, s.f4.length ≤ 281474976710656) : ∀ (n i : Nat) (X : Int), i + n = l.length → Ev (fun k => spec_Wealth.l0 k l (wrap64 X) (i : Int)) (wrap64 (X + asum (l.drop i))) := by
  intro n
  induction n with
  | zero =>
    intro i X hi
    refine evOne fun k => ?_
    simp only [spec_Wealth.l0];rw [if_neg (by omega), List.drop_of_length_le (by omega)];simp [asum]
  | succ n ih =>
    intro i X hi
    have hlt : i < l.length := by omega
    have hE := ih (i + 1) (X + (l[i].f1 + l[i].f3 + lsum l[i].f4)) (by omega);rw [← wadd_l, ← wadd_r (wrap64 X)] at hE;refine Ev.step (f := fun k => (spec_l4Of.f k l[i].f0 l[i].f1 l[i].f2 l[i].f3 l[i].f4).bind fun t => spec_Wealth.l0 k l (wrap64 (wrap64 X + t)) ((i + 1 : Nat) : Int)) (fun k => ?_) (Ev.bind (sOf_ev _ _ _ _ _ (hs _ (List.getElem_mem hlt))) (evEq hE ?_))
    · simp only [spec_Wealth.l0]
      rw [if_pos (by omega), if_pos (by omega), rdIA_get hlt, w64 (x := (i : Int) + 1) (by omega) (by omega)];rfl
    · rw [drop_cons hlt]
      simp only [asum, List.map_cons, List.sum_cons]
      congr 1
      omega
theorem sWealth_ev (l : List S63) (h : l.length ≤ 281474976710656) (hs : ∀ s ∈ l, s.f4.length ≤ 281474976710656) : Ev (fun k => spec_Wealth.f k l) (wrap64 (asum l)) := by
  have := sWealth_l l h hs l.length 0 0 (by omega);simp only [spec_Wealth.f];rw [Int.zero_add, List.drop_zero, show wrap64 0 = 0 from w64 (by omega) (by omega)] at this;exact this
theorem iWealth_l1 (l : List S63) (N i : Int) (m : List S65) (h : m.length ≤ 281474976710656) (r : Int) : ∀ (n j : Nat) (X : Int), j + n = m.length → Ev (fun k => impl_Wealth.l0 k (wrap64 (X + lsum (m.drop j))) l N (wrap64 (i + 1))) r → Ev (fun k => impl_Wealth.l1 k (wrap64 X) l N i m (m.length : Int) (j : Int)) r := by
  intro n
  induction n with
  | zero =>
    intro j X hj hr;rw [List.drop_of_length_le (by omega)] at hr;refine Ev.step (fun k => ?_) hr;simp only [impl_Wealth.l1];rw [if_neg (by omega)];simp [lsum]
  | succ n ih =>
    intro j X hj hr
    have hlt : j < m.length := by omega
    refine Ev.step (f := fun k => impl_Wealth.l1 k (wrap64 (X + m[j].f0)) l N i m (m.length : Int) ((j + 1 : Nat) : Int)) (fun k => ?_) (ih (j + 1) (X + m[j].f0) (by omega) ?_)
    · simp only [impl_Wealth.l1]
      rw [if_pos (by omega), if_pos (by omega), if_pos (by omega), rdIL_get hlt, wadd_l, w64 (x := (j : Int) + 1) (by omega) (by omega)];rfl
    · rw [drop_cons hlt] at hr
      simp only [lsum, List.map_cons, List.sum_cons] at hr ⊢;rw [Int.add_assoc];exact hr
theorem iWealth_l (l : List S63) (h : l.length ≤ 281474976710656) (hs : ∀ s ∈ l, s.f4.length ≤ 281474976710656) : ∀ (n i : Nat) (X : Int), i + n = l.length → Ev (fun k => impl_Wealth.l0 k (wrap64 X) l (l.length : Int) (i : Int)) (wrap64 (X + asum (l.drop i))) := by
  intro n
  induction n with
  | zero =>
    intro i X hi
    refine evOne fun k => ?_
    simp only [impl_Wealth.l0];rw [if_neg (by omega), List.drop_of_length_le (by omega)];simp [asum]
  | succ n ih =>
    intro i X hi
    have hlt : i < l.length := by omega
    have hE := ih (i + 1) (X + (l[i].f1 + l[i].f3) + lsum l[i].f4) (by omega)
    have hw : wrap64 ((i : Int) + 1) = ((i + 1 : Nat) : Int) := by rw [w64 (by omega) (by omega)]; omega
    have h1 := iWealth_l1 l (l.length : Int) (i : Int) l[i].f4 (hs _ (List.getElem_mem hlt)) _ l[i].f4.length 0 (X + (l[i].f1 + l[i].f3)) (by omega) (by rw [hw, List.drop_zero]; exact hE);refine Ev.step (f := fun k => impl_Wealth.l1 k (wrap64 (X + (l[i].f1 + l[i].f3))) l (l.length : Int) (i : Int) l[i].f4 (l[i].f4.length : Int) ((0 : Nat) : Int)) (fun k => ?_) (evEq h1 ?_)
    · simp only [impl_Wealth.l0]
      rw [if_pos (by omega), if_pos (by omega), if_pos (by omega), rdIA_get hlt, wadd_r, wadd_l];rfl
    · rw [drop_cons hlt]
      simp only [asum, List.map_cons, List.sum_cons]
      congr 1
      omega
theorem iWealth_ev (l : List S63) (h : l.length ≤ 281474976710656) (hs : ∀ s ∈ l, s.f4.length ≤ 281474976710656) : Ev (fun k => impl_Wealth.f k l) (wrap64 (asum l)) := by
  have := iWealth_l l h hs l.length 0 0 (by omega);simp only [impl_Wealth.f];rw [Int.zero_add, List.drop_zero, show wrap64 0 = 0 from w64 (by omega) (by omega)] at this;exact this
/-! ### accounts in their order -/
def acAt (l : List S63) (i : Nat) : Bool := acctOk (rd_T63 l (i : Int)).f0 (rd_T63 l (i : Int)).f1 (rd_T63 l (i : Int)).f2 (rd_T63 l (i : Int)).f3 (rd_T63 l (i : Int)).f4 && (decide (i = 0) || Op.bytesLess (rd_T63 l ((i - 1 : Nat) : Int)).f0.toList (rd_T63 l (i : Int)).f0.toList)
def acFrom (l : List S63) : Nat → Nat → Bool
  | 0, _ => true
  | d + 1, i => acAt l i && acFrom l d (i + 1)
def acctsOk (l : List S63) : Bool := acFrom l l.length 0 && (decide (l.length ≤ 12) && decide (wrap64 (asum l) ≤ 1000000))
theorem sAcctsOk_l (l : List S63) (h : l.length ≤ 281474976710656) (hs : ∀ s ∈ l, s.f0.size ≤ 9223372036854775807 ∧ s.f4.length ≤ 281474976710656) : ∀ (n i : Nat), i + n = l.length → Ev (fun k => spec_AcctsOk.l0 k l (i : Int)) (acFrom l n i && (decide (l.length ≤ 12) && decide (wrap64 (asum l) ≤ 1000000))) := by
  intro n
  induction n with
  | zero =>
    intro i hi;refine Ev.step (f := fun k => if (l.length : Int) ≤ 12 then ((spec_Wealth.f k l).bind fun t => (some (decide (t ≤ 1000000)))) else (some false)) (fun k => ?_) ?_
    · simp only [spec_AcctsOk.l0]
      rw [if_neg (by omega)]
    · simp only [acFrom, Bool.true_and]
      by_cases h12 : (l.length : Int) ≤ 12
      · exact evPos h12 (Ev.bind (sWealth_ev l h (fun s hx => (hs s hx).2)) (evEq (Ev.now _) (by rw [decide_eq_true (show l.length ≤ 12 by omega), Bool.true_and])))
      · exact evNeg h12 (evEq (Ev.now _) (by rw [decide_eq_false (show ¬ l.length ≤ 12 by omega), Bool.false_and]))
  | succ n ih =>
    intro i hi
    have hlt : i < l.length := by omega
    have hm := hs _ (List.getElem_mem hlt);rw [← rdIA_get hlt] at hm;simp only [acFrom, acAt]
    have hw : wrap64 ((i : Int) + 1) = ((i + 1 : Nat) : Int) := by rw [w64 (by omega) (by omega)]; omega
    generalize hx : rd_T63 l (i : Int) = x at hm
    refine Ev.step (f := fun k => (spec_AcctOk.f k x.f0 x.f1 x.f2 x.f3 x.f4).bind fun t => (if t = true then (if (i : Int) > 0 then (if 0 ≤ (wrap64 ((i : Int) - 1)) then (if (wrap64 ((i : Int) - 1)) < (l.length : Int) then (if ((Op.bytesLess (((rd_T63 l (wrap64 ((i : Int) - 1))).f0).toList) (x.f0.toList)) = true) then (spec_AcctsOk.l0 k l ((i + 1 : Nat) : Int)) else (some false)) else (none)) else (none)) else (spec_AcctsOk.l0 k l ((i + 1 : Nat) : Int))) else (some false))) (fun k => ?_) (Ev.bind (sAcctOk_ev x.f0 x.f1 x.f2 x.f3 x.f4 hm.1 hm.2) ?_)
    · simp only [spec_AcctsOk.l0]
      rw [if_pos (by omega), if_pos (by omega), hx, hw]
    · by_cases h1 : acctOk x.f0 x.f1 x.f2 x.f3 x.f4 = true
      · refine evPos h1 ?_
        rw [h1]
        by_cases hi0 : (i : Int) > 0
        · have hw1 : wrap64 ((i : Int) - 1) = ((i - 1 : Nat) : Int) := by rw [w64 (by omega) (by omega)]; omega
          refine evPos hi0 (evPos (by omega) (evPos (by omega) ?_));rw [hw1]
          have hi' : ¬ i = 0 := by omega
          by_cases hb : Op.bytesLess (rd_T63 l ((i - 1 : Nat) : Int)).f0.toList x.f0.toList = true
          · exact evPos hb (evEq (ih (i + 1) (by omega)) (by rw [hb]; simp))
          · exact evNeg hb (evEq (Ev.now _) (by rw [Bool.not_eq_true] at hb; rw [hb, decide_eq_false hi']; simp))
        · have hi' : i = 0 := by omega
          refine evNeg hi0 (evEq (ih (i + 1) (by omega)) ?_);rw [decide_eq_true hi'];simp
      · exact evNeg h1 (evEq (Ev.now _) (by rw [Bool.not_eq_true] at h1; rw [h1]; simp))
theorem sAcctsOk_ev (l : List S63) (h : l.length ≤ 281474976710656) (hs : ∀ s ∈ l, s.f0.size ≤ 9223372036854775807 ∧ s.f4.length ≤ 281474976710656) : Ev (fun k => spec_AcctsOk.f k l) (acctsOk l) := sAcctsOk_l l h hs l.length 0 (by omega)
theorem iAcctsOk_l (l : List S63) (h : l.length ≤ 281474976710656) (hs : ∀ s ∈ l, s.f0.size ≤ 9223372036854775807 ∧ s.f4.length ≤ 281474976710656) : ∀ (n i : Nat), i + n = l.length → Ev (fun k => impl_AcctsOk.l0 k l l (l.length : Int) (i : Int)) (acFrom l n i && (decide (l.length ≤ 12) && decide (wrap64 (asum l) ≤ 1000000))) := by
  intro n
  induction n with
  | zero =>
    intro i hi;refine Ev.step (f := fun k => if (l.length : Int) ≤ 12 then ((impl_Wealth.f k l).bind fun t => (some (decide (t ≤ 1000000)))) else (some false)) (fun k => ?_) ?_
    · simp only [impl_AcctsOk.l0]
      rw [if_neg (by omega)]
    · simp only [acFrom, Bool.true_and]
      by_cases h12 : (l.length : Int) ≤ 12
      · exact evPos h12 (Ev.bind (iWealth_ev l h (fun s hx => (hs s hx).2)) (evEq (Ev.now _) (by rw [decide_eq_true (show l.length ≤ 12 by omega), Bool.true_and])))
      · exact evNeg h12 (evEq (Ev.now _) (by rw [decide_eq_false (show ¬ l.length ≤ 12 by omega), Bool.false_and]))
  | succ n ih =>
    intro i hi
    have hlt : i < l.length := by omega
    have hm := hs _ (List.getElem_mem hlt);rw [← rdIA_get hlt] at hm;simp only [acFrom, acAt]
    have hw : wrap64 ((i : Int) + 1) = ((i + 1 : Nat) : Int) := by rw [w64 (by omega) (by omega)]; omega
    generalize hx : rd_T63 l (i : Int) = x at hm
    refine Ev.step (f := fun k => (impl_AcctOk.f k x.f0 x.f1 x.f2 x.f3 x.f4).bind fun t => (if t = true then (if (i : Int) > 0 then (if 0 ≤ (wrap64 ((i : Int) - 1)) then (if (wrap64 ((i : Int) - 1)) < (l.length : Int) then (if ((Op.bytesLess (((rd_T63 l (wrap64 ((i : Int) - 1))).f0).toList) (x.f0.toList)) = true) then (impl_AcctsOk.l0 k l l (l.length : Int) ((i + 1 : Nat) : Int)) else (some false)) else (none)) else (none)) else (impl_AcctsOk.l0 k l l (l.length : Int) ((i + 1 : Nat) : Int))) else (some false))) (fun k => ?_) (Ev.bind (iAcctOk_ev x.f0 x.f1 x.f2 x.f3 x.f4 hm.1 hm.2) ?_)
    · simp only [impl_AcctsOk.l0]
      rw [if_pos (by omega), if_pos (by omega), if_pos (by omega), hx, hw]
    · by_cases h1 : acctOk x.f0 x.f1 x.f2 x.f3 x.f4 = true
      · refine evPos h1 ?_
        rw [h1]
        by_cases hi0 : (i : Int) > 0
        · have hw1 : wrap64 ((i : Int) - 1) = ((i - 1 : Nat) : Int) := by rw [w64 (by omega) (by omega)]; omega
          refine evPos hi0 (evPos (by omega) (evPos (by omega) ?_));rw [hw1]
          have hi' : ¬ i = 0 := by omega
          by_cases hb : Op.bytesLess (rd_T63 l ((i - 1 : Nat) : Int)).f0.toList x.f0.toList = true
          · exact evPos hb (evEq (ih (i + 1) (by omega)) (by rw [hb]; simp))
          · exact evNeg hb (evEq (Ev.now _) (by rw [Bool.not_eq_true] at hb; rw [hb, decide_eq_false hi']; simp))
        · have hi' : i = 0 := by omega
          refine evNeg hi0 (evEq (ih (i + 1) (by omega)) ?_);rw [decide_eq_true hi'];simp
      · exact evNeg h1 (evEq (Ev.now _) (by rw [Bool.not_eq_true] at h1; rw [h1]; simp))
theorem iAcctsOk_ev (l : List S63) (h : l.length ≤ 281474976710656) (hs : ∀ s ∈ l, s.f0.size ≤ 9223372036854775807 ∧ s.f4.length ≤ 281474976710656) : Ev (fun k => impl_AcctsOk.f k l) (acctsOk l) := iAcctsOk_l l h hs l.length 0 (by omega)
end Go.Proofs.Ytcbpfofkdipjhaa.PV
namespace Go.Proofs.Ytcbpfofkdipjhaa.PV
open Go.RowKit Go.Proofs.YtcbpfofkdipjhaaW.PrintWords Go.Proofs.YtcbpfofkdipjhaaW.PrintLast Go.Proofs.YtcbpfofkdipjhaaW.PrintMore Go.Proofs.Ytcbpfofkdipjhaa.Base
set_option linter.unusedVariables false
end Go.Proofs.Ytcbpfofkdipjhaa.PV
namespace Go.Proofs.Ytcbpfofkdipjhaa.PV
open Go.RowKit Go.Proofs.YtcbpfofkdipjhaaW.PrintWords Go.Proofs.YtcbpfofkdipjhaaW.PrintLast Go.Proofs.YtcbpfofkdipjhaaW.PrintMore Go.Proofs.Ytcbpfofkdipjhaa.Base
set_option linter.unusedVariables false
theorem putT_length (s : ByteArray) : (putT s).length ≤ s.size + 6 := by
  have := putN_length (s.size : Int);simp [putT, bytes_length]
  omega
theorem low7' (m : Int) (h0 : 0 ≤ m) (h1 : m < 2 ^ 62) : (Go.bits .or .i64 128 (Go.bits .and .i64 m 127)) % 256 = m % 128 + 128 := by
  rw [and127 m h0 (by omega), or_high 7 128 (m % 128) (by decide) (by decide) (by decide) (by omega) (by omega) (by omega)]
  omega
theorem iputNum_l : ∀ (f : Nat) (x : List Int) (m : Int), 0 ≤ m → m < 128 ^ (f + 1) → f ≤ 5 → x.length + f < 140737488355328 → Ev (fun k => impl_putNum.l0 k x m) (x ++ grp f m) := by
  intro f
  induction f with
  | zero =>
    intro x m h0 h1 hf hl
    have h2 : m < 128 := by simpa using h1
    refine evOne fun k => ?_
    simp only [impl_putNum.l0, grp];rw [if_neg (by omega), if_pos (by omega)]
  | succ f ih =>
    intro x m h0 h1 hf hl
    have hpow : (128 : Int) ^ (f + 1 + 1) ≤ 128 ^ 6 := by
      have : f = 0 ∨ f = 1 ∨ f = 2 ∨ f = 3 ∨ f = 4 := by omega
      rcases this with rfl | rfl | rfl | rfl | rfl <;> decide
    have hm62 : m < 2 ^ 62 := by omega
    by_cases hb : m > 127
    · have hq : m / 128 < 128 ^ (f + 1) := by
        have h2 : (128 : Int) ^ (f + 1 + 1) = 128 ^ (f + 1) * 128 := Int.pow_succ _ _;rw [h2] at h1;exact Int.ediv_lt_of_lt_mul (by decide) h1
      refine Ev.step (f := fun k => impl_putNum.l0 k (x ++ [m % 128 + 128]) (m / 128)) (fun k => ?_) (evEq (ih (x ++ [m % 128 + 128]) (m / 128) (by omega) hq (by omega) (by simp; omega)) ?_)
      · simp only [impl_putNum.l0]
        rw [if_pos hb, if_pos (by omega), low7' m h0 hm62]
      · simp only [grp]
        rw [if_pos hb];simp
    · refine evOne fun k => ?_
      simp only [impl_putNum.l0, grp];rw [if_neg hb, if_pos (by omega), if_neg hb]
theorem clamp_mx (n : Int) : mx (-1000000000) (mn n 1000000000) = clampN n := by
  unfold mx mn clampN
  by_cases h1 : 1000000000 < n
  · rw [if_pos h1, if_pos (by omega : n > 1000000000), if_pos (by omega)]
  · rw [if_neg h1, if_neg (by omega : ¬ n > 1000000000)]
    by_cases h2 : n < -1000000000
    · rw [if_pos h2, if_neg (by omega)]
    · rw [if_neg h2]
      by_cases h3 : -1000000000 < n
      · rw [if_pos h3]
      · rw [if_neg h3]; omega
theorem iputNum_ev (b : List Int) (n : Int) (hl : b.length < 140737488355000) : Ev (fun k => impl_putNum.f k b n) (b ++ putN n) := by
  have hr := numM_range n;have hc := clampN_range n;have h1 := iputNum_l 5 b (numM n) hr.1 (by omega) (by omega) (by omega)
  have j0 : ∀ m, m = numM n → Ev (fun k => impl_putNum.j0 k b m) (b ++ putN n) := by
    intro m hm;subst hm;exact Ev.step (f := fun k => impl_putNum.l0 k b (numM n)) (fun k => by simp only [impl_putNum.j0]) h1
  simp only [impl_putNum.f, clamp_mx]
  by_cases hneg : clampN n < 0
  · refine evPos hneg (j0 _ ?_)
    unfold numM;rw [if_pos hneg]
  · refine evNeg hneg (j0 _ ?_)
    unfold numM;rw [if_neg hneg]
theorem iputText_ev (b : List Int) (s : ByteArray) (hl : b.length + s.size < 140737488354000) : Ev (fun k => impl_putText.f k b s) (b ++ putT s) := by
  have hp := putN_length (s.size : Int);simp only [impl_putText.f];refine Ev.bind (iputNum_ev b s.size (by omega)) (evPos (by simp; omega) (evEq (Ev.now _) (by simp [putT])))
/-! ### orders -/
end Go.Proofs.Ytcbpfofkdipjhaa.PV
namespace Go.Proofs.Ytcbpfofkdipjhaa.PV
open Go.RowKit Go.Proofs.YtcbpfofkdipjhaaW.PrintWords Go.Proofs.YtcbpfofkdipjhaaW.PrintLast Go.Proofs.YtcbpfofkdipjhaaW.PrintMore Go.Proofs.Ytcbpfofkdipjhaa.Base
set_option linter.unusedVariables false
/-- The cursor's place lies in its bytes. -/
def St (b : List Int) (i : Int) : Prop := AllB b ∧ b.length ≤ 281474976710656 ∧ 0 ≤ i ∧ i ≤ (b.length : Int)
theorem and255 (x : Int) : 0 ≤ Go.bits .and .i64 x 255 ∧ Go.bits .and .i64 x 255 ≤ 255 := by
  have h : (BitVec.ofInt 64 x &&& BitVec.ofInt 64 255).toNat ≤ 255 := by
    rw [BitVec.toNat_and];exact Nat.and_le_right
  have e : Go.bits .and .i64 x 255 = IntKind.i64.wrap ((BitVec.ofInt 64 x &&& BitVec.ofInt 64 255).toNat : Int) := rfl;rw [e, wraps_i64 _ (by omega) (by omega)]
  omega
theorem l1New_l (b : List Int) (hl : b.length ≤ 281474976710656) : ∀ (d i : Nat) (h : Int), i + d = b.length → ∃ h', Ev (fun k => spec_l1New.l0 k b h (i : Int)) (b, 0, h') := by
  intro d
  induction d with
  | zero =>
    intro i h hi;refine ⟨h, evOne fun k => ?_⟩;simp only [spec_l1New.l0];rw [if_neg (by omega)]
  | succ d ih =>
    intro i h hi
    by_cases h4 : (i : Int) < 4000
    · obtain ⟨h', hr⟩ := ih (i + 1) (Go.bits .and .i64 (wrap64 ((wrap64 ((wrap64 (h * 137)) + (wrap64 (rd b (i : Int))))) + 11)) 1073741823) (by omega)
      refine ⟨h', Ev.step (f := fun k => spec_l1New.l0 k b (Go.bits .and .i64 (wrap64 ((wrap64 ((wrap64 (h * 137)) + (wrap64 (rd b (i : Int))))) + 11)) 1073741823) ((i + 1 : Nat) : Int)) (fun k => ?_) hr⟩;simp only [spec_l1New.l0];rw [if_pos (by omega), if_pos h4, if_pos (by omega), w64 (x := (i : Int) + 1) (by omega) (by omega)];rfl
    · refine ⟨h, evOne fun k => ?_⟩
      simp only [spec_l1New.l0];rw [if_pos (by omega), if_neg h4]
theorem l1New_ev (b : List Int) (hb : AllB b) (hl : b.length ≤ 281474976710656) : ∃ h', Ev (fun k => spec_l1New.f k b) (b, 0, h') ∧ St b 0 := by
  obtain ⟨h', hr⟩ := l1New_l b hl b.length 0 _ (by omega);exact ⟨h', hr, hb, hl, by omega, by omega⟩
theorem l1Byte_eq (b : List Int) (i h : Int) (hs : St b i) : ∃ r i' h', spec_l1Byte.f b i h = some (r, i', h') ∧ St b i' ∧ 0 ≤ r ∧ r ≤ 255 := by
  obtain ⟨hb, hl, h0, h1⟩ := hs;unfold spec_l1Byte.f
  by_cases hlt : i < (b.length : Int)
  · rw [if_pos hlt, if_pos h0]
    exact ⟨_, _, _, rfl, ⟨hb, hl, by rw [w64 (by omega) (by omega)]; omega, by rw [w64 (by omega) (by omega)]; omega⟩, (and255 _).1, (and255 _).2⟩
  · rw [if_neg hlt]
    exact ⟨_, _, _, rfl, ⟨hb, hl, h0, h1⟩, (and255 _).1, (and255 _).2⟩
theorem tmod_below (x n : Int) (h0 : 0 ≤ x) (hn : 0 < n) : 0 ≤ x.tmod n ∧ x.tmod n < n := by
  rw [Int.tmod_eq_emod_of_nonneg h0];exact ⟨Int.emod_nonneg _ (by omega), Int.emod_lt_of_pos _ hn⟩
theorem l1Below_eq (b : List Int) (i h n : Int) (hs : St b i) : ∃ r i' h', spec_l1Below.f b i h n = some (r, i', h') ∧ St b i' ∧ 0 ≤ r ∧ (0 < n → r < n) ∧ (n ≤ 0 → r = 0) := by
  unfold spec_l1Below.f
  by_cases h0 : n ≤ 0
  · rw [if_pos h0]
    exact ⟨_, _, _, rfl, hs, by omega, fun _ => by omega, fun _ => rfl⟩
  · rw [if_neg h0]
    by_cases h1 : n ≤ 256
    · rw [if_pos h1]
      obtain ⟨r, i', h', e, hs', r0, r1⟩ := l1Byte_eq b i h hs;rw [e];simp only [Option.bind_some];rw [if_neg (by omega)];have := tmod_below r n r0 (by omega);exact ⟨_, _, _, rfl, hs', this.1, fun _ => this.2, fun _ => by omega⟩
    · rw [if_neg h1]
      obtain ⟨r, i', h', e, hs', r0, r1⟩ := l1Byte_eq b i h hs;obtain ⟨s, i2, h2, e2, hs2, s0, s1⟩ := l1Byte_eq b i' h' hs';obtain ⟨t, i3, h3, e3, hs3, t0, t1⟩ := l1Byte_eq b i2 h2 hs2;rw [e];simp only [Option.bind_some, e2, e3];rw [if_neg (by omega), w64 (x := r * 65536) (by omega) (by omega), w64 (x := s * 256) (by omega) (by omega), w64 (x := r * 65536 + s * 256) (by omega) (by omega), w64 (x := r * 65536 + s * 256 + t) (by omega) (by omega)];have := tmod_below (r * 65536 + s * 256 + t) n (by omega) (by omega);exact ⟨_, _, _, rfl, hs3, this.1, fun _ => this.2, fun _ => by omega⟩
theorem l1Int_eq (b : List Int) (i h : Int) (l : List Int) (hl0 : 0 < l.length) (hs : St b i) : ∃ r i' h', spec_l1Int.f b i h l = some (r, i', h') ∧ St b i' ∧ r ∈ l := by
  obtain ⟨r, i', h', e, hs', r0, r1, _⟩ := l1Below_eq b i h (l.length : Int) hs;have r1 := r1 (by omega);unfold spec_l1Int.f;rw [e];simp only [Option.bind_some];rw [if_pos r0, if_pos r1];refine ⟨_, _, _, rfl, hs', ?_⟩;obtain ⟨j, rfl⟩ := Int.eq_ofNat_of_zero_le r0;rw [rd_get (by omega)];exact List.getElem_mem _
theorem l1Once_eq (b : List Int) (i h n : Int) (hs : St b i) : ∃ r i' h', spec_l1Once.f b i h n = some (r, i', h') ∧ St b i' := by
  obtain ⟨r, i', h', e, hs', _⟩ := l1Below_eq b i h n hs;unfold spec_l1Once.f;rw [e];exact ⟨_, _, _, rfl, hs'⟩
theorem l1Str_eq (b : List Int) (i h : Int) (l : List ByteArray) (hl0 : 0 < l.length) (hs : St b i) : ∃ r i' h', spec_l1Str.f b i h l = some (r, i', h') ∧ St b i' ∧ r ∈ l := by
  obtain ⟨r, i', h', e, hs', r0, r1, _⟩ := l1Below_eq b i h (l.length : Int) hs;have r1 := r1 (by omega);unfold spec_l1Str.f;rw [e];simp only [Option.bind_some];rw [if_pos r0, if_pos r1];refine ⟨_, _, _, rfl, hs', ?_⟩;obtain ⟨j, rfl⟩ := Int.eq_ofNat_of_zero_le r0;unfold rdOf;rw [Int.toNat_natCast, List.getD_eq_getElem?_getD, List.getElem?_eq_getElem (by omega)];exact List.getElem_mem _
theorem l1Name_eq (b : List Int) (i h : Int) (hs : St b i) : ∃ r i' h', spec_l1Name.f b i h = some (r, i', h') ∧ St b i' ∧ r ∈ [(⟨#[97]⟩ : ByteArray), (⟨#[98]⟩ : ByteArray), (⟨#[99]⟩ : ByteArray), (⟨#[100]⟩ : ByteArray), (⟨#[101]⟩ : ByteArray), (⟨#[97, 49]⟩ : ByteArray)] := by
  obtain ⟨r, i', h', e, hs', hr⟩ := l1Str_eq b i h [(⟨#[97]⟩ : ByteArray), (⟨#[98]⟩ : ByteArray), (⟨#[99]⟩ : ByteArray), (⟨#[100]⟩ : ByteArray), (⟨#[101]⟩ : ByteArray), (⟨#[97, 49]⟩ : ByteArray)] (by simp) hs;unfold spec_l1Name.f;rw [e];exact ⟨_, _, _, rfl, hs', hr⟩
theorem name_size {r : ByteArray} (h : r ∈ [(⟨#[97]⟩ : ByteArray), (⟨#[98]⟩ : ByteArray), (⟨#[99]⟩ : ByteArray), (⟨#[100]⟩ : ByteArray), (⟨#[101]⟩ : ByteArray), (⟨#[97, 49]⟩ : ByteArray)]) : 1 ≤ r.size ∧ r.size ≤ 2 := by
  simp at h
  rcases h with rfl | rfl | rfl | rfl | rfl | rfl <;> decide
theorem five_at (j : Nat) (h : j < 5) : ∃ c : UInt8, c.toNat = 97 + j ∧ rdOf ByteArray.empty [(⟨#[97]⟩ : ByteArray), (⟨#[98]⟩ : ByteArray), (⟨#[99]⟩ : ByteArray), (⟨#[100]⟩ : ByteArray), (⟨#[101]⟩ : ByteArray)] (j : Int) = ⟨#[c]⟩ := by
  have : j = 0 ∨ j = 1 ∨ j = 2 ∨ j = 3 ∨ j = 4 := by omega
  rcases this with rfl | rfl | rfl | rfl | rfl
  · exact ⟨97, rfl, rfl⟩
  · exact ⟨98, rfl, rfl⟩
  · exact ⟨99, rfl, rfl⟩
  · exact ⟨100, rfl, rfl⟩
  · exact ⟨101, rfl, rfl⟩
/-- The names drawn: single letters that rise, below letter number j. -/
def Rise : List ByteArray → Nat → Prop
  | [], _ => True
  | s :: l, j => ∃ c : UInt8, s = ⟨#[c]⟩ ∧ 97 + j ≤ c.toNat ∧ c.toNat ≤ 101 ∧ Rise l (c.toNat - 96)
theorem l1Names_l (b : List Int) : ∀ (d j : Nat) (x : List ByteArray) (i h : Int), j + d = 5 → x.length ≤ j → St b i →
    ∃ r i' h', Ev (fun k => spec_l1Names.l0 k x (j : Int) b i h) (x ++ r, i', h') ∧ St b i' ∧ r.length ≤ d ∧ Rise r j := by
  intro d
  induction d with
  | zero =>
    intro j x i h hj hx hs;refine ⟨[], i, h, evOne fun k => ?_, hs, by simp, trivial⟩;simp only [spec_l1Names.l0];rw [if_neg (by omega), List.append_nil]
  | succ d ih =>
    intro j x i h hj hx hs;obtain ⟨o, i1, h1, e1, s1⟩ := l1Once_eq b i h 3 hs
    have rise_mono : ∀ (r : List ByteArray) (p q : Nat), p ≤ q → Rise r q → Rise r p := by
      intro r p q hpq hr
      cases r with
      | nil => trivial
      | cons s l => obtain ⟨c, hc, h2, h3⟩ := hr; exact ⟨c, hc, by omega, h3⟩
    cases o with
    | true =>
      obtain ⟨r, i', h', hr, hs', hrl, hri⟩ := ih (j + 1) x i1 h1 (by omega) (by omega) s1;refine ⟨r, i', h', Ev.step (f := fun k => spec_l1Names.l0 k x ((j + 1 : Nat) : Int) b i1 h1) (fun k => ?_) hr, hs', by omega, rise_mono r j (j + 1) (by omega) hri⟩;simp only [spec_l1Names.l0];rw [if_pos (by omega), e1];simp only [Option.bind_some];rw [if_pos trivial, w64 (by omega) (by omega)];rfl
    | false =>
      obtain ⟨c, hc, hcj⟩ := five_at j (by omega);obtain ⟨r, i', h', hr, hs', hrl, hri⟩ := ih (j + 1) (x ++ [⟨#[c]⟩]) i1 h1 (by omega) (by simp; omega) s1;refine ⟨⟨#[c]⟩ :: r, i', h', Ev.step (f := fun k => spec_l1Names.l0 k (x ++ [⟨#[c]⟩]) ((j + 1 : Nat) : Int) b i1 h1) (fun k => ?_) (evEq hr (by simp)), hs', by simp; omega, ⟨c, rfl, by omega, by omega, ?_⟩⟩
      · simp only [spec_l1Names.l0]
        rw [if_pos (by omega), e1];simp only [Option.bind_some];rw [if_neg (by simp), if_pos (by omega), if_pos (by simp; omega), if_pos (by omega), hcj, w64 (by omega) (by omega)];rfl
      · rw [show c.toNat - 96 = j + 1 by omega]; exact hri
theorem l1Names_ev (b : List Int) (i h : Int) (hs : St b i) : ∃ r i' h', Ev (fun k => spec_l1Names.f k b i h) (r, i', h') ∧ St b i' ∧ r.length ≤ 5 ∧ Rise r 0 := by
  obtain ⟨r, i', h', hr, hs', hrl, hri⟩ := l1Names_l b 5 0 [] i h rfl (by simp) hs;refine ⟨r, i', h', ?_, hs', hrl, hri⟩;rw [List.nil_append] at hr;exact hr
theorem l5Tx_eq (b : List Int) (i h : Int) (hs : St b i) : ∃ kd fr tt am no i' h', spec_l5Tx.f b i h = some (kd, fr, tt, am, no, i', h') ∧ St b i' ∧ fr.size ≤ 2 ∧ tt.size ≤ 2 := by
  obtain ⟨k0, i1, h1, e1, s1, k00, k01, _⟩ := l1Below_eq b i h 3 hs;obtain ⟨fr, i2, h2, e2, s2, hf⟩ := l1Name_eq b i1 h1 s1;obtain ⟨am, i3, h3, e3, s3, _⟩ := l1Int_eq b i2 h2 [1, 5, 10, 3, 200] (by simp) s2;obtain ⟨no, i4, h4, e4, s4, _⟩ := l1Below_eq b i3 h3 4 s3;have hfs := name_size hf;unfold spec_l5Tx.f;rw [e1]; simp only [Option.bind_some];rw [e2]; simp only [Option.bind_some];rw [e3]; simp only [Option.bind_some];rw [e4]; simp only [Option.bind_some]
  by_cases hk : wrap64 (1 + k0) = 1
  · rw [if_pos hk]
    obtain ⟨tt, i5, h5, e5, s5, ht⟩ := l1Name_eq b i4 h4 s4;have hts := name_size ht;rw [e5];exact ⟨_, _, _, _, _, _, _, rfl, s5, by omega, by show tt.size ≤ 2; omega⟩
  · rw [if_neg hk]
    exact ⟨_, _, _, _, _, _, _, rfl, s4, by omega, by decide⟩
end Go.Proofs.Ytcbpfofkdipjhaa.PV
namespace Go.Proofs.Ytcbpfofkdipjhaa.PV
open Go.RowKit Go.Proofs.YtcbpfofkdipjhaaW.PrintWords Go.Proofs.YtcbpfofkdipjhaaW.PrintLast Go.Proofs.YtcbpfofkdipjhaaW.PrintMore Go.Proofs.Ytcbpfofkdipjhaa.Base
set_option linter.unusedVariables false
set_option linter.unusedSimpArgs false
def BdE (s : S63) : Prop := s.f0.size ≤ 1048576 ∧ s.f4.length ≤ 1048576
def ledgerOk (n : Int) (l : List S63) : Bool := inr n 0 900 && acctsOk l
theorem inr_iff (a b c : Int) : inr a b c = true ↔ b ≤ a ∧ a ≤ c := by simp [inr]
theorem sLedger_ev (n : Int) (l : List S63) (hl : l.length ≤ 281474976710656) (hb : ∀ s ∈ l, BdE s) : Ev (fun k => spec_LedgerOk.f k n l) (ledgerOk n l) := by
  simp only [spec_LedgerOk.f, l1In_eq, Option.bind_some];unfold ledgerOk
  by_cases h : inr n 0 900 = true
  · exact evPos h (Ev.bind (sAcctsOk_ev l hl (fun s hs => by have := hb s hs; unfold BdE at this; omega)) (evEq (Ev.now _) (by rw [h]; simp)))
  · exact evNeg h (evEq (Ev.now _) (by rw [Bool.not_eq_true] at h; rw [h]; simp))
theorem iLedger_ev (n : Int) (l : List S63) (hl : l.length ≤ 281474976710656) (hb : ∀ s ∈ l, BdE s) : Ev (fun k => impl_LedgerOk.f k n l) (ledgerOk n l) := by
  simp only [impl_LedgerOk.f, inRange_eq, Option.bind_some];unfold ledgerOk
  by_cases h : inr n 0 900 = true
  · exact evPos h (Ev.bind (iAcctsOk_ev l hl (fun s hs => by have := hb s hs; unfold BdE at this; omega)) (evEq (Ev.now _) (by rw [h]; simp)))
  · exact evNeg h (evEq (Ev.now _) (by rw [Bool.not_eq_true] at h; rw [h]; simp))
theorem iCopy_l (l : List S63) (hl : l.length ≤ 1000000000) (hb : ∀ s ∈ l, BdE s) : ∀ (d i : Nat) (x : List S63), i + d = l.length → x.length = i → Ev (fun k => impl_copyAccts.l0 k x l (l.length : Int) (i : Int)) (x ++ l.drop i) := by
  intro d
  induction d with
  | zero =>
    intro i x hi hx
    refine evOne fun k => ?_
    simp only [impl_copyAccts.l0];rw [if_neg (by omega), List.drop_of_length_le (by omega), List.append_nil]
  | succ d ih =>
    intro i x hi hx
    have hlt : i < l.length := by omega
    have hbs := hb _ (List.getElem_mem hlt);have h4 := hbs.2;have ih' := ih (i + 1) (x ++ [l[i]]) (by omega) (by simp; omega);refine Ev.step (f := fun k => impl_copyAccts.l0 k (x ++ [l[i]]) l (l.length : Int) ((i + 1 : Nat) : Int)) (fun k => ?_) (evEq ih' (by rw [drop_cons hlt, List.append_assoc]; rfl));simp only [impl_copyAccts.l0, impl_Leave_121.f];rw [if_pos (by omega), if_pos (by omega), if_pos (by omega), rdIA_get hlt, if_pos (show l[i].f4.length < 8796093022208 by omega), w64 (by omega) (by omega)];simp only [Option.bind_some];rw [if_pos (show x.length < 2199023255552 by omega)];rfl
theorem iCopy_ev (l : List S63) (hl : l.length ≤ 1000000000) (hb : ∀ s ∈ l, BdE s) : Ev (fun k => impl_copyAccts.f k l) l := by
  have h := iCopy_l l hl hb l.length 0 [] (by omega) rfl;rw [List.nil_append, List.drop_zero] at h;exact h
theorem iCopyL_ev (n : Int) (l : List S63) (hl : l.length ≤ 1000000000) (hb : ∀ s ∈ l, BdE s) : Ev (fun k => impl_copyLedger.f k n l) (n, l) := by
  simp only [impl_copyLedger.f];exact Ev.bind (iCopy_ev l hl hb) (Ev.now _)
theorem sCopy_l (l : List S63) (hl : l.length ≤ 1000000000) (hb : ∀ s ∈ l, BdE s) : ∀ (d i : Nat) (x : List S63), i + d = l.length → x.length = i → Ev (fun k => spec_l4Copy.l0 k l x (i : Int)) (x ++ l.drop i) := by
  intro d
  induction d with
  | zero =>
    intro i x hi hx
    refine evOne fun k => ?_
    simp only [spec_l4Copy.l0];rw [if_neg (by omega), List.drop_of_length_le (by omega), List.append_nil]
  | succ d ih =>
    intro i x hi hx
    have hlt : i < l.length := by omega
    have hbs := hb _ (List.getElem_mem hlt);have h4 := hbs.2;have ih' := ih (i + 1) (x ++ [l[i]]) (by omega) (by simp; omega);refine Ev.step (f := fun k => spec_l4Copy.l0 k l (x ++ [l[i]]) ((i + 1 : Nat) : Int)) (fun k => ?_) (evEq ih' (by rw [drop_cons hlt, List.append_assoc]; rfl));simp only [spec_l4Copy.l0];rw [if_pos (by omega), if_pos (by omega), rdIA_get hlt, w64 (by omega) (by omega)];simp only [Option.bind_some, List.nil_append, List.length_nil, Nat.zero_add];rw [if_pos (show l[i].f4.length < 8796093022208 by omega), if_pos (show x.length < 2199023255552 by omega)];rfl
theorem sCopy_ev (l : List S63) (hl : l.length ≤ 1000000000) (hb : ∀ s ∈ l, BdE s) : Ev (fun k => spec_l4Copy.f k l) l := by
  have h := sCopy_l l hl hb l.length 0 [] (by omega) rfl;rw [List.nil_append, List.drop_zero] at h;exact h
theorem sCopyL_ev (n : Int) (l : List S63) (hl : l.length ≤ 1000000000) (hb : ∀ s ∈ l, BdE s) : Ev (fun k => spec_l6Copy.f k n l) (n, l) := by
  simp only [spec_l6Copy.f];exact Ev.bind (sCopy_ev l hl hb) (Ev.now _)
theorem lvFrom_at {l : List S65} : ∀ {d i : Nat}, lvFrom l d i = true → ∀ j, i ≤ j → j < i + d → lvAt l j = true := by
  intro d
  induction d with
  | zero => intro i _ j h0 h1; omega
  | succ d ih =>
    intro i h j h0 h1;simp only [lvFrom, Bool.and_eq_true] at h
    by_cases e : j = i
    · rw [e]; exact h.1
    · exact ih h.2 j (by omega) (by omega)
theorem acFrom_at {l : List S63} : ∀ {d i : Nat}, acFrom l d i = true → ∀ j, i ≤ j → j < i + d → acAt l j = true := by
  intro d
  induction d with
  | zero => intro i _ j h0 h1; omega
  | succ d ih =>
    intro i h j h0 h1;simp only [acFrom, Bool.and_eq_true] at h
    by_cases e : j = i
    · rw [e]; exact h.1
    · exact ih h.2 j (by omega) (by omega)
theorem ledgerOk_len {n : Int} {l : List S63} (h : ledgerOk n l = true) : (0 ≤ n ∧ n ≤ 900) ∧ acctsOk l = true ∧ l.length ≤ 12 := by
  unfold ledgerOk at h;rw [Bool.and_eq_true, inr_iff] at h;refine ⟨h.1, h.2, ?_⟩;have h2 := h.2;unfold acctsOk at h2;simp only [Bool.and_eq_true, decide_eq_true_eq] at h2;exact h2.2.1
def nextL (n : Int) (l : List S63) : Int × List S63 := if ledgerOk n l = true then if ledgerOk (wrap64 (n + 1)) (l.map (impl_NextEpoch.on (wrap64 (n + 1)))) = true then (wrap64 (n + 1), l.map (impl_NextEpoch.on (wrap64 (n + 1)))) else (n, l) else (n, l)
theorem on_bd (e : Int) {l : List S63} (hb : ∀ s ∈ l, BdE s) : ∀ s ∈ l.map (impl_NextEpoch.on e), BdE s := by
  intro s hs;obtain ⟨z, hz, rfl⟩ := List.mem_map.1 hs;have := hb z hz;exact ⟨this.1, Nat.le_trans (List.length_filter_le _ _) this.2⟩
theorem on_all {l : List S63} (hb : ∀ s ∈ l, BdE s) : (l.all fun a => decide (a.f4.length < 1099511627776)) = true := by
  rw [List.all_eq_true];intro s hs;have := (hb s hs).2;exact decide_eq_true (by omega)
theorem iNext_ev (n : Int) (l : List S63) (hl : l.length ≤ 1000000000) (hb : ∀ s ∈ l, BdE s) : Ev (fun k => impl_NextEpoch.f k n l) (nextL n l) := by
  simp only [impl_NextEpoch.f, impl_NextEpoch.g];unfold nextL;have h0 := iLedger_ev n l (by omega) hb;have hc := iCopyL_ev n l hl hb;have h1 := iLedger_ev (wrap64 (n + 1)) (l.map (impl_NextEpoch.on (wrap64 (n + 1)))) (by rw [List.length_map]; omega) (on_bd _ hb)
  by_cases c0 : ledgerOk n l = true
  · rw [if_pos c0]
    refine Ev.bind h0 (evPos c0 (Ev.bind hc (evPos (on_all hb) (Ev.bind h1 ?_))))
    by_cases c1 : ledgerOk (wrap64 (n + 1)) (l.map (impl_NextEpoch.on (wrap64 (n + 1)))) = true
    · rw [if_pos c1]
      exact evPos c1 (Ev.now _)
    · rw [if_neg c1]
      exact evNeg c1 hc
  · rw [if_neg c0]
    exact Ev.bind h0 (evNeg c0 hc)
end Go.Proofs.Ytcbpfofkdipjhaa.PV
namespace Go.Proofs.Ytcbpfofkdipjhaa.PV
open Go.RowKit Go.Proofs.YtcbpfofkdipjhaaW.PrintWords Go.Proofs.YtcbpfofkdipjhaaW.PrintLast Go.Proofs.YtcbpfofkdipjhaaW.PrintMore Go.Proofs.Ytcbpfofkdipjhaa.Base Go.Proofs.Ytcbpfofkdipjhaa.Sha
set_option linter.unusedVariables false
set_option linter.unusedSimpArgs false
theorem iPad_l1 (m : Int) : ∀ (j : Nat) (x : List Int), j ≤ 8 → x.length + j < 140737488355328 → Ev (fun k => impl_Padded.l1 k x m ((j : Int) - 1)) (x ++ tailB m j) := by
  intro j
  induction j with
  | zero =>
    intro x hj hl
    refine evOne fun k => ?_
    simp only [impl_Padded.l1];rw [if_neg (by omega), tailB, List.append_nil]
  | succ j ih =>
    intro x hj hl;have h1 := ih (x ++ [(shr .i64 m (8 * (j : Int))) % 256]) (by omega) (by simp; omega)
    have e2 : (((j + 1 : Nat) : Int) - 1) = (j : Int) := by omega
    rw [List.append_assoc] at h1;refine Ev.step (fun k => ?_) h1;simp only [impl_Padded.l1];rw [e2, if_pos (by omega), w64 (x := 8 * (j : Int)) (by omega) (by omega), u64_id _ (by omega) (by omega), if_pos (by omega), if_pos (by omega), w64 (by omega) (by omega)]
theorem iPad_l0 (b : List Int) (hb : b.length ≤ 281474976) : ∀ (d : Nat) (x : List Int), d < 64 → (x.length + d) % 64 = 56 → x.length + d ≤ 281474977 + 64 → Ev (fun k => impl_Padded.l0 k b x) (x ++ List.replicate d 0 ++ tailB (wrap64 ((b.length : Int) * 8)) 8) := by
  intro d
  induction d with
  | zero =>
    intro x hd hm hl;have h1 := iPad_l1 (wrap64 ((b.length : Int) * 8)) 8 x (by omega) (by omega)
    have ht : Int.tmod (wrap64 ((x.length : Int) + 8)) 64 = 0 := by
      rw [w64 (by omega) (by omega), Int.tmod_eq_emod_of_nonneg (by omega)]
      omega
    rw [List.replicate_zero, List.append_nil];refine Ev.step (fun k => ?_) h1;simp only [impl_Padded.l0];rw [if_pos ht, Int.mul_comm 8];rfl
  | succ d ih =>
    intro x hd hm hl
    have ht : ¬ Int.tmod (wrap64 ((x.length : Int) + 8)) 64 = 0 := by
      rw [w64 (by omega) (by omega), Int.tmod_eq_emod_of_nonneg (by omega)]
      omega
    have h1 := ih (x ++ [0]) (by omega) (by simp; omega) (by simp; omega);rw [List.append_assoc x, List.singleton_append, ← List.replicate_succ] at h1;refine Ev.step (fun k => ?_) h1;simp only [impl_Padded.l0];rw [if_neg ht, if_pos (by omega)]
theorem iPadded_ev (b : List Int) (hb : b.length ≤ 281474976) : Ev (fun k => impl_Padded.f k b) (padL b) := by
  have hc : slices_Clone_byte_byte.f b = some b := by
    unfold slices_Clone_byte_byte.f;rw [if_pos (by omega)]
  simp only [impl_Padded.f];exact evBindC hc (evPos (by omega) (iPad_l0 b hb ((119 - b.length % 64) % 64) (b ++ [128]) (by omega) (by simp; omega) (by simp; omega)))
theorem iDigest_ev (b : List Int) (hb : b.length ≤ 281474976) : Ev (fun k => impl_Digest.f k b) (dig b) := by
  have hl := padL_len b;simp only [impl_Digest.f];exact Ev.bind (iPadded_ev b hb) (evPos ⟨hl.2.1, hl.1⟩ (Ev.now _))
theorem iLeaf_ev (a : ByteArray) (h : a.size ≤ 281474900) : Ev (fun k => impl_LeafDigest.f k a) (leafD a) := by
  have hl := bytes_length a;simp only [impl_LeafDigest.f, Option.bind_some];exact evPos (by simp; omega) (Ev.bind (iDigest_ev _ (by simp; omega)) (Ev.now _))
theorem iNode_ev (a b : ByteArray) (h : a.size + b.size ≤ 281474900) : Ev (fun k => impl_NodeDigest.f k a b) (nodeD a b) := by
  have hl := bytes_length a;have hl2 := bytes_length b;simp only [impl_NodeDigest.f, Option.bind_some];exact evPos (by simp; omega) (evPos (by simp; omega) (Ev.bind (iDigest_ev _ (by simp; omega)) (Ev.now _)))
end Go.Proofs.Ytcbpfofkdipjhaa.PV
namespace Go.Proofs.Ytcbpfofkdipjhaa.PV
open Go.RowKit Go.Proofs.YtcbpfofkdipjhaaW.PrintWords Go.Proofs.YtcbpfofkdipjhaaW.PrintLast Go.Proofs.YtcbpfofkdipjhaaW.PrintMore Go.Proofs.Ytcbpfofkdipjhaa.Base
set_option linter.unusedVariables false
set_option linter.unusedSimpArgs false
end Go.Proofs.Ytcbpfofkdipjhaa.PV
namespace Go.Proofs.Ytcbpfofkdipjhaa.PV
open Go.RowKit Go.Proofs.YtcbpfofkdipjhaaW.PrintWords Go.Proofs.YtcbpfofkdipjhaaW.PrintLast Go.Proofs.YtcbpfofkdipjhaaW.PrintMore Go.Proofs.Ytcbpfofkdipjhaa.Base
set_option linter.unusedVariables false
set_option linter.unusedSimpArgs false
/-! ### the order of names -/
theorem ls_irr (a : List UInt8) : Op.bytesLess a a = false := by
  have h := Str.bl_tot a a;simp at h;exact h
theorem ls_trans : ∀ a b c : List UInt8, Op.bytesLess a b = true → Op.bytesLess b c = true → Op.bytesLess a c = true
  | [], [], _, h, _ => by simp [Op.bytesLess] at h
  | [], _ :: _, [], _, h => by simp [Op.bytesLess] at h
  | [], _ :: _, _ :: _, _, _ => by simp [Op.bytesLess]
  | _ :: _, [], _, h, _ => by simp [Op.bytesLess] at h
  | _ :: _, _ :: _, [], _, h => by simp [Op.bytesLess] at h
  | x :: a, y :: b, z :: c, h1, h2 => by
    have ih := ls_trans a b c;simp only [Op.bytesLess, Bool.or_eq_true, Bool.and_eq_true, decide_eq_true_eq, beq_iff_eq, UInt8.lt_iff_toNat_lt] at h1 h2 ⊢
    rcases h1 with h1 | ⟨rfl, h1⟩
    · rcases h2 with h2 | ⟨rfl, h2⟩
      · exact .inl (by omega)
      · exact .inl h1
    · rcases h2 with h2 | ⟨rfl, h2⟩
      · exact .inl h2
      · exact .inr ⟨rfl, ih h1 h2⟩
theorem ls_not {a b : List UInt8} (h : ¬ Op.bytesLess a b = true) (hn : ¬ a = b) : Op.bytesLess b a = true := by
  have h1 := Str.bl_tot a b;rw [Bool.not_eq_true] at h
  have h2 : (a == b) = false := by rw [beq_eq_false_iff_ne]; exact hn
  rw [h, h2] at h1
  simpa using h1.symm
theorem ls_asym {a b : List UInt8} (h : Op.bytesLess a b = true) : ¬ Op.bytesLess b a = true := fun h2 => by
  have := ls_trans a b a h h2;rw [ls_irr] at this;exact absurd this (by decide)
theorem ls_ne {a b : List UInt8} (h : Op.bytesLess a b = true) : ¬ a = b := fun e => by
  rw [e, ls_irr] at h;exact absurd h (by decide)
/-! ### accounts that are sound, as a list -/
def Up (l : List S63) : Prop := l.Pairwise fun a b => Op.bytesLess a.f0.toList b.f0.toList = true
def okA (s : S63) : Prop := acctOk s.f0 s.f1 s.f2 s.f3 s.f4 = true
theorem acFrom_of {l : List S63} (h : ∀ j, j < l.length → acAt l j = true) : ∀ d i, i + d ≤ l.length → acFrom l d i = true := by
  intro d
  induction d with
  | zero => intro i _; rfl
  | succ d ih =>
    intro i hi;simp only [acFrom, Bool.and_eq_true];exact ⟨h i (by omega), ih (i + 1) (by omega)⟩
theorem acAt_iff {l : List S63} {j : Nat} (hj : j < l.length) : acAt l j = true ↔ okA l[j] ∧ (j = 0 ∨ ∃ h : j - 1 < l.length, Op.bytesLess l[j - 1].f0.toList l[j].f0.toList = true) := by
  have h1 : j - 1 < l.length := by omega
  unfold acAt okA;rw [rdIA_get hj, rdIA_get h1, Bool.and_eq_true, Bool.or_eq_true, decide_eq_true_eq]
  constructor
  · rintro ⟨a, b⟩
    exact ⟨a, b.imp id fun b => ⟨h1, b⟩⟩
  · rintro ⟨a, b⟩
    exact ⟨a, b.imp id fun ⟨_, b⟩ => b⟩
theorem up_iff (l : List S63) : Up l ↔ ∀ j, (h : j + 1 < l.length) → Op.bytesLess l[j].f0.toList l[j + 1].f0.toList = true := by
  unfold Up;rw [List.pairwise_iff_getElem]
  constructor
  · intro h j hj
    exact h j (j + 1) (by omega) hj (by omega)
  · intro h
    have : ∀ d i, (hi : i < l.length) → (hd : i + 1 + d < l.length) → Op.bytesLess l[i].f0.toList l[i + 1 + d].f0.toList = true := by
      intro d
      induction d with
      | zero => intro i hi hd; exact h i hd
      | succ d ih =>
        intro i hi hd;have h1 := ih i hi (by omega);have h2 := h (i + 1 + d) (by omega);exact ls_trans _ _ _ h1 h2
    intro i j hi hj hij;have h1 := this (j - (i + 1)) i hi (by omega)
    have e : i + 1 + (j - (i + 1)) = j := by omega
    simpa only [e] using h1
theorem acctsOk_iff (l : List S63) : acctsOk l = true ↔ (∀ s ∈ l, okA s) ∧ Up l ∧ l.length ≤ 12 ∧ wrap64 (asum l) ≤ 1000000 := by
  unfold acctsOk;rw [Bool.and_eq_true, Bool.and_eq_true, decide_eq_true_eq, decide_eq_true_eq, up_iff]
  constructor
  · rintro ⟨h, h1, h2⟩
    have ha := fun j hj => (acAt_iff hj).1 (acFrom_at h j (Nat.zero_le _) (by omega))
    refine ⟨fun s hs => ?_, fun j hj => ?_, h1, h2⟩
    · obtain ⟨j, hj, rfl⟩ := List.getElem_of_mem hs
      exact (ha j hj).1
    · rcases (ha (j + 1) hj).2 with h | ⟨_, h⟩
      · omega
      · exact h
  · rintro ⟨h0, h3, h1, h2⟩
    refine ⟨acFrom_of (fun j hj => (acAt_iff hj).2 ⟨h0 _ (List.getElem_mem hj), ?_⟩) l.length 0 (by omega), h1, h2⟩
    rcases j with _ | j
    · exact .inl rfl
    · exact .inr ⟨by omega, h3 j hj⟩
/-! ### where a name is -/
theorem at_char (l : List S63) (nm : ByteArray) : ∀ d i, i + d = l.length → (atFrom l nm d i = -1 ∧ ∀ j, i ≤ j → (h : j < l.length) → ¬ l[j].f0.toList = nm.toList) ∨ ∃ j, ∃ h : j < l.length, i ≤ j ∧ atFrom l nm d i = (j : Int) ∧ l[j].f0.toList = nm.toList ∧ ∀ j', i ≤ j' → (h' : j' < j) → ¬ (l[j']'(by omega)).f0.toList = nm.toList := by
  intro d
  induction d with
  | zero => intro i hi; exact .inl ⟨rfl, fun j h0 h => by omega⟩
  | succ d ih =>
    intro i hi
    have hlt : i < l.length := by omega
    unfold atFrom;rw [rdIA_get hlt]
    by_cases c : l[i].f0.toList = nm.toList
    · rw [if_pos (by simpa using c)]
      exact .inr ⟨i, hlt, Nat.le_refl _, rfl, c, fun j' h0 h' => by omega⟩
    · rw [if_neg (by simpa using c)]
      rcases ih (i + 1) (by omega) with ⟨e, h⟩ | ⟨j, hj, h0, e, h1, h2⟩
      · refine .inl ⟨e, fun j h0 hj => ?_⟩
        by_cases e : j = i
        · simpa only [e] using c
        · exact h j (by omega) hj
      · refine .inr ⟨j, hj, by omega, e, h1, fun j' h0 h' => ?_⟩
        by_cases e : j' = i
        · simpa only [e] using c
        · exact h2 j' (by omega) h'
def atL (l : List S63) (nm : ByteArray) : Int := atFrom l nm l.length 0
theorem at_cases (l : List S63) (nm : ByteArray) : (atL l nm = -1 ∧ ∀ s ∈ l, ¬ s.f0.toList = nm.toList) ∨ ∃ j, ∃ h : j < l.length, atL l nm = (j : Int) ∧ l[j].f0.toList = nm.toList := by
  rcases at_char l nm l.length 0 (by omega) with ⟨e, h⟩ | ⟨j, hj, _, e, h1, _⟩
  · refine .inl ⟨e, fun s hs => ?_⟩
    obtain ⟨j, hj, rfl⟩ := List.getElem_of_mem hs;exact h j (Nat.zero_le _) hj
  · exact .inr ⟨j, hj, e, h1⟩
/-- Where names rise, a name is where it is. -/
theorem at_of (l : List S63) (hu : Up l) (nm : ByteArray) (j : Nat) (hj : j < l.length) (h : l[j].f0.toList = nm.toList) : atL l nm = (j : Int) := by
  rcases at_cases l nm with ⟨_, h1⟩ | ⟨i, hi, e, h1⟩
  · exact absurd h (h1 _ (List.getElem_mem hj))
  · have hp := List.pairwise_iff_getElem.1 hu
    rcases Nat.lt_trichotomy i j with c | c | c
    · exact absurd (h1.trans h.symm) (ls_ne (hp i j hi hj c))
    · rw [e, c]
    · exact absurd (h.trans h1.symm) (ls_ne (hp j i hj hi c))
theorem iAt_eq (l : List S63) (nm : ByteArray) : impl_AcctAt.f l nm = some (atL l nm) := rfl
theorem sAcctAt_l (l : List S63) (nm : ByteArray) (h : l.length ≤ 281474976710656) : ∀ (d i : Nat), i + d = l.length → Ev (fun k => spec_AcctAt.l0 k l nm (i : Int)) (atFrom l nm d i) := by
  intro d
  induction d with
  | zero =>
    intro i hi
    refine evOne fun k => ?_
    simp only [spec_AcctAt.l0, atFrom];rw [if_neg (by omega)]
  | succ d ih =>
    intro i hi
    by_cases hq : (rd_T63 l (i : Int)).f0.toList = nm.toList
    · refine evOne fun k => ?_
      simp only [spec_AcctAt.l0, atFrom];rw [if_pos (by omega), if_pos (by omega), if_pos hq, if_pos (by simpa using hq)]
    · refine Ev.step (f := fun k => spec_AcctAt.l0 k l nm ((i + 1 : Nat) : Int)) (fun k => ?_) (evEq (ih (i + 1) (by omega)) ?_)
      · simp only [spec_AcctAt.l0]
        rw [if_pos (by omega), if_pos (by omega), if_neg hq, w64 (by omega) (by omega)];rfl
      · conv => rhs; unfold atFrom
        rw [if_neg (by simpa using hq)]
theorem sAt_ev (l : List S63) (nm : ByteArray) (h : l.length ≤ 281474976710656) : Ev (fun k => spec_AcctAt.f k l nm) (atL l nm) := sAcctAt_l l nm h l.length 0 (by omega)
/-! ### where a name would be -/
theorem pl_char (l : List S63) (nm : ByteArray) : ∀ d i, i + d = l.length → i ≤ impl_credited.pl l nm d i ∧ impl_credited.pl l nm d i ≤ l.length ∧ (∀ j, i ≤ j → (h : j < l.length) → j < impl_credited.pl l nm d i → Op.bytesLess l[j].f0.toList nm.toList = true) ∧ (∀ h : impl_credited.pl l nm d i < l.length, ¬ Op.bytesLess l[impl_credited.pl l nm d i].f0.toList nm.toList = true) := by
  intro d
  induction d with
  | zero => intro i hi; exact ⟨Nat.le_refl _, by show i ≤ _; omega, fun j h0 h h1 => absurd h1 (by show ¬ j < i; omega), fun h => absurd h (by show ¬ i < _; omega)⟩
  | succ d ih =>
    intro i hi
    have hlt : i < l.length := by omega
    have e : (l.getD i z63) = l[i] := by rw [List.getD_eq_getElem?_getD, List.getElem?_eq_getElem hlt]; rfl
    have hpl : impl_credited.pl l nm (d + 1) i = if Op.bytesLess l[i].f0.toList nm.toList = true then impl_credited.pl l nm d (i + 1) else i := by rw [impl_credited.pl, e]
    by_cases c : Op.bytesLess l[i].f0.toList nm.toList = true
    · rw [if_pos c] at hpl
      rw [hpl];obtain ⟨h0, h1, h2, h3⟩ := ih (i + 1) (by omega);refine ⟨by omega, h1, fun j hj hl hp => ?_, h3⟩
      by_cases ej : j = i
      · simpa only [ej] using c
      · exact h2 j (by omega) hl hp
    · rw [if_neg c] at hpl
      rw [hpl];exact ⟨Nat.le_refl _, by omega, fun j h0 h h1 => by omega, fun h => c⟩
def plL (l : List S63) (nm : ByteArray) : Nat := impl_credited.pl l nm l.length 0
/-- Where names rise: those ahead of the place are less, and those behind it are more. -/
theorem pl_sides (l : List S63) (hu : Up l) (nm : ByteArray) (hn : ∀ s ∈ l, ¬ s.f0.toList = nm.toList) : plL l nm ≤ l.length ∧ (∀ j, (h : j < l.length) → j < plL l nm → Op.bytesLess l[j].f0.toList nm.toList = true) ∧ (∀ j, (h : j < l.length) → plL l nm ≤ j → Op.bytesLess nm.toList l[j].f0.toList = true) := by
  obtain ⟨_, h1, h2, h3⟩ := pl_char l nm l.length 0 (by omega);refine ⟨h1, fun j h hp => h2 j (Nat.zero_le _) h hp, fun j h hp => ?_⟩;have hp' : impl_credited.pl l nm l.length 0 ≤ j := hp
  have hlt : impl_credited.pl l nm l.length 0 < l.length := by omega
  have h4 := ls_not (h3 hlt) (hn _ (List.getElem_mem hlt))
  rcases Nat.eq_or_lt_of_le hp' with e | c
  · simpa only [← e] using h4
  · exact ls_trans _ _ _ h4 (List.pairwise_iff_getElem.1 hu _ _ hlt h c)
/-! ### giving -/
def newA (nm : ByteArray) (n : Int) : S63 := ⟨nm, n, 0, 0, []⟩
def more (s : S63) (n : Int) : S63 := ⟨s.f0, wrap64 (s.f1 + n), s.f2, s.f3, s.f4⟩
def addL (l : List S63) (nm : ByteArray) (n : Int) : List S63 := if 0 ≤ atL l nm then l.set (atL l nm).toNat (more (l.getD (atL l nm).toNat z63) n) else l.take (plL l nm) ++ [newA nm n] ++ l.drop (plL l nm)
theorem credited_eq (l : List S63) (nm : ByteArray) (n : Int) (h : l.length < 1000000000000) : impl_credited.f l nm n = some (addL l nm n) := by
  unfold impl_credited.f addL;rw [if_pos h]
  by_cases c : 0 ≤ atL l nm
  · rw [if_pos c]
    exact if_pos c
  · rw [if_neg c]
    exact if_neg c
theorem addL_len (l : List S63) (nm : ByteArray) (n : Int) : (addL l nm n).length ≤ l.length + 1 := by
  unfold addL
  split
  · rw [List.length_set]; omega
  · simp only [List.length_append, List.length_take, List.length_drop, List.length_singleton]; omega
theorem addL_bd {l : List S63} {nm : ByteArray} (n : Int) (hb : ∀ s ∈ l, BdE s) (hn : nm.size ≤ 1048576) : ∀ s ∈ addL l nm n, BdE s := by
  intro s hs;unfold addL at hs
  split at hs
  · rcases List.mem_or_eq_of_mem_set hs with h | rfl
    · exact hb s h
    · rename_i c
      rcases at_cases l nm with ⟨e, _⟩ | ⟨j, hj, e, _⟩
      · omega
      · have e2 : l.getD (atL l nm).toNat z63 = l[j] := by rw [e, Int.toNat_natCast, List.getD_eq_getElem?_getD, List.getElem?_eq_getElem hj]; rfl
        rw [e2];have h9 := hb l[j] (List.getElem_mem hj);exact h9
  · rcases List.mem_append.1 hs with h | h
    · rcases List.mem_append.1 h with h | h
      · exact hb s (List.mem_of_mem_take h)
      · rw [List.mem_singleton.1 h]
        exact ⟨hn, by show 0 ≤ _; omega⟩
    · exact hb s (List.mem_of_mem_drop h)
theorem with_l (nm : ByteArray) (l : List S63) (hl : l.length ≤ 100000000) (q : Nat) (hq : q ≤ l.length) (h1 : ∀ j, (h : j < l.length) → j < q → ¬ Op.bytesLess nm.toList l[j].f0.toList = true) (h2 : ∀ j, (h : j < l.length) → q ≤ j → Op.bytesLess nm.toList l[j].f0.toList = true) :
    ∀ (d : Nat) (x : S63), q + d ≤ l.length → Ev (fun k => spec_l4With.l0 k nm (l.take (q + d) ++ [x] ++ l.drop (q + d)) ((q + d : Nat) : Int)) (l.take q ++ [newA nm 0] ++ l.drop q) := by
  have hlen : ∀ p, p ≤ l.length → ∀ x : S63, (l.take p ++ [x] ++ l.drop p).length = l.length + 1 := by
    intro p hp x;simp only [List.length_append, List.length_take, List.length_drop, List.length_singleton]; omega
  have hset : ∀ p, p ≤ l.length → ∀ x y : S63, (l.take p ++ [x] ++ l.drop p).set p y = l.take p ++ [y] ++ l.drop p := by
    intro p hp x y;rw [List.append_assoc, List.append_assoc, List.set_append_right _ _ (by rw [List.length_take]; omega), List.length_take, Nat.min_eq_left hp, Nat.sub_self];rfl
  have hend : ∀ p (hp : p ≤ l.length) (x : S63), Ev (fun k => if 0 ≤ (p : Int) then (if (p : Int) < ((l.take p ++ [x] ++ l.drop p).length : Int) then (some ((l.take p ++ [x] ++ l.drop p).set (p : Int).toNat (⟨nm, 0, 0, 0, ([] : List S65)⟩ : S63))) else none) else none) (l.take p ++ [newA nm 0] ++ l.drop p) := by
    intro p hp x;refine evPos (by omega) (evPos (by rw [hlen p hp]; omega) (evEq (Ev.now _) ?_));rw [Int.toNat_natCast, hset p hp];rfl
  intro d
  induction d with
  | zero =>
    intro x hx;have h := hend q hq x;refine Ev.step (f := fun k => if 0 ≤ (q : Int) then (if (q : Int) < ((l.take q ++ [x] ++ l.drop q).length : Int) then (some ((l.take q ++ [x] ++ l.drop q).set (q : Int).toNat (⟨nm, 0, 0, 0, ([] : List S65)⟩ : S63))) else none) else none) (fun k => ?_) h;simp only [spec_l4With.l0, Nat.add_zero]
    by_cases c : (q : Int) > 0
    · have hw : wrap64 ((q : Int) - 1) = ((q - 1 : Nat) : Int) := by rw [w64 (by omega) (by omega)]; omega
      have hlt : q - 1 < l.length := by omega
      have hg : rd_T63 (l.take q ++ [x] ++ l.drop q) ((q - 1 : Nat) : Int) = l[q - 1] := by
        rw [rdIA_get (by rw [hlen q hq]; omega), List.getElem_append_left (by simp; omega), List.getElem_append_left (by simp; omega), List.getElem_take]
      have hne := h1 (q - 1) hlt (by omega);rw [if_pos c, hw, if_pos (by omega), if_pos (by rw [hlen q hq]; omega), hg, if_neg hne]
    · rw [if_neg c]
  | succ d ih =>
    intro x hx
    have hlt : q + d < l.length := by omega
    have hi := ih l[q + d] (by omega)
    have e1 : (l.take (q + (d + 1)) ++ [x] ++ l.drop (q + (d + 1))).set (q + (d + 1)) l[q + d] = l.take (q + d) ++ [l[q + d]] ++ l.drop (q + d) := by
      rw [hset _ hx, drop_cons hlt, show q + (d + 1) = (q + d) + 1 from rfl, take_snoc hlt];simp only [List.append_assoc, List.singleton_append, List.cons_append, List.nil_append]
    refine Ev.step (fun k => ?_) hi
    have hw : wrap64 (((q + (d + 1) : Nat) : Int) - 1) = ((q + d : Nat) : Int) := by rw [w64 (by omega) (by omega)]; omega
    have hg : rd_T63 (l.take (q + (d + 1)) ++ [x] ++ l.drop (q + (d + 1))) ((q + d : Nat) : Int) = l[q + d] := by
      rw [rdIA_get (by rw [hlen _ hx]; omega), List.getElem_append_left (by simp; omega), List.getElem_append_left (by simp; omega), List.getElem_take]
    simp only [spec_l4With.l0];rw [if_pos (by omega), hw, if_pos (by omega), if_pos (by rw [hlen _ hx]; omega), hg, if_pos (h2 (q + d) hlt (by omega)), if_pos (by omega), if_pos (by rw [hlen _ hx]; omega), Int.toNat_natCast];exact congrArg (fun z => spec_l4With.l0 k nm z ((q + d : Nat) : Int)) e1
/-- Accounts with one for a name. -/
def withL (l : List S63) (nm : ByteArray) : List S63 := if 0 ≤ atL l nm then l else l.take (plL l nm) ++ [newA nm 0] ++ l.drop (plL l nm)
theorem with_ev (l : List S63) (nm : ByteArray) (hl : l.length ≤ 100000000) (hb : ∀ s ∈ l, BdE s) (hu : Up l) : Ev (fun k => spec_l4With.f k l nm) (withL l nm) := by
  simp only [spec_l4With.f];refine Ev.bind (sCopy_ev l (by omega) hb) (Ev.bind (sAt_ev l nm (by omega)) ?_);unfold withL
  by_cases c : 0 ≤ atL l nm
  · rw [if_pos c]
    exact evPos c (Ev.now _)
  · rw [if_neg c]
    have hn : ∀ s ∈ l, ¬ s.f0.toList = nm.toList := by
      rcases at_cases l nm with ⟨_, h⟩ | ⟨j, hj, e, _⟩
      · exact h
      · omega
    obtain ⟨p0, p1, p2⟩ := pl_sides l hu nm hn;refine evNeg c (evPos (by omega) ?_);simp only [Option.bind_some];have h := with_l nm l hl (plL l nm) p0 (fun j hj hp => ls_asym (p1 j hj hp)) p2 (l.length - plL l nm) (⟨(⟨#[]⟩ : ByteArray), 0, 0, 0, ([] : List S65)⟩ : S63) (by omega);rw [show plL l nm + (l.length - plL l nm) = l.length by omega, List.take_length, List.drop_length, List.append_nil] at h
    have hw : wrap64 (((l ++ [(⟨(⟨#[]⟩ : ByteArray), 0, 0, 0, ([] : List S65)⟩ : S63)]).length : Int) - 1) = (l.length : Int) := by
      rw [List.length_append, List.length_singleton, w64 (by omega) (by omega)]; omega
    rw [hw];exact h
/-! ### what giving bears -/
theorem asum_app (a b : List S63) : asum (a ++ b) = asum a + asum b := by
  unfold asum;rw [List.map_append, List.sum_append]
theorem asum_cons (x : S63) (b : List S63) : asum (x :: b) = x.f1 + x.f3 + lsum x.f4 + asum b := rfl
theorem set_split {l : List S63} {j : Nat} (hj : j < l.length) (x : S63) : l.set j x = l.take j ++ x :: l.drop (j + 1) := List.set_eq_take_append_cons_drop.trans (if_pos hj)
theorem get_split {l : List S63} {j : Nat} (hj : j < l.length) : l = l.take j ++ l[j] :: l.drop (j + 1) := by
  rw [← drop_cons hj, List.take_append_drop]
end Go.Proofs.Ytcbpfofkdipjhaa.PV
namespace Go.Proofs.Ytcbpfofkdipjhaa.PV
open Go.RowKit Go.Proofs.YtcbpfofkdipjhaaW.PrintWords Go.Proofs.YtcbpfofkdipjhaaW.PrintLast Go.Proofs.YtcbpfofkdipjhaaW.PrintMore Go.Proofs.Ytcbpfofkdipjhaa.Base
set_option linter.unusedVariables false
set_option linter.unusedSimpArgs false
/-! ### leaves -/
def LvUp (l : List S65) : Prop := l.Pairwise fun a b => a.f1 < b.f1
def lvInto (n e : Int) : List S65 → List S65
  | [] => [⟨n, e⟩]
  | x :: t => if x.f1 = e then ⟨wrap64 (x.f0 + n), x.f1⟩ :: t else if e < x.f1 then ⟨n, e⟩ :: x :: t else x :: lvInto n e t
theorem lvFind_cons (x : S65) (t : List S65) (e : Int) : ∀ d i, lvFind (x :: t) e d (i + 1) = (lvFind t e d i).map (· + 1)
  | 0, i => rfl
  | d + 1, i => by
    unfold lvFind;rw [show (x :: t).getD (i + 1) z65 = t.getD i z65 from List.getD_cons_succ]
    split
    · rfl
    · exact lvFind_cons x t e d (i + 1)
theorem lvPl_cons (x : S65) (t : List S65) (e : Int) : ∀ d i, lvPl (x :: t) e d (i + 1) = lvPl t e d i + 1
  | 0, i => rfl
  | d + 1, i => by
    unfold lvPl;rw [show (x :: t).getD (i + 1) z65 = t.getD i z65 from List.getD_cons_succ]
    split
    · exact lvPl_cons x t e d (i + 1)
    · rfl
theorem lvFind_no {t : List S65} {e : Int} (h : ∀ y ∈ t, ¬ y.f1 = e) : ∀ d i, i + d ≤ t.length → lvFind t e d i = none
  | 0, i, _ => rfl
  | d + 1, i, hi => by
    unfold lvFind
    have hlt : i < t.length := by omega
    have e1 : t.getD i z65 = t[i] := by rw [List.getD_eq_getElem?_getD, List.getElem?_eq_getElem hlt]; rfl
    rw [e1, if_neg (h _ (List.getElem_mem hlt))];exact lvFind_no h d (i + 1) (by omega)
theorem leavesL_into (n e : Int) : ∀ (l : List S65), LvUp l → leavesL l n e = lvInto n e l
  | [], _ => rfl
  | x :: t, hu => by
    have hu' := List.pairwise_cons.1 hu;have ih := leavesL_into n e t hu'.2;unfold leavesL at ih ⊢
    have hf : lvFind (x :: t) e (x :: t).length 0 = if x.f1 = e then some 0 else (lvFind t e t.length 0).map (· + 1) := by
      rw [List.length_cons, lvFind, lvFind_cons];rfl
    have hp : lvPl (x :: t) e (x :: t).length 0 = if x.f1 < e then lvPl t e t.length 0 + 1 else 0 := by
      rw [List.length_cons, lvPl, lvPl_cons];rfl
    rw [hf, hp, lvInto]
    by_cases c : x.f1 = e
    · rw [if_pos c, if_pos c]
      rfl
    · rw [if_neg c, if_neg c]
      by_cases c2 : e < x.f1
      · rw [if_pos c2, lvFind_no (fun y hy => by have := hu'.1 y hy; omega) t.length 0 (by omega), if_neg (by omega)]
        rfl
      · rw [if_neg c2, if_pos (by omega), ← ih]
        cases lvFind t e t.length 0 with
        | none => rfl
        | some i => rfl
theorem lvInto_len (n e : Int) : ∀ (l : List S65), (lvInto n e l).length ≤ l.length + 1
  | [] => Nat.le_refl _
  | x :: t => by
    unfold lvInto;have := lvInto_len n e t
    split
    · simp
    · split
      · simp
      · simp only [List.length_cons]; omega
theorem lvInto_sum (n e : Int) (hn : 0 ≤ n ∧ n ≤ 1000000) : ∀ (l : List S65), (∀ x ∈ l, 1 ≤ x.f0 ∧ x.f0 ≤ 1000000) → lsum (lvInto n e l) = lsum l + n
  | [], _ => by simp [lvInto, lsum]
  | x :: t, h => by
    have hx := h x (List.mem_cons_self);have ih := lvInto_sum n e hn t (fun y hy => h y (List.mem_cons_of_mem _ hy))
    have lc : ∀ (y : S65) (u : List S65), lsum (y :: u) = y.f0 + lsum u := fun y u => by simp [lsum]
    unfold lvInto
    split
    · rw [lc, lc]
      show wrap64 (x.f0 + n) + lsum t = _
      rw [w64 (by omega) (by omega)]
      omega
    · split
      · rw [lc, lc]
        show n + _ = _
        omega
      · rw [lc, lc, ih]
        omega
theorem lvUp_of {l : List S65} (h : lvFrom l l.length 0 = true) : LvUp l := by
  have hs : ∀ j, (hj : j + 1 < l.length) → l[j].f1 < l[j + 1].f1 := by
    intro j hj;have h1 := lvFrom_at h (j + 1) (by omega) (by omega);unfold lvAt at h1;rw [Nat.add_sub_cancel, rdIL_get hj, rdIL_get (show j < l.length by omega)] at h1;simp only [Bool.and_eq_true, Bool.or_eq_true, decide_eq_true_eq] at h1
    rcases h1.2.2 with c | c
    · omega
    · exact c
  unfold LvUp;rw [List.pairwise_iff_getElem]
  have : ∀ d i, (hi : i < l.length) → (hd : i + 1 + d < l.length) → l[i].f1 < l[i + 1 + d].f1 := by
    intro d
    induction d with
    | zero => intro i hi hd; exact hs i hd
    | succ d ih =>
      intro i hi hd;have h1 := ih i hi (by omega);have h2 := hs (i + 1 + d) (by omega);exact Int.lt_trans h1 h2
  intro i j hi hj hij;have h1 := this (j - (i + 1)) i hi (by omega)
  have e : i + 1 + (j - (i + 1)) = j := by omega
  simpa only [e] using h1
theorem sLeaveT_l (l : List S65) (hl : l.length ≤ 1048576) (n e : Int) : ∀ (d i : Nat) (out : List S65), i + d = l.length → out.length ≤ i + 2 → Ev (fun k => spec_l6Leave.l0 k l n e out true (i : Int)) (out ++ l.drop i) := by
  intro d
  induction d with
  | zero =>
    intro i out hi ho
    refine evOne fun k => ?_
    have e1 : ¬ (i : Int) < (l.length : Int) := by omega
    rw [List.drop_of_length_le (by omega), List.append_nil];simp only [spec_l6Leave.l0, if_neg e1, if_true]
  | succ d ih =>
    intro i out hi ho
    have hlt : i < l.length := by omega
    have hw : wrap64 ((i : Int) + 1) = ((i + 1 : Nat) : Int) := by rw [w64 (by omega) (by omega)]; omega
    have e1 : (i : Int) < (l.length : Int) := by omega
    have e0 : 0 ≤ (i : Int) := by omega
    have eo : out.length < 8796093022208 := by omega
    rw [drop_cons hlt];have h := ih (i + 1) (out ++ [l[i]]) (by omega) (by simp; omega);rw [List.append_assoc] at h;refine evStep2 (f := fun k => spec_l6Leave.l0 k l n e (out ++ [l[i]]) true ((i + 1 : Nat) : Int)) (fun k => ?_) h;simp only [spec_l6Leave.l0, spec_l6Leave.j1, if_pos e1, if_pos e0, if_pos eo, rdIL_get hlt, hw, Bool.false_eq_true, if_false, if_true]
theorem sLeave_l (l : List S65) (hl : l.length ≤ 1048576) (n e : Int) : ∀ (d i : Nat) (out : List S65), i + d = l.length → out.length ≤ i + 1 → Ev (fun k => spec_l6Leave.l0 k l n e out false (i : Int)) (out ++ lvInto n e (l.drop i)) := by
  intro d
  induction d with
  | zero =>
    intro i out hi ho
    refine evOne fun k => ?_
    have e1 : ¬ (i : Int) < (l.length : Int) := by omega
    have eo : out.length < 8796093022208 := by omega
    rw [List.drop_of_length_le (by omega)];simp only [spec_l6Leave.l0, if_neg e1, if_pos eo, Bool.false_eq_true, if_false, lvInto]
  | succ d ih =>
    intro i out hi ho
    have hlt : i < l.length := by omega
    have hw : wrap64 ((i : Int) + 1) = ((i + 1 : Nat) : Int) := by rw [w64 (by omega) (by omega)]; omega
    have e1 : (i : Int) < (l.length : Int) := by omega
    have e0 : 0 ≤ (i : Int) := by omega
    have eo : out.length < 8796093022208 := by omega
    rw [drop_cons hlt, lvInto]
    by_cases c1 : l[i].f1 = e
    · rw [if_pos c1]
      have cb : (l[i].f1 == e) = true := beq_iff_eq.mpr c1;have h := sLeaveT_l l hl n e d (i + 1) (out ++ [⟨wrap64 (l[i].f0 + n), l[i].f1⟩]) (by omega) (by simp; omega);rw [List.append_assoc] at h;refine evStep2 (f := fun k => spec_l6Leave.l0 k l n e (out ++ [⟨wrap64 (l[i].f0 + n), l[i].f1⟩]) true ((i + 1 : Nat) : Int)) (fun k => ?_) h;simp only [spec_l6Leave.l0, spec_l6Leave.j1, if_pos e1, if_pos e0, if_pos eo, rdIL_get hlt, hw, Bool.false_eq_true, if_false, if_true, cb]
    · rw [if_neg c1]
      have cb : (l[i].f1 == e) = false := beq_eq_false_iff_ne.mpr c1
      by_cases c2 : e < l[i].f1
      · rw [if_pos c2]
        have eo2 : (out ++ [(⟨n, e⟩ : S65)]).length < 8796093022208 := by rw [List.length_append, List.length_singleton]; omega
        have c3 : l[i].f1 > e := c2;have h := sLeaveT_l l hl n e d (i + 1) (out ++ [⟨n, e⟩] ++ [l[i]]) (by omega) (by simp; omega);refine evStep2 (f := fun k => spec_l6Leave.l0 k l n e (out ++ [⟨n, e⟩] ++ [l[i]]) true ((i + 1 : Nat) : Int)) (fun k => ?_) (evEq h (by simp only [List.append_assoc, List.cons_append, List.nil_append]));simp only [spec_l6Leave.l0, spec_l6Leave.j1, if_pos e1, if_pos e0, if_pos eo, rdIL_get hlt, hw, Bool.false_eq_true, if_false, cb, if_pos c3, Option.bind_some, if_pos eo2]
      · rw [if_neg c2]
        have c3 : ¬ l[i].f1 > e := c2;have h := ih (i + 1) (out ++ [l[i]]) (by omega) (by simp; omega);rw [List.append_assoc] at h;refine evStep2 (f := fun k => spec_l6Leave.l0 k l n e (out ++ [l[i]]) false ((i + 1 : Nat) : Int)) (fun k => ?_) h;simp only [spec_l6Leave.l0, spec_l6Leave.j1, if_pos e1, if_pos e0, if_pos eo, rdIL_get hlt, hw, Bool.false_eq_true, if_false, cb, if_neg c3]
theorem sLeave_ev (l : List S65) (hl : l.length ≤ 1048576) (n e : Int) : Ev (fun k => spec_l6Leave.f k l n e) (lvInto n e l) := by
  have h := sLeave_l l hl n e l.length 0 [] (by omega) (by simp);rw [List.nil_append, List.drop_zero] at h;exact h
/-! ### an order done -/
theorem getD_get {l : List S63} {j : Nat} (hj : j < l.length) : l.getD j z63 = l[j] := by
  rw [List.getD_eq_getElem?_getD, List.getElem?_eq_getElem hj];rfl
theorem up_names {l m : List S63} (h : l.map (fun s => s.f0) = m.map (fun s => s.f0)) (hu : Up l) : Up m := by
  have h1 : (l.map (fun s => s.f0)).Pairwise (fun a b => Op.bytesLess a.toList b.toList = true) := List.pairwise_map.2 hu;rw [h] at h1;exact List.pairwise_map.1 h1
theorem names_set {l : List S63} {j : Nat} {s : S63} (hj : j < l.length) (hs : s.f0 = l[j].f0) : (l.set j s).map (fun s => s.f0) = l.map (fun s => s.f0) := by
  rw [List.map_set];refine List.ext_getElem (by simp) (fun i h1 h2 => ?_)
  by_cases e : j = i
  · subst e
    rw [List.getElem_set_self, List.getElem_map];exact hs
  · rw [List.getElem_set_ne e]
def hasL (s : S63) (kind : Int) : Int := if kind = 3 then s.f3 else s.f1
def mid1 (l : List S63) (j : Nat) (am : Int) : List S63 := setF (impl_done.n1 l j) j (wrap64 (((impl_done.n1 l j).getD j z63).f1 - am))
def mid3 (l : List S63) (j : Nat) (am : Int) : List S63 := setS (impl_done.n1 l j) j (wrap64 (((impl_done.n1 l j).getD j z63).f3 - am))
def doL (ep : Int) (l : List S63) (j : Nat) (kind : Int) (tt : ByteArray) (am : Int) : List S63 :=
  if kind = 1 then addL (mid1 l j am) tt am
  else if kind = 2 then setS (mid1 l j am) j (wrap64 (((mid1 l j am).getD j z63).f3 + am))
  else setL (mid3 l j am) j (lvInto am (wrap64 (ep + 2)) ((mid3 l j am).getD j z63).f4)
theorem with_key (l : List S63) (hu : Up l) (nm : ByteArray) (n : Int) (hn0 : 0 ≤ n ∧ n ≤ 1000000) : 0 ≤ atL (withL l nm) nm ∧ atL (withL l nm) nm < ((withL l nm).length : Int) ∧ (withL l nm).set (atL (withL l nm) nm).toNat ⟨((withL l nm).getD (atL (withL l nm) nm).toNat z63).f0, wrap64 (((withL l nm).getD (atL (withL l nm) nm).toNat z63).f1 + n), ((withL l nm).getD (atL (withL l nm) nm).toNat z63).f2, ((withL l nm).getD (atL (withL l nm) nm).toNat z63).f3, ((withL l nm).getD (atL (withL l nm) nm).toNat z63).f4⟩ = addL l nm n := by
  rcases at_cases l nm with ⟨e, hno⟩ | ⟨j, hj, e, hk⟩
  · obtain ⟨p0, p1, p2⟩ := pl_sides l hu nm hno
    have ew : withL l nm = l.take (plL l nm) ++ [newA nm 0] ++ l.drop (plL l nm) := by unfold withL; rw [if_neg (by omega)]
    have eA : addL l nm n = l.take (plL l nm) ++ [newA nm n] ++ l.drop (plL l nm) := by unfold addL; rw [if_neg (by omega)]
    have hlen : (l.take (plL l nm) ++ [newA nm 0] ++ l.drop (plL l nm)).length = l.length + 1 := by
      simp only [List.length_append, List.length_take, List.length_drop, List.length_singleton]; omega
    have hgp : ∀ (x : S63) (h : plL l nm < (l.take (plL l nm) ++ [x] ++ l.drop (plL l nm)).length), (l.take (plL l nm) ++ [x] ++ l.drop (plL l nm))[plL l nm] = x := by
      intro x h;rw [List.getElem_append_left (by simp; omega), List.getElem_append_right (by simp; omega)];simp
    have eat : atL (withL l nm) nm = (plL l nm : Int) := by
      rw [ew];refine at_of _ ?_ nm (plL l nm) (by omega) (by rw [hgp]; rfl);unfold Up;rw [List.append_assoc, List.pairwise_append, List.singleton_append, List.pairwise_cons];refine ⟨hu.take, ⟨fun b hb => ?_, hu.drop⟩, fun a ha b hb => ?_⟩
      · obtain ⟨j, hj, rfl⟩ := List.getElem_of_mem hb
        rw [List.getElem_drop];exact p2 _ _ (by omega)
      · obtain ⟨i, hi, rfl⟩ := List.getElem_of_mem ha
        rw [List.length_take] at hi;rw [List.getElem_take];have hlt := p1 i (by omega) (by omega)
        rcases List.mem_cons.1 hb with rfl | hb
        · exact hlt
        · obtain ⟨j, hj, rfl⟩ := List.getElem_of_mem hb
          rw [List.getElem_drop];exact ls_trans _ _ _ hlt (p2 _ _ (by omega))
    rw [eat, ew, eA, Int.toNat_natCast];refine ⟨by omega, by omega, ?_⟩
    have eg : (l.take (plL l nm) ++ [newA nm 0] ++ l.drop (plL l nm)).getD (plL l nm) z63 = newA nm 0 := by
      rw [List.getD_eq_getElem?_getD, List.getElem?_eq_getElem (by omega), hgp];rfl
    rw [eg, List.append_assoc, List.append_assoc, List.set_append_right _ _ (by rw [List.length_take]; omega), List.length_take, Nat.min_eq_left p0, Nat.sub_self]
    show l.take (plL l nm) ++ (⟨nm, wrap64 (0 + n), 0, 0, []⟩ : S63) :: l.drop (plL l nm) = _
    rw [Int.zero_add, w64 (by omega) (by omega)];rfl
  · have ew : withL l nm = l := by unfold withL; rw [if_pos (by omega)]
    rw [ew];refine ⟨by omega, by omega, ?_⟩;unfold addL;rw [if_pos (show 0 ≤ atL l nm by omega)];rfl
theorem set_get {l : List S63} {j : Nat} (hj : j < l.length) (s : S63) : (l.set j s).getD j z63 = s := by
  rw [getD_get (by rw [List.length_set]; exact hj), List.getElem_set_self]
theorem bd_set {l : List S63} {j : Nat} {s : S63} (hb : ∀ s ∈ l, BdE s) (hs : BdE s) : ∀ x ∈ l.set j s, BdE x := fun x hx => (List.mem_or_eq_of_mem_set hx).elim (hb x) (fun e => e ▸ hs)
theorem n1_eq {l : List S63} {j : Nat} (hj : j < l.length) : impl_done.n1 l j = l.set j ⟨l[j].f0, l[j].f1, wrap64 (l[j].f2 + 1), l[j].f3, l[j].f4⟩ := by
  unfold impl_done.n1 setN;rw [getD_get hj]
theorem mid1_eq {l : List S63} {j : Nat} (hj : j < l.length) (am : Int) : mid1 l j am = l.set j ⟨l[j].f0, wrap64 (l[j].f1 - am), wrap64 (l[j].f2 + 1), l[j].f3, l[j].f4⟩ := by
  unfold mid1 setF;rw [n1_eq hj, set_get hj, List.set_set]
theorem mid3_eq {l : List S63} {j : Nat} (hj : j < l.length) (am : Int) : mid3 l j am = l.set j ⟨l[j].f0, l[j].f1, wrap64 (l[j].f2 + 1), wrap64 (l[j].f3 - am), l[j].f4⟩ := by
  unfold mid3 setS;rw [n1_eq hj, set_get hj, List.set_set]
theorem do2_eq {l : List S63} {j : Nat} (hj : j < l.length) (am : Int) : setS (mid1 l j am) j (wrap64 (((mid1 l j am).getD j z63).f3 + am)) = l.set j ⟨l[j].f0, wrap64 (l[j].f1 - am), wrap64 (l[j].f2 + 1), wrap64 (l[j].f3 + am), l[j].f4⟩ := by
  unfold setS;rw [mid1_eq hj, set_get hj, List.set_set]
theorem do3_eq {l : List S63} {j : Nat} (hj : j < l.length) (am e : Int) : setL (mid3 l j am) j (lvInto am e ((mid3 l j am).getD j z63).f4) = l.set j ⟨l[j].f0, l[j].f1, wrap64 (l[j].f2 + 1), wrap64 (l[j].f3 - am), lvInto am e l[j].f4⟩ := by
  unfold setL withLv;rw [mid3_eq hj, set_get hj, List.set_set]
/-- An order of the account at j, done. -/
theorem doL_eq {l : List S63} {j : Nat} (hj : j < l.length) (ep kind : Int) (tt : ByteArray) (am : Int) : doL ep l j kind tt am =
    if kind = 1 then addL (l.set j ⟨l[j].f0, wrap64 (l[j].f1 - am), wrap64 (l[j].f2 + 1), l[j].f3, l[j].f4⟩) tt am
    else if kind = 2 then l.set j ⟨l[j].f0, wrap64 (l[j].f1 - am), wrap64 (l[j].f2 + 1), wrap64 (l[j].f3 + am), l[j].f4⟩
    else l.set j ⟨l[j].f0, l[j].f1, wrap64 (l[j].f2 + 1), wrap64 (l[j].f3 - am), lvInto am (wrap64 (ep + 2)) l[j].f4⟩ := by
  unfold doL;rw [mid1_eq hj, do3_eq hj, ← mid1_eq hj, do2_eq hj, mid1_eq hj]
theorem doL_len {l : List S63} {j : Nat} (hj : j < l.length) (ep kind : Int) (tt : ByteArray) (am : Int) : (doL ep l j kind tt am).length ≤ l.length + 1 := by
  rw [doL_eq hj]
  split
  · refine Nat.le_trans (addL_len _ _ _) ?_
    rw [List.length_set]
    omega
  · split
    · rw [List.length_set]; omega
    · rw [List.length_set]; omega
theorem doL_bd {l : List S63} {j : Nat} (hj : j < l.length) (hb : ∀ s ∈ l, BdE s) (h4 : l[j].f4.length ≤ 4) (ep kind : Int) {tt : ByteArray} (ht : tt.size ≤ 1048576) (am : Int) : ∀ s ∈ doL ep l j kind tt am, BdE s := by
  have hs := hb _ (List.getElem_mem hj);rw [doL_eq hj]
  split
  · exact addL_bd am (bd_set hb hs) ht
  · split
    · exact bd_set hb hs
    · refine bd_set hb ⟨hs.1, ?_⟩
      have := lvInto_len am (wrap64 (ep + 2)) l[j].f4
      show (lvInto am (wrap64 (ep + 2)) l[j].f4).length ≤ _
      omega
theorem iDone_eq {l : List S63} {j : Nat} (hj : j < l.length) (hl : l.length ≤ 100000000) (hb : ∀ s ∈ l, BdE s) (hu : LvUp l[j].f4) (ep : Int) {kind : Int} (hk : kind = 1 ∨ kind = 2 ∨ kind = 3) (tt : ByteArray) (am : Int) : impl_done.f ep l j kind tt am = some (doL ep l j kind tt am) := by
  have hs := (hb _ (List.getElem_mem hj)).2;unfold impl_done.f
  by_cases k1 : kind = 1
  · rw [if_pos k1]
    unfold doL;rw [if_pos k1];refine credited_eq _ _ _ ?_
    show (mid1 l j am).length < _
    rw [mid1_eq hj, List.length_set]
    omega
  · rw [if_neg k1]
    by_cases k2 : kind = 2
    · rw [if_pos k2]
      unfold doL;rw [if_neg k1, if_pos k2];rfl
    · rw [if_neg k2, if_pos (by omega)]
      have e4 : ((mid3 l j am).getD j z63).f4 = l[j].f4 := by rw [mid3_eq hj, set_get hj]
      have e5 : leavesL ((mid3 l j am).getD j z63).f4 am (wrap64 (ep + 2)) = lvInto am (wrap64 (ep + 2)) ((mid3 l j am).getD j z63).f4 := by rw [e4]; exact leavesL_into _ _ _ hu
      unfold doL;rw [if_neg k1, if_neg k2, ← e5];refine if_pos ?_
      show ((mid3 l j am).getD j z63).f4.length < _
      rw [e4]
      omega
theorem sDo_ev {l : List S63} {j : Nat} (hj : j < l.length) (hl : l.length ≤ 90000000) (hb : ∀ s ∈ l, BdE s) (hu : Up l) (ep kind : Int) (fr tt : ByteArray) {am : Int} (ha : 0 ≤ am ∧ am ≤ 1000000) (no : Int) : Ev (fun k => spec_l6Do.f k ep l kind fr tt am no (j : Int)) (ep, doL ep l j kind tt am) := by
  have hs := hb _ (List.getElem_mem hj);simp only [spec_l6Do.f];refine Ev.bind (sCopyL_ev ep l (by omega) hb) (evPos ⟨rfl, by omega, show (j : Int) < (l.length : Int) by omega⟩ ?_);rw [Int.toNat_natCast];simp only [spec_l6Do.g];unfold doL
  by_cases k1 : kind = 1
  · rw [if_pos k1]
    have hm := mid1_eq hj am
    have hbm : ∀ s ∈ mid1 l j am, BdE s := by rw [hm]; exact bd_set hb hs
    have hum : Up (mid1 l j am) := up_names (by rw [hm]; exact (names_set (s := ⟨l[j].f0, wrap64 (l[j].f1 - am), wrap64 (l[j].f2 + 1), l[j].f3, l[j].f4⟩) hj rfl).symm) hu
    have hlm : (mid1 l j am).length = l.length := by rw [hm, List.length_set]
    have hw := with_ev (mid1 l j am) tt (by omega) hbm hum;obtain ⟨k0, k1', k2⟩ := with_key (mid1 l j am) hum tt am ha
    have hlw : (withL (mid1 l j am) tt).length ≤ l.length + 1 := by
      unfold withL
      split
      · omega
      · simp only [List.length_append, List.length_take, List.length_drop, List.length_singleton]; omega
    have hat := sAt_ev (withL (mid1 l j am) tt) tt (by omega);refine evPos k1 (Ev.bind hw (Ev.bind hat (evPos ⟨k0, k1'⟩ (evEq (Ev.now _) ?_))));rw [← k2];rfl
  · rw [if_neg k1]
    refine evNeg k1 ?_
    by_cases k2 : kind = 2
    · rw [if_pos k2]
      exact evPos k2 (Ev.now _)
    · rw [if_neg k2]
      have e4 : ((mid3 l j am).getD j z63).f4 = l[j].f4 := by rw [mid3_eq hj, set_get hj]
      exact evNeg k2 (Ev.bind (sLeave_ev ((mid3 l j am).getD j z63).f4 (by rw [e4]; exact hs.2) am (wrap64 (ep + 2))) (Ev.now _))
/-! ### an order -/
def applyL (ep : Int) (l : List S63) (kind : Int) (fr tt : ByteArray) (am no : Int) : Int × List S63 × Int :=
  if (ledgerOk ep l && txOk kind fr tt am no) = true then
    if atL l fr < 0 then (ep, l, 2)
    else if no = (l.getD (atL l fr).toNat z63).f2 then
      if hasL (l.getD (atL l fr).toNat z63) kind < am then (ep, l, 4)
      else if ledgerOk ep (doL ep l (atL l fr).toNat kind tt am) = true then (ep, doL ep l (atL l fr).toNat kind tt am, 0) else (ep, l, 5)
    else (ep, l, 3)
  else (ep, l, 1)
theorem txOk_kind {kind : Int} {fr tt : ByteArray} {am no : Int} (h : txOk kind fr tt am no = true) : (kind = 1 ∨ kind = 2 ∨ kind = 3) ∧ (1 ≤ am ∧ am ≤ 1000000) ∧ (0 ≤ no ∧ no ≤ 10000) ∧ (kind = 1 → nameOk tt = true) := by
  unfold txOk at h
  by_cases k1 : kind = 1
  · simp only [k1, if_true, Bool.and_eq_true, decide_eq_true_eq] at h
    exact ⟨.inl k1, h.1.1.2, h.1.2, fun _ => h.2⟩
  · simp only [k1, if_false, Bool.and_eq_true, decide_eq_true_eq] at h
    exact ⟨by omega, h.1.1.2, h.1.2, fun h => absurd h k1⟩
theorem ledger_parts {n : Int} {l : List S63} (h : ledgerOk n l = true) : (0 ≤ n ∧ n ≤ 900) ∧ (∀ s ∈ l, okA s) ∧ Up l ∧ l.length ≤ 12 ∧ wrap64 (asum l) ≤ 1000000 := by
  obtain ⟨h1, h2, _⟩ := ledgerOk_len h;exact ⟨h1, (acctsOk_iff l).1 h2⟩
theorem okA_parts {s : S63} (h : okA s) : nameOk s.f0 = true ∧ (0 ≤ s.f1 ∧ s.f1 ≤ 1000000) ∧ (0 ≤ s.f2 ∧ s.f2 ≤ 10000) ∧ (0 ≤ s.f3 ∧ s.f3 ≤ 1000000) ∧ s.f4.length ≤ 4 ∧ lvFrom s.f4 s.f4.length 0 = true := by
  unfold okA acctOk at h;simp only [Bool.and_eq_true, inr_iff, decide_eq_true_eq] at h;exact h
theorem has_eq (s : S63) (kind : Int) : impl_Acct_has.f s.f1 s.f3 kind = some (hasL s kind) := by
  unfold impl_Acct_has.f hasL
  split <;> rfl
theorem iApply_ev (ep : Int) (l : List S63) (kind : Int) (fr tt : ByteArray) (am no : Int) (hl : l.length ≤ 90000000) (hb : ∀ s ∈ l, BdE s) (hf : fr.size ≤ 1048576) (ht : tt.size ≤ 1048576) : Ev (fun k => impl_Apply.f k ep l kind fr tt am no) (applyL ep l kind fr tt am no) := by
  have hcp : ∀ c : Int, Ev (fun k => impl_Apply.copy k ep l c) (ep, l, c) := fun c => by
    simp only [impl_Apply.copy];exact Ev.bind (iCopyL_ev ep l (by omega) hb) (Ev.now _)
  have h1 := iLedger_ev ep l (by omega) hb;have h2 := iTxOk_ev kind fr tt am no (by omega) (by omega);simp only [impl_Apply.f];refine evBindC (iAt_eq l fr) (Ev.bind h1 ?_);unfold applyL
  by_cases c1 : ledgerOk ep l = true
  · refine Ev.bind (evPos c1 h2) ?_
    by_cases c2 : txOk kind fr tt am no = true
    · rw [if_pos (by rw [c1, c2]; rfl)]
      refine evPos c2 ?_
      rcases at_cases l fr with ⟨e, _⟩ | ⟨j, hj, e, _⟩
      · rw [if_pos (by omega)]
        exact evPos (by omega) (hcp 2)
      · rw [if_neg (by omega), e, Int.toNat_natCast, getD_get hj]
        refine evNeg (by omega) (evPos (by omega) ?_);rw [rdIA_get hj];simp only [impl_Apply.g]
        by_cases c3 : no = l[j].f2
        · rw [if_pos c3]
          refine evPos c3 (evBindC (has_eq _ _) ?_)
          by_cases c4 : hasL l[j] kind < am
          · rw [if_pos c4]
            exact evPos c4 (hcp 4)
          · rw [if_neg c4]
            refine evNeg c4 ?_;simp only [impl_Apply.do];obtain ⟨_, hok, _, _, _⟩ := ledger_parts c1;have ho := okA_parts (hok _ (List.getElem_mem hj));have hz := doL_bd hj hb ho.2.2.2.2.1 ep kind ht am;have hzl := doL_len hj ep kind tt am;refine Ev.bind (iCopyL_ev ep l (by omega) hb) (evPos hj (evBindC (iDone_eq hj (by omega) hb (lvUp_of ho.2.2.2.2.2) ep (txOk_kind c2).1 tt am) (Ev.bind (iLedger_ev ep (doL ep l j kind tt am) (by omega) hz) ?_)))
            by_cases c5 : ledgerOk ep (doL ep l j kind tt am) = true
            · rw [if_pos c5]
              exact evPos c5 (Ev.now _)
            · rw [if_neg c5]
              exact evNeg c5 (hcp 5)
        · rw [if_neg c3]
          exact evNeg c3 (hcp 3)
    · rw [if_neg (by rw [Bool.not_eq_true] at c2; rw [c2]; simp)]
      exact evNeg c2 (hcp 1)
  · rw [if_neg (by rw [Bool.not_eq_true] at c1; rw [c1]; simp)]
    exact Ev.bind (a := false) (evNeg c1 (Ev.now _)) (evNeg (by decide) (hcp 1))
theorem sApply_ev (ep : Int) (l : List S63) (kind : Int) (fr tt : ByteArray) (am no : Int) (hl : l.length ≤ 90000000) (hb : ∀ s ∈ l, BdE s) (hf : fr.size ≤ 1048576) (ht : tt.size ≤ 1048576) : Ev (fun k => spec_Apply.f k ep l kind fr tt am no) (applyL ep l kind fr tt am no) := by
  have h1 := sLedger_ev ep l (by omega) hb;have h2 := sTxOk_ev kind fr tt am no (by omega) (by omega);simp only [spec_Apply.f];refine Ev.bind (sCopyL_ev ep l (by omega) hb) (Ev.bind h1 ?_)
  have hbad : Ev (fun k => spec_Apply.j0 k true ep l kind fr tt am no ep l) (ep, l, 1) := evOne fun k => by simp only [spec_Apply.j0, if_true]
  unfold applyL
  by_cases c1 : ledgerOk ep l = true
  · refine evPos c1 (Ev.bind h2 ?_)
    by_cases c2 : txOk kind fr tt am no = true
    · rw [if_pos (by rw [c1, c2]; rfl)]
      simp only [c2, Bool.not_true];have hat := sAt_ev l fr (by omega)
      have hj1 : ∀ (j : Nat) (hj : j < l.length) (hs : Int), hs = hasL l[j] kind → Ev (fun k => spec_Apply.j1 k (j : Int) hs ep l kind fr tt am no ep l l[j].f0 l[j].f1 l[j].f2 l[j].f3 l[j].f4)
          (if no = l[j].f2 then if hasL l[j] kind < am then (ep, l, 4) else if ledgerOk ep (doL ep l j kind tt am) = true then (ep, doL ep l j kind tt am, 0) else (ep, l, 5) else (ep, l, 3)) := by
        intro j hj hs ehs;subst ehs;refine Ev.step (f := fun k => if l[j].f2 = no then (if hasL l[j] kind < am then some (ep, l, 4) else (spec_l6Do.f k ep l kind fr tt am no (j : Int)).bind fun b => (spec_LedgerOk.f k b.1 b.2).bind fun t => if t = true then some (b.1, b.2, 0) else some (ep, l, 5)) else some (ep, l, 3)) (fun k => by simp only [spec_Apply.j1]) ?_
        by_cases c3 : no = l[j].f2
        · rw [if_pos c3]
          refine evPos c3.symm ?_
          by_cases c4 : hasL l[j] kind < am
          · rw [if_pos c4]
            exact evPos c4 (Ev.now _)
          · rw [if_neg c4]
            refine evNeg c4 ?_;obtain ⟨_, hok, hu, _, _⟩ := ledger_parts c1;have ho := okA_parts (hok _ (List.getElem_mem hj));have hz := doL_bd hj hb ho.2.2.2.2.1 ep kind ht am;have hzl := doL_len hj ep kind tt am;have ha := (txOk_kind c2).2.1;refine Ev.bind (sDo_ev hj (by omega) hb hu ep kind fr tt (by omega) no) (Ev.bind (sLedger_ev ep (doL ep l j kind tt am) (by omega) hz) ?_)
            by_cases c5 : ledgerOk ep (doL ep l j kind tt am) = true
            · exact evPos c5 (evEq (Ev.now _) (by rw [if_pos c5]))
            · exact evNeg c5 (evEq (Ev.now _) (by rw [if_neg c5]))
        · rw [if_neg c3]
          exact evNeg (fun h => c3 h.symm) (Ev.now _)
      refine Ev.step (f := fun k => (spec_AcctAt.f k l fr).bind fun t => if t < 0 then some (ep, l, 2) else if 0 ≤ t then if t < (l.length : Int) then (if kind = 3 then spec_Apply.j1 k t (rd_T63 l t).f3 ep l kind fr tt am no ep l (rd_T63 l t).f0 (rd_T63 l t).f1 (rd_T63 l t).f2 (rd_T63 l t).f3 (rd_T63 l t).f4 else spec_Apply.j1 k t (rd_T63 l t).f1 ep l kind fr tt am no ep l (rd_T63 l t).f0 (rd_T63 l t).f1 (rd_T63 l t).f2 (rd_T63 l t).f3 (rd_T63 l t).f4) else none else none) (fun k => by simp only [spec_Apply.j0, Bool.false_eq_true, if_false]) ?_;refine Ev.bind hat ?_
      rcases at_cases l fr with ⟨e, _⟩ | ⟨j, hj, e, _⟩
      · rw [if_pos (by omega)]
        exact evPos (by omega) (Ev.now _)
      · rw [if_neg (by omega), e, Int.toNat_natCast, getD_get hj]
        refine evNeg (by omega) (evPos (by omega) (evPos (by omega) ?_));rw [rdIA_get hj]
        by_cases k3 : kind = 3
        · exact evPos k3 (hj1 j hj _ (by unfold hasL; rw [if_pos k3]))
        · exact evNeg k3 (hj1 j hj _ (by unfold hasL; rw [if_neg k3]))
    · rw [if_neg (by rw [Bool.not_eq_true] at c2; rw [c2]; simp)]
      rw [Bool.not_eq_true] at c2;simp only [c2, Bool.not_false];exact hbad
  · rw [if_neg (by rw [Bool.not_eq_true] at c1; rw [c1]; simp)]
    exact evNeg c1 hbad
end Go.Proofs.Ytcbpfofkdipjhaa.PV
namespace Go.Proofs.Ytcbpfofkdipjhaa.PV
open Go.RowKit Go.Proofs.YtcbpfofkdipjhaaW.PrintWords Go.Proofs.YtcbpfofkdipjhaaW.PrintLast Go.Proofs.YtcbpfofkdipjhaaW.PrintMore Go.Proofs.Ytcbpfofkdipjhaa.Base Go.Proofs.Ytcbpfofkdipjhaa.Sha
set_option linter.unusedVariables false
set_option linter.unusedSimpArgs false
theorem iHalf_l (n : Nat) (hn : n ≤ 2000000) : ∀ (f k0 : Nat), 1 ≤ k0 → k0 ≤ 2000000 → n ≤ k0 + f → Ev (fun k => impl_half.l0 k (n : Int) (k0 : Int)) (halfF f n k0 : Int) := by
  intro f
  induction f with
  | zero =>
    intro k0 h1 h2 h3
    refine evOne fun k => ?_
    simp only [impl_half.l0];rw [w64 (x := 2 * (k0 : Int)) (by omega) (by omega), if_neg (by omega)];rfl
  | succ f ih =>
    intro k0 h1 h2 h3
    have e1 : wrap64 (2 * (k0 : Int)) = ((2 * k0 : Nat) : Int) := by rw [w64 (by omega) (by omega)]; omega
    have e2 : wrap64 ((k0 : Int) * 2) = ((2 * k0 : Nat) : Int) := by rw [w64 (by omega) (by omega)]; omega
    unfold halfF
    by_cases h : 2 * k0 < n
    · rw [if_pos h]
      refine Ev.step (fun k => ?_) (ih (2 * k0) (by omega) (by omega) (by omega));simp only [impl_half.l0];rw [e1, if_pos (by omega)]
      try rw [e2]
    · rw [if_neg h]
      refine evOne fun k => ?_
      simp only [impl_half.l0];rw [e1, if_neg (by omega)]
theorem iHalf_ev (n : Nat) (hn : n ≤ 2000000) : Ev (fun k => impl_half.f k (n : Int)) (halfN n : Int) := iHalf_l n hn n 1 (by omega) (by omega) (by omega)
theorem iRoot_ev : ∀ (f : Nat) (l : List ByteArray), l.length ≤ f → l.length ≤ 2000000 → (∀ s ∈ l, s.size ≤ 140000000) → Ev (fun k => impl_rootOf.f k l) (rootF f l) := by
  intro f
  induction f with
  | zero =>
    intro l hf hl hs;refine Ev.step (f := fun k => (impl_Digest.f k ([] : List Int)).bind fun t => some t) (fun k => ?_) (Ev.bind (iDigest_ev [] (by simp)) (Ev.now _));simp only [impl_rootOf.f];rw [if_pos (by omega)]
  | succ f ih =>
    intro l hf hl hs;rw [rootF]
    by_cases h0 : l.length = 0
    · rw [if_pos h0]
      refine Ev.step (f := fun k => (impl_Digest.f k ([] : List Int)).bind fun t => some t) (fun k => ?_) (Ev.bind (iDigest_ev [] (by simp)) (Ev.now _));simp only [impl_rootOf.f];rw [if_pos (by omega)]
    · rw [if_neg h0]
      by_cases h1 : l.length = 1
      · rw [if_pos h1]
        have hz : (rdOf ByteArray.empty l 0).size ≤ 281474900 := by
          have e : rdOf ByteArray.empty l 0 = l[0] := rdSat (xs := l) (i := 0) (by omega);rw [e];have := hs _ (List.getElem_mem (l := l) (n := 0) (by omega))
          omega
        refine Ev.step (f := fun k => (impl_LeafDigest.f k (rdOf ByteArray.empty l 0)).bind fun t => some t) (fun k => ?_) (Ev.bind (iLeaf_ev _ hz) (Ev.now _));simp only [impl_rootOf.f];rw [if_neg (by omega), if_pos (by omega), if_pos (by omega)]
      · rw [if_neg h1]
        have hb := halfN_bd (n := l.length) (by omega);have i1 := ih (l.take (halfN l.length)) (by rw [List.length_take]; omega) (by rw [List.length_take]; omega) (fun s h => hs s (List.mem_of_mem_take h));have i2 := ih (l.drop (halfN l.length)) (by rw [List.length_drop]; omega) (by rw [List.length_drop]; omega) (fun s h => hs s (List.mem_of_mem_drop h));have i3 := iNode_ev (rootF f (l.take (halfN l.length))) (rootF f (l.drop (halfN l.length))) (by rw [rootF_size, rootF_size]; omega);refine Ev.step (f := fun k => (impl_half.f k (l.length : Int)).bind fun t => if 0 ≤ t then (if t ≤ (l.length : Int) then ((impl_rootOf.f k (l.take (t : Int).toNat)).bind fun t1 => ((impl_rootOf.f k (l.drop (t : Int).toNat)).bind fun t2 => ((impl_NodeDigest.f k t1 t2).bind fun t3 => (some t3)))) else none) else none) (fun k => ?_) (Ev.bind (iHalf_ev l.length hl) (evPos (by omega) (evPos (by omega) (Ev.bind i1 (Ev.bind i2 (Ev.bind i3 (Ev.now _)))))));simp only [impl_rootOf.f];rw [if_neg (by omega), if_neg (by omega)]
theorem irootL_ev (l : List ByteArray) (hl : l.length ≤ 2000000) (hs : ∀ s ∈ l, s.size ≤ 140000000) : Ev (fun k => impl_rootOf.f k l) (rootL l) := iRoot_ev l.length l (Nat.le_refl _) hl hs
end Go.Proofs.Ytcbpfofkdipjhaa.PV
namespace Go.Proofs.Ytcbpfofkdipjhaa.PV
open Go.RowKit Go.Proofs.YtcbpfofkdipjhaaW.PrintWords Go.Proofs.YtcbpfofkdipjhaaW.PrintLast Go.Proofs.YtcbpfofkdipjhaaW.PrintMore Go.Proofs.Ytcbpfofkdipjhaa.Base
set_option linter.unusedVariables false
set_option linter.unusedSimpArgs false
theorem rdIX_get {xs : List S35} {i : Nat} (h : i < xs.length) : rd_T35 xs (i : Int) = xs[i] := by
  unfold rd_T35;rw [Int.toNat_natCast, List.getD_eq_getElem?_getD, List.getElem?_eq_getElem h];rfl
/-! ### orders, one behind another -/
theorem name_len {s : ByteArray} (h : nameOk s = true) : s.size ≤ 8 := by
  unfold nameOk lenOk at h;simp only [Bool.and_eq_true, decide_eq_true_eq] at h
  omega
theorem ledger_bd {n : Int} {l : List S63} (h : ledgerOk n l = true) : l.length ≤ 12 ∧ ∀ s ∈ l, BdE s := by
  obtain ⟨_, hok, _, hl, _⟩ := ledger_parts h;refine ⟨hl, fun s hs => ?_⟩;have ho := okA_parts (hok s hs);have := name_len ho.1;unfold BdE
  omega
theorem applyL_cases (ep : Int) (l : List S63) (kind : Int) (fr tt : ByteArray) (am no : Int) : (∃ c, applyL ep l kind fr tt am no = (ep, l, c) ∧ ¬ c = 0) ∨ (∃ l', applyL ep l kind fr tt am no = (ep, l', 0) ∧ ledgerOk ep l' = true) := by
  unfold applyL
  repeat' split
  all_goals first | exact .inl ⟨_, rfl, by decide⟩ | skip
  exact .inr ⟨_, rfl, by assumption⟩
def allL (ep : Int) : List S35 → List S63 → Int → List S63 × Int
  | [], l, n => (l, n)
  | t :: ts, l, n => if (applyL ep l t.f0 t.f1 t.f2 t.f3 t.f4).2.2 = 0 then allL ep ts (applyL ep l t.f0 t.f1 t.f2 t.f3 t.f4).2.1 (n + 1) else allL ep ts l n
def TxE (t : S35) : Prop := t.f1.size ≤ 1048576 ∧ t.f2.size ≤ 1048576
theorem iAll_l (ep : Int) (ts : List S35) (hts : ts.length ≤ 100000000) (ht : ∀ t ∈ ts, TxE t) : ∀ (d i : Nat) (l : List S63) (n : Int), i + d = ts.length → l.length ≤ 1048576 → (∀ s ∈ l, BdE s) → 0 ≤ n → n ≤ (i : Int) →
    Ev (fun k => impl_ApplyAll.l0 k ts i n ep l) (ep, (allL ep (ts.drop i) l n).1, (allL ep (ts.drop i) l n).2) := by
  intro d
  induction d with
  | zero =>
    intro i l n hi hl hb h0 h1;rw [List.drop_of_length_le (by omega)]
    refine evOne fun k => ?_
    simp only [impl_ApplyAll.l0];rw [if_neg (by omega)];rfl
  | succ d ih =>
    intro i l n hi hl hb h0 h1
    have hlt : i < ts.length := by omega
    have wn : wrap64 (n + 1) = n + 1 := w64 (by omega) (by omega);have htx := ht _ (List.getElem_mem hlt);have ha := iApply_ev ep l ts[i].f0 ts[i].f1 ts[i].f2 ts[i].f3 ts[i].f4 (by omega) hb htx.1 htx.2;rw [drop_cons hlt];unfold allL;refine Ev.step (f := fun k => (impl_Apply.f k ep l ts[i].f0 ts[i].f1 ts[i].f2 ts[i].f3 ts[i].f4).bind fun b => impl_ApplyAll.l0 k ts (i + 1) (if b.2.2 = 0 then n + 1 else n) b.1 b.2.1) (fun k => ?_) (Ev.bind ha ?_)
    · simp only [impl_ApplyAll.l0]
      rw [if_pos hlt, rdIX_get hlt, wn]
    rcases applyL_cases ep l ts[i].f0 ts[i].f1 ts[i].f2 ts[i].f3 ts[i].f4 with ⟨c, e, hc⟩ | ⟨l', e, hok⟩
    · rw [e, if_neg hc]
      have h2 := ih (i + 1) l n (by omega) hl hb h0 (by omega);simp only [if_neg hc];exact h2
    · rw [e, if_pos rfl]
      have := ledger_bd hok;have h2 := ih (i + 1) l' (n + 1) (by omega) (by omega) this.2 (by omega) (by omega);simp only [if_true];exact h2
theorem iAll_ev (ep : Int) (l : List S63) (ts : List S35) (hts : ts.length ≤ 100000000) (ht : ∀ t ∈ ts, TxE t) (hl : l.length ≤ 1048576) (hb : ∀ s ∈ l, BdE s) : Ev (fun k => impl_ApplyAll.f k ep l ts) (ep, (allL ep ts l 0).1, (allL ep ts l 0).2) := by
  simp only [impl_ApplyAll.f];exact Ev.bind (iCopyL_ev ep l (by omega) hb) (iAll_l ep ts hts ht ts.length 0 l 0 (by omega) hl hb (by omega) (by omega))
end Go.Proofs.Ytcbpfofkdipjhaa.PV
namespace Go.Proofs.Ytcbpfofkdipjhaa.PV
open Go.RowKit Go.Proofs.YtcbpfofkdipjhaaW.PrintWords Go.Proofs.YtcbpfofkdipjhaaW.PrintLast Go.Proofs.YtcbpfofkdipjhaaW.PrintMore Go.Proofs.Ytcbpfofkdipjhaa.Base
set_option linter.unusedVariables false
set_option linter.unusedSimpArgs false
theorem asum_set {l : List S63} {j : Nat} (hj : j < l.length) (x : S63) : asum (l.set j x) + (l[j].f1 + l[j].f3 + lsum l[j].f4) = asum l + (x.f1 + x.f3 + lsum x.f4) := by
  rw [set_split hj, asum_app, asum_cons]
  conv => rhs; rw [get_split hj, asum_app, asum_cons]
  omega
theorem addL_keep (l : List S63) (hu : Up l) (hr : ∀ s ∈ l, 0 ≤ s.f1 ∧ s.f1 ≤ 1000000) (nm : ByteArray) (n : Int) (hn : 0 ≤ n ∧ n ≤ 1000000) :
    asum (addL l nm n) = asum l + n ∧ ∀ s ∈ l, ∃ t ∈ addL l nm n, t.f0.toList = s.f0.toList ∧ t.f2 = s.f2 ∧ t.f3 = s.f3 ∧ (¬ s.f0.toList = nm.toList → t.f1 = s.f1) := by
  rcases at_cases l nm with ⟨e, hno⟩ | ⟨j, hj, e, hk⟩
  · have eA : addL l nm n = l.take (plL l nm) ++ [newA nm n] ++ l.drop (plL l nm) := by unfold addL; rw [if_neg (by omega)]
    rw [eA];refine ⟨?_, fun s hs => ⟨s, ?_, rfl, rfl, rfl, fun _ => rfl⟩⟩
    · rw [asum_app, asum_app]
      conv => rhs; rw [← List.take_append_drop (plL l nm) l, asum_app]
      have : asum [newA nm n] = n := by simp [asum, newA, lsum]
      omega
    · rw [← List.take_append_drop (plL l nm) l] at hs
      rcases List.mem_append.1 hs with h | h
      · exact List.mem_append_left _ (List.mem_append_left _ h)
      · exact List.mem_append_right _ h
  · have eg : l.getD j z63 = l[j] := getD_get hj
    have eA : addL l nm n = l.set j (more l[j] n) := by unfold addL; rw [if_pos (by omega), e, Int.toNat_natCast, eg]
    have hr := hr _ (List.getElem_mem hj);have hw : wrap64 (l[j].f1 + n) = l[j].f1 + n := w64 (by omega) (by omega);rw [eA];refine ⟨?_, fun s hs => ?_⟩
    · have h := asum_set hj (more l[j] n)
      have e2 : (more l[j] n).f1 = l[j].f1 + n := hw;have e3 : (more l[j] n).f3 = l[j].f3 := rfl;have e4 : (more l[j] n).f4 = l[j].f4 := rfl;rw [e2, e3, e4] at h
      omega
    · obtain ⟨i, hi, rfl⟩ := List.getElem_of_mem hs
      by_cases c : i = j
      · subst c
        exact ⟨more l[i] n, List.mem_set hj _, rfl, rfl, rfl, fun h => absurd hk h⟩
      · refine ⟨l[i], ?_, rfl, rfl, rfl, fun _ => rfl⟩
        have := List.getElem_mem (l := l.set j (more l[j] n)) (n := i) (by rw [List.length_set]; exact hi);rw [List.getElem_set_ne (fun h => c h.symm)] at this;exact this
theorem lv_range {l : List S65} (h : lvFrom l l.length 0 = true) : ∀ x ∈ l, 1 ≤ x.f0 ∧ x.f0 ≤ 1000000 := by
  intro x hx;obtain ⟨j, hj, rfl⟩ := List.getElem_of_mem hx;have h1 := lvFrom_at h j (Nat.zero_le _) (by omega);unfold lvAt at h1;rw [rdIL_get hj] at h1;simp only [Bool.and_eq_true, inr_iff] at h1;exact h1.1
/-- What is asked of the account that gave an order, ahead of it and behind it. -/
def bears (kind am : Int) (tt : ByteArray) (a b : S63) : Prop :=
  b.f0.toList = a.f0.toList ∧ b.f2 = wrap64 (a.f2 + 1) ∧ (if kind = 2 then b.f3 = wrap64 (a.f3 + am) ∧ b.f1 = wrap64 (a.f1 - am) else if kind = 3 then b.f3 = wrap64 (a.f3 - am) ∧ b.f1 = a.f1 else b.f3 = a.f3 ∧ (¬ tt.toList = a.f0.toList → b.f1 = wrap64 (a.f1 - am)))
theorem doL_bears {l : List S63} {j : Nat} (hj : j < l.length) (hu : Up l) (hok : ∀ s ∈ l, okA s) (ep kind : Int) (hk : kind = 1 ∨ kind = 2 ∨ kind = 3) (tt : ByteArray) (am : Int) (ha : 1 ≤ am ∧ am ≤ 1000000) (hh : am ≤ hasL l[j] kind) :
    asum (doL ep l j kind tt am) = asum l ∧ ∃ t ∈ doL ep l j kind tt am, bears kind am tt l[j] t := by
  have ho := okA_parts (hok _ (List.getElem_mem hj));obtain ⟨_, ⟨f10, f11⟩, ⟨f20, f21⟩, ⟨f30, f31⟩, _, hlv⟩ := ho;have w1 : wrap64 (l[j].f1 - am) = l[j].f1 - am := w64 (by omega) (by omega);have w2 : wrap64 (l[j].f3 + am) = l[j].f3 + am := w64 (by omega) (by omega);have w3 : wrap64 (l[j].f3 - am) = l[j].f3 - am := w64 (by omega) (by omega);rw [doL_eq hj]
  rcases hk with rfl | rfl | rfl
  · rw [if_pos rfl]
    have hh : am ≤ l[j].f1 := by simpa [hasL] using hh
    have hs := asum_set hj (⟨l[j].f0, wrap64 (l[j].f1 - am), wrap64 (l[j].f2 + 1), l[j].f3, l[j].f4⟩ : S63);have hum : Up (l.set j ⟨l[j].f0, wrap64 (l[j].f1 - am), wrap64 (l[j].f2 + 1), l[j].f3, l[j].f4⟩) := up_names (names_set (s := ⟨l[j].f0, wrap64 (l[j].f1 - am), wrap64 (l[j].f2 + 1), l[j].f3, l[j].f4⟩) hj rfl).symm hu
    have hrm : ∀ s ∈ l.set j ⟨l[j].f0, wrap64 (l[j].f1 - am), wrap64 (l[j].f2 + 1), l[j].f3, l[j].f4⟩, 0 ≤ s.f1 ∧ s.f1 ≤ 1000000 := by
      intro s hs
      rcases List.mem_or_eq_of_mem_set hs with h | rfl
      · exact (okA_parts (hok s h)).2.1
      · show 0 ≤ wrap64 (l[j].f1 - am) ∧ wrap64 (l[j].f1 - am) ≤ 1000000
        rw [w1]
        omega
    obtain ⟨h1, h2⟩ := addL_keep _ hum hrm tt am (by omega);obtain ⟨t, ht, t0, t2, t3, t1⟩ := h2 ⟨l[j].f0, wrap64 (l[j].f1 - am), wrap64 (l[j].f2 + 1), l[j].f3, l[j].f4⟩ (List.mem_set hj _);refine ⟨?_, t, ht, t0, t2, ?_⟩
    · rw [h1]
      simp only [w1] at hs ⊢
      omega
    · rw [if_neg (by decide), if_neg (by decide)]
      exact ⟨t3, fun h => t1 (fun h' => h h'.symm)⟩
  · rw [if_neg (by decide), if_pos rfl]
    have hs := asum_set hj (⟨l[j].f0, wrap64 (l[j].f1 - am), wrap64 (l[j].f2 + 1), wrap64 (l[j].f3 + am), l[j].f4⟩ : S63);refine ⟨?_, _, List.mem_set hj _, rfl, rfl, ?_⟩
    · simp only [w1, w2] at hs ⊢
      omega
    · rw [if_pos rfl]
      exact ⟨rfl, rfl⟩
  · rw [if_neg (by decide), if_neg (by decide)]
    have hs := asum_set hj (⟨l[j].f0, l[j].f1, wrap64 (l[j].f2 + 1), wrap64 (l[j].f3 - am), lvInto am (wrap64 (ep + 2)) l[j].f4⟩ : S63);have hl := lvInto_sum am (wrap64 (ep + 2)) (by omega) l[j].f4 (lv_range hlv);refine ⟨?_, _, List.mem_set hj _, rfl, rfl, ?_⟩
    · simp only [w3, hl] at hs ⊢
      omega
    · rw [if_neg (by decide), if_pos rfl]
      exact ⟨rfl, rfl⟩
theorem applyL_split (ep : Int) (l : List S63) (kind : Int) (fr tt : ByteArray) (am no : Int) : (∃ c, applyL ep l kind fr tt am no = (ep, l, c) ∧ ¬ c = 0) ∨
    ∃ j, ∃ hj : j < l.length, atL l fr = (j : Int) ∧ l[j].f0.toList = fr.toList ∧ ledgerOk ep l = true ∧ txOk kind fr tt am no = true ∧ am ≤ hasL l[j] kind ∧ ledgerOk ep (doL ep l j kind tt am) = true ∧ applyL ep l kind fr tt am no = (ep, doL ep l j kind tt am, 0) := by
  by_cases c : (ledgerOk ep l && txOk kind fr tt am no) = true
  case neg => exact .inl ⟨1, by unfold applyL; rw [if_neg c], by decide⟩
  rcases at_cases l fr with ⟨e, _⟩ | ⟨j, hj, e, hn⟩
  · exact .inl ⟨2, by unfold applyL; rw [if_pos c, if_pos (by omega)], by decide⟩
  · have eu : applyL ep l kind fr tt am no = if no = l[j].f2 then if hasL l[j] kind < am then (ep, l, 4) else if ledgerOk ep (doL ep l j kind tt am) = true then (ep, doL ep l j kind tt am, 0) else (ep, l, 5) else (ep, l, 3) := by
      unfold applyL;rw [if_pos c, if_neg (by omega), e, Int.toNat_natCast, getD_get hj]
    rw [eu];rw [Bool.and_eq_true] at c
    by_cases c3 : no = l[j].f2
    · rw [if_pos c3]
      by_cases c4 : hasL l[j] kind < am
      · rw [if_pos c4]; exact .inl ⟨4, rfl, by decide⟩
      · rw [if_neg c4]
        by_cases c5 : ledgerOk ep (doL ep l j kind tt am) = true
        · rw [if_pos c5]
          exact .inr ⟨j, hj, e, hn, c.1, c.2, by omega, c5, rfl⟩
        · rw [if_neg c5]; exact .inl ⟨5, rfl, by decide⟩
    · rw [if_neg c3]; exact .inl ⟨3, rfl, by decide⟩
/-- An order never changes the wealth. -/
theorem applyL_sum (ep : Int) (l : List S63) (kind : Int) (fr tt : ByteArray) (am no : Int) : asum (applyL ep l kind fr tt am no).2.1 = asum l := by
  rcases applyL_split ep l kind fr tt am no with ⟨c, e, _⟩ | ⟨j, hj, e, hn, hl, ht, hh, _, ea⟩
  · rw [e]
  · rw [ea]
    obtain ⟨_, hok, hu, _, _⟩ := ledger_parts hl;obtain ⟨hk, ha, _, _⟩ := txOk_kind ht;exact (doL_bears hj hu hok ep kind hk tt am ha hh).1
end Go.Proofs.Ytcbpfofkdipjhaa.PV
namespace Go.Proofs.Ytcbpfofkdipjhaa.PV
open Go.RowKit Go.Proofs.YtcbpfofkdipjhaaW.PrintWords Go.Proofs.YtcbpfofkdipjhaaW.PrintLast Go.Proofs.YtcbpfofkdipjhaaW.PrintMore Go.Proofs.Ytcbpfofkdipjhaa.Base
set_option linter.unusedVariables false
set_option linter.unusedSimpArgs false
theorem l4Acct_l (b : List Int) (nm : ByteArray) (fr no st : Int) : ∀ (d j : Nat) (lv : List S65) (i h : Int), j + d = 3 → lv.length ≤ j → (∀ x ∈ lv, 1 ≤ x.f0 ∧ x.f0 ≤ 9 ∧ 1 ≤ x.f1 ∧ x.f1 ≤ (j : Int)) → lv.Pairwise (fun a b => a.f1 < b.f1) → St b i →
    ∃ r i' h', Ev (fun k => spec_l4Acct.l0 k (j : Int) b i h nm fr no st lv) (nm, fr, no, st, r, i', h') ∧ St b i' ∧ r.length ≤ 3 ∧ (∀ x ∈ r, 1 ≤ x.f0 ∧ x.f0 ≤ 9 ∧ 1 ≤ x.f1 ∧ x.f1 ≤ 3) ∧ r.Pairwise (fun a b => a.f1 < b.f1) := by
  intro d
  induction d with
  | zero =>
    intro j lv i h hj hl hz hu hs
    obtain rfl : j = 3 := by omega
    refine ⟨lv, i, h, evOne fun k => ?_, hs, hl, hz, hu⟩;simp only [spec_l4Acct.l0];rw [if_neg (by omega)]
  | succ d ih =>
    intro j lv i h hj hl hz hu hs;obtain ⟨q, i1, h1, e1, hs1⟩ := l1Once_eq b i h 4 hs
    have ej : wrap64 ((j : Int) + 1) = ((j + 1 : Nat) : Int) := by rw [w64 (by omega) (by omega)]; rfl
    by_cases hq : q = true
    · obtain ⟨a, i2, h2, e2, hs2, a0, a1, _⟩ := l1Below_eq b i1 h1 9 hs1
      have a1 := a1 (by omega);have ea : wrap64 (1 + a) = 1 + a := w64 (by omega) (by omega)
      obtain ⟨r, i3, h3, hr, hs3, hrl, hrz⟩ := ih (j + 1) (lv ++ [(⟨1 + a, ((j + 1 : Nat) : Int)⟩ : S65)]) i2 h2 (by omega) (by simp; omega) (by
        intro x hx
        rcases List.mem_append.1 hx with hx | hx
        · have := hz x hx; omega
        · rw [List.mem_singleton.1 hx]
          dsimp only
          omega) (by
        rw [List.pairwise_append];refine ⟨hu, List.pairwise_singleton _ _, fun x hx y hy => ?_⟩;have := hz x hx;rw [List.mem_singleton.1 hy]
        dsimp only
        omega) hs2
      refine ⟨r, i3, h3, Ev.step (fun k => ?_) hr, hs3, hrl, hrz⟩;simp only [spec_l4Acct.l0];rw [if_pos (by omega), e1];simp only [Option.bind_some];rw [if_pos hq, e2];simp only [Option.bind_some];rw [if_pos (by omega), ej, ea]
    · obtain ⟨r, i3, h3, hr, hs3, hrl, hrz⟩ := ih (j + 1) lv i1 h1 (by omega) (by omega) (fun x hx => by have := hz x hx; omega) hu hs1
      refine ⟨r, i3, h3, Ev.step (fun k => ?_) hr, hs3, hrl, hrz⟩;simp only [spec_l4Acct.l0];rw [if_pos (by omega), e1];simp only [Option.bind_some];rw [if_neg hq, ej]
theorem l4Acct_ev (b : List Int) (i h : Int) (nm : ByteArray) (hs : St b i) : ∃ fr no st lv i' h', Ev (fun k => spec_l4Acct.f k b i h nm) (nm, fr, no, st, lv, i', h') ∧ St b i' ∧ lv.length ≤ 3 ∧ (fr = 0 ∨ fr = 10 ∨ fr = 100 ∨ fr = 5) ∧ 0 ≤ no ∧ no ≤ 2 ∧ (0 ≤ st ∧ st ≤ 30) ∧ (∀ x ∈ lv, 1 ≤ x.f0 ∧ x.f0 ≤ 9 ∧ 1 ≤ x.f1 ∧ x.f1 ≤ 3) ∧ lv.Pairwise (fun a b => a.f1 < b.f1) := by
  obtain ⟨fr, i1, h1, e1, hs1, m1⟩ := l1Int_eq b i h [0, 10, 100, 5] (by simp) hs;obtain ⟨no, i2, h2, e2, hs2, n0, n1, _⟩ := l1Below_eq b i1 h1 3 hs1;have n1 := n1 (by omega);obtain ⟨st, i3, h3, e3, hs3, m3⟩ := l1Int_eq b i2 h2 [10, 10, 0, 4, 5, 30] (by simp) hs2;obtain ⟨lv, i4, h4, hr, hs4, hl, hz⟩ := l4Acct_l b nm fr no st 3 0 [] i3 h3 (by omega) (by simp) (fun x hx => by simp at hx) List.Pairwise.nil hs3;refine ⟨fr, no, st, lv, i4, h4, ?_, hs4, hl, by simpa using m1, n0, by omega, by simp at m3; omega, hz⟩;simp only [spec_l4Acct.f];exact evBindC e1 (evBindC e2 (evBindC e3 hr))
end Go.Proofs.Ytcbpfofkdipjhaa.PV
namespace Go.Proofs.Ytcbpfofkdipjhaa.PV
open Go.RowKit Go.Proofs.YtcbpfofkdipjhaaW.PrintWords Go.Proofs.YtcbpfofkdipjhaaW.PrintLast Go.Proofs.YtcbpfofkdipjhaaW.PrintMore Go.Proofs.Ytcbpfofkdipjhaa.Base
set_option linter.unusedVariables false
set_option linter.unusedSimpArgs false
theorem l6Tx_eq (b : List Int) (i h : Int) (ep : Int) (l : List S63) (hl : l.length ≤ 1000) (hz : ∀ s ∈ l, s.f0.size ≤ 9) (hs : St b i) : ∃ kd fr tt am no i' h', spec_l6Tx.f b i h ep l = some (kd, fr, tt, am, no, i', h') ∧ St b i' ∧ fr.size ≤ 9 ∧ tt.size ≤ 9 := by
  obtain ⟨kd, fr, tt, am, no, i1, h1, e1, s1, hf, ht⟩ := l5Tx_eq b i h hs;unfold spec_l6Tx.f;rw [e1];simp only [Option.bind_some]
  by_cases c : 0 < l.length
  · rw [if_pos c]
    obtain ⟨o, i2, h2, e2, s2⟩ := l1Once_eq b i1 h1 5 s1;rw [e2];simp only [Option.bind_some]
    by_cases co : o = true
    · rw [if_pos co]
      exact ⟨_, _, _, _, _, _, _, rfl, s2, by omega, by omega⟩
    · rw [if_neg co]
      obtain ⟨q, i3, h3, e3, s3, q0, q1, _⟩ := l1Below_eq b i2 h2 (l.length : Int) s2;have q1 := q1 (by omega);rw [e3];simp only [Option.bind_some];rw [if_pos ⟨q0, q1⟩];obtain ⟨m, rfl⟩ := Int.eq_ofNat_of_zero_le q0
      have hm : m < l.length := by omega
      refine ⟨_, _, _, _, _, _, _, rfl, s3, ?_, by omega⟩;rw [rdIA_get hm];exact hz _ (List.getElem_mem hm)
  · rw [if_neg c]
    exact ⟨_, _, _, _, _, _, _, rfl, s1, by omega, by omega⟩
end Go.Proofs.Ytcbpfofkdipjhaa.PV
namespace Go.Proofs.Ytcbpfofkdipjhaa.PV
open Go.RowKit Go.Proofs.YtcbpfofkdipjhaaW.PrintWords Go.Proofs.YtcbpfofkdipjhaaW.PrintLast Go.Proofs.YtcbpfofkdipjhaaW.PrintMore Go.Proofs.Ytcbpfofkdipjhaa.Base Go.Proofs.Ytcbpfofkdipjhaa.Sha
set_option linter.unusedVariables false
set_option linter.unusedSimpArgs false
def leavesB (l : List S65) : List Int := l.flatMap fun x => putN x.f0 ++ putN x.f1
def txtB (s : S63) : List Int := putT s.f0 ++ putN s.f1 ++ putN s.f2 ++ putN s.f3 ++ putN (s.f4.length : Int) ++ leavesB s.f4
def txt (s : S63) : ByteArray := strOfNums (txtB s)
theorem leavesB_len (l : List S65) : (leavesB l).length ≤ 12 * l.length := by
  induction l with
  | nil => simp [leavesB]
  | cons x l ih =>
    have h0 := putN_length x.f0;have h1 := putN_length x.f1;have e : leavesB (x :: l) = putN x.f0 ++ putN x.f1 ++ leavesB l := rfl;rw [e, List.length_append, List.length_append, List.length_cons]
    omega
theorem txt_size (s : S63) : (txt s).size ≤ s.f0.size + 30 + 12 * s.f4.length := by
  have h0 := putT_length s.f0;have h1 := putN_length s.f1;have h2 := putN_length s.f2;have h3 := putN_length s.f3;have h4 := putN_length (s.f4.length : Int);have h5 := leavesB_len s.f4;rw [txt, strOfNums_size, txtB];simp only [List.length_append]
  omega
theorem leavesB_drop {l : List S65} {i : Nat} (h : i < l.length) : leavesB (l.drop i) = putN (rd_T65 l (i : Int)).f0 ++ putN (rd_T65 l (i : Int)).f1 ++ leavesB (l.drop (i + 1)) := by
  rw [drop_cons h, rdIL_get h];rfl
def Bd (s : S63) : Prop := s.f0.size ≤ 1048576 ∧ s.f4.length ≤ 1048576
def stateL (n : Int) (l : List S63) : ByteArray := if (inr n 0 900 && acctsOk l) = true then rootL (l.map txt) else (⟨#[]⟩ : ByteArray)
theorem acctsOk_len {l : List S63} (h : acctsOk l = true) : l.length ≤ 12 := by
  unfold acctsOk at h;simp only [Bool.and_eq_true, decide_eq_true_eq] at h;exact h.2.1
theorem iLedgerOk_ev (n : Int) (l : List S63) (hl : l.length ≤ 281474976710656) (hb : ∀ s ∈ l, s.f0.size ≤ 9223372036854775807 ∧ s.f4.length ≤ 281474976710656) : Ev (fun k => impl_LedgerOk.f k n l) (inr n 0 900 && acctsOk l) := by
  simp only [impl_LedgerOk.f, inRange_eq, Option.bind_some]
  by_cases h : inr n 0 900 = true
  · exact evPos h (Ev.bind (iAcctsOk_ev l hl hb) (evEq (Ev.now _) (by rw [h]; simp)))
  · exact evNeg h (evEq (Ev.now _) (by rw [Bool.not_eq_true] at h; rw [h]; simp))
theorem iState_l1 (x : List ByteArray) (hx : x.length ≤ 2000) (l : List S63) (N i : Int) (m : List S65) (hm : m.length ≤ 1048576) (r : ByteArray) : ∀ (d j : Nat) (b : List Int), j + d = m.length → b.length + 12 * d ≤ 281474976 → Ev (fun k => impl_StateRoot.l0 k (x ++ [strOfNums (b ++ leavesB (m.drop j))]) l N (wrap64 (i + 1))) r → Ev (fun k => impl_StateRoot.l1 k x b l N i m (m.length : Int) (j : Int)) r := by
  intro d
  induction d with
  | zero =>
    intro j b hj hb h;rw [List.drop_of_length_le (by omega)] at h;simp only [leavesB, List.flatMap_nil, List.append_nil] at h;refine Ev.step (fun k => ?_) h;simp only [impl_StateRoot.l1];rw [if_neg (by omega), if_pos (by omega)]
  | succ d ih =>
    intro j b hj hb h
    have hlt : j < m.length := by omega
    have h0 := putN_length (rd_T65 m (j : Int)).f0;have h1 := putN_length (rd_T65 m (j : Int)).f1;have p0 := iputNum_ev b (rd_T65 m (j : Int)).f0 (by omega);have p1 := iputNum_ev (b ++ putN (rd_T65 m (j : Int)).f0) (rd_T65 m (j : Int)).f1 (by rw [List.length_append]; omega);rw [leavesB_drop hlt, ← List.append_assoc, ← List.append_assoc] at h;have ih' := ih (j + 1) (b ++ putN (rd_T65 m (j : Int)).f0 ++ putN (rd_T65 m (j : Int)).f1) (by omega) (by rw [List.length_append, List.length_append]; omega) h;refine Ev.step (f := fun k => (impl_putNum.f k b (rd_T65 m (j : Int)).f0).bind fun t => (impl_putNum.f k t (rd_T65 m (j : Int)).f1).bind fun t2 => impl_StateRoot.l1 k x t2 l N i m (m.length : Int) ((j + 1 : Nat) : Int)) (fun k => ?_) (Ev.bind p0 (Ev.bind p1 ih'));simp only [impl_StateRoot.l1];rw [if_pos (by omega), if_pos (by omega), if_pos (by omega), w64 (by omega) (by omega)];rfl
set_option maxHeartbeats 4000000 in
theorem iState_l (l : List S63) (hl : l.length ≤ 1000) (hb : ∀ s ∈ l, Bd s) : ∀ (m i : Nat) (x : List ByteArray), i + m = l.length → x.length = i → (∀ s ∈ x, s.size ≤ 140000000) → Ev (fun k => impl_StateRoot.l0 k x l (l.length : Int) (i : Int)) (rootL (x ++ (l.drop i).map txt)) := by
  intro m
  induction m with
  | zero =>
    intro i x hi hx hz;have hr := irootL_ev x (by omega) hz;rw [List.drop_of_length_le (by omega), List.map_nil, List.append_nil];refine Ev.step (f := fun k => (impl_rootOf.f k x).bind fun t => some t) (fun k => ?_) (Ev.bind hr (Ev.now _));simp only [impl_StateRoot.l0];rw [if_neg (by omega)]
  | succ m ih =>
    intro i x hi hx hz
    have hlt : i < l.length := by omega
    have hxl : x.length ≤ 2000 := by omega
    have q1 : (i : Int) < (l.length : Int) := by omega
    have q0 : 0 ≤ (i : Int) := Int.natCast_nonneg i;have hjm : 0 + l[i].f4.length = l[i].f4.length := Nat.zero_add _;have hbs := hb _ (List.getElem_mem hlt);have hsz := txt_size l[i];have hb0 := hbs.1;have hb4 := hbs.2;have h0 := putT_length l[i].f0;have h1 := putN_length l[i].f1;have h2 := putN_length l[i].f2;have h3 := putN_length l[i].f3;have h4 := putN_length (l[i].f4.length : Int);have p0 := iputText_ev ([] : List Int) l[i].f0 (by simp; omega);rw [List.nil_append] at p0;have p1 := iputNum_ev (putT l[i].f0) l[i].f1 (by omega);have p2 := iputNum_ev (putT l[i].f0 ++ putN l[i].f1) l[i].f2 (by rw [List.length_append]; omega);have p3 := iputNum_ev (putT l[i].f0 ++ putN l[i].f1 ++ putN l[i].f2) l[i].f3 (by simp only [List.length_append]; omega);have p4 := iputNum_ev (putT l[i].f0 ++ putN l[i].f1 ++ putN l[i].f2 ++ putN l[i].f3) (l[i].f4.length : Int) (by simp only [List.length_append]; omega)
    have ih' := ih (i + 1) (x ++ [txt l[i]]) (by omega) (by simp; omega) (by
      intro s hs
      rcases List.mem_append.1 hs with h | h
      · exact hz s h
      · rw [List.mem_singleton.1 h]; omega)
    have e1 : wrap64 ((i : Int) + 1) = ((i + 1 : Nat) : Int) := by rw [w64 (by omega) (by omega)]; rfl
    rw [← e1] at ih'
    have hd0 : txt l[i] = strOfNums (putT l[i].f0 ++ putN l[i].f1 ++ putN l[i].f2 ++ putN l[i].f3 ++ putN (l[i].f4.length : Int) ++ leavesB (l[i].f4.drop 0)) := by rw [List.drop_zero]; rfl
    rw [hd0] at ih'
    have hln : (putT l[i].f0 ++ putN l[i].f1 ++ putN l[i].f2 ++ putN l[i].f3 ++ putN (l[i].f4.length : Int)).length + 12 * l[i].f4.length ≤ 281474976 := by
      clear ih ih' p0 p1 p2 p3 p4 hd0 hz;simp only [List.length_append]
      omega
    have hq := iState_l1 x hxl l (l.length : Int) (i : Int) l[i].f4 hb4 _ l[i].f4.length 0 (putT l[i].f0 ++ putN l[i].f1 ++ putN l[i].f2 ++ putN l[i].f3 ++ putN (l[i].f4.length : Int)) hjm hln ih';refine Ev.step (f := fun k => (impl_putText.f k ([] : List Int) l[i].f0).bind fun t1 => (impl_putNum.f k t1 l[i].f1).bind fun t2 => (impl_putNum.f k t2 l[i].f2).bind fun t3 => (impl_putNum.f k t3 l[i].f3).bind fun t4 => (impl_putNum.f k t4 (l[i].f4.length : Int)).bind fun t5 => impl_StateRoot.l1 k x t5 l (l.length : Int) (i : Int) l[i].f4 (l[i].f4.length : Int) 0) (fun k => ?_) (Ev.bind p0 (Ev.bind p1 (Ev.bind p2 (Ev.bind p3 (Ev.bind p4 (evEq hq ?_))))))
    · simp only [impl_StateRoot.l0]
      rw [if_pos q1, if_pos q0, if_pos q1, rdIA_get hlt]
    · rw [drop_cons hlt, List.map_cons, List.append_assoc]
      rfl
theorem iState_ev (n : Int) (l : List S63) (hl : l.length ≤ 281474976) (hb : ∀ s ∈ l, Bd s) : Ev (fun k => impl_StateRoot.f k n l) (stateL n l) := by
  have ho := iLedgerOk_ev n l (by omega) (fun s hs => ⟨by have := (hb s hs).1; omega, by have := (hb s hs).2; omega⟩);simp only [impl_StateRoot.f];unfold stateL
  by_cases h : (inr n 0 900 && acctsOk l) = true
  · have h12 := acctsOk_len (Bool.and_eq_true _ _ ▸ h).2
    rw [if_pos h];have hs := iState_l l (by omega) hb l.length 0 [] (by omega) rfl (fun s h => by simp at h);rw [List.nil_append, List.drop_zero] at hs;exact Ev.bind ho (evPos h hs)
  · rw [if_neg h]
    exact Ev.bind ho (evNeg h (Ev.now _))
end Go.Proofs.Ytcbpfofkdipjhaa.PV
namespace Go.Proofs.Ytcbpfofkdipjhaa.PV
open Go.RowKit Go.Proofs.YtcbpfofkdipjhaaW.PrintWords Go.Proofs.YtcbpfofkdipjhaaW.PrintLast Go.Proofs.YtcbpfofkdipjhaaW.PrintMore Go.Proofs.Ytcbpfofkdipjhaa.Base
set_option linter.unusedVariables false
set_option linter.unusedSimpArgs false
/-! ### what is drawn is right -/
theorem rise_mem {l : List ByteArray} : ∀ {j : Nat}, Rise l j → ∀ s ∈ l, ∃ c : UInt8, s = ⟨#[c]⟩ ∧ 97 + j ≤ c.toNat ∧ c.toNat ≤ 101 := by
  induction l with
  | nil => intro j _ s hs; simp at hs
  | cons a l ih =>
    intro j hr s hs;obtain ⟨c, rfl, h1, h2, hr'⟩ := hr
    rcases List.mem_cons.1 hs with rfl | hs
    · exact ⟨c, rfl, h1, h2⟩
    · obtain ⟨d, rfl, h3, h4⟩ := ih hr' s hs
      exact ⟨d, rfl, by omega, h4⟩
theorem tl1 (c : UInt8) : (⟨#[c]⟩ : ByteArray).toList = [c] := by rw [ByteArray.toList_eq]
theorem rise_up {l : List ByteArray} : ∀ {j : Nat}, Rise l j → l.Pairwise (fun a b => Op.bytesLess a.toList b.toList = true) := by
  induction l with
  | nil => intro j _; exact List.Pairwise.nil
  | cons a l ih =>
    intro j hr;obtain ⟨c, rfl, h1, h2, hr'⟩ := hr;refine List.pairwise_cons.2 ⟨fun b hb => ?_, ih hr'⟩;obtain ⟨d, rfl, h3, h4⟩ := rise_mem hr' b hb;rw [tl1, tl1];simp only [Op.bytesLess, Bool.or_eq_true, Bool.and_eq_true, decide_eq_true_eq, beq_iff_eq, UInt8.lt_iff_toNat_lt];exact .inl (by omega)
theorem name1 (c : UInt8) (h1 : 97 ≤ c.toNat) (h2 : c.toNat ≤ 101) : nameOk (⟨#[c]⟩ : ByteArray) = true := by
  have e : bytesOf (⟨#[c]⟩ : ByteArray) = [(c.toNat : Int)] := rfl;unfold nameOk;rw [e]
  have h3 : nmc (c.toNat : Int) = true := by
    unfold nmc;rw [decide_eq_true (show (97 : Int) ≤ (c.toNat : Int) by omega), decide_eq_true (show (c.toNat : Int) ≤ 122 by omega)];rfl
  rw [List.all_cons, h3];rfl
theorem lvFrom_mk {l : List S65} (hz : ∀ x ∈ l, 1 ≤ x.f0 ∧ x.f0 ≤ 9 ∧ 1 ≤ x.f1 ∧ x.f1 ≤ 3) (hu : l.Pairwise (fun a b => a.f1 < b.f1)) : ∀ d i, i + d ≤ l.length → lvFrom l d i = true := by
  intro d
  induction d with
  | zero => intro i _; rfl
  | succ d ih =>
    intro i hi
    have hlt : i < l.length := by omega
    have h1 := hz _ (List.getElem_mem hlt);unfold lvFrom;rw [ih (i + 1) (by omega), Bool.and_true];unfold lvAt;rw [rdIL_get hlt];simp only [Bool.and_eq_true, Bool.or_eq_true, decide_eq_true_eq, inr_iff];refine ⟨by omega, by omega, ?_⟩
    by_cases c : i = 0
    · exact .inl c
    · refine .inr ?_
      have hp : i - 1 < l.length := by omega
      rw [rdIL_get hp];exact List.pairwise_iff_getElem.1 hu (i - 1) i hp hlt (by omega)
def DrawnA (s : S63) : Prop := okA s ∧ s.f0.size ≤ 9 ∧ 0 ≤ s.f1 + s.f3 + lsum s.f4 ∧ s.f1 + s.f3 + lsum s.f4 ≤ 1000
theorem lsum_bd : ∀ (l : List S65), (∀ x ∈ l, 1 ≤ x.f0 ∧ x.f0 ≤ 9 ∧ 1 ≤ x.f1 ∧ x.f1 ≤ 3) → 0 ≤ lsum l ∧ lsum l ≤ 9 * (l.length : Int)
  | [], _ => by simp [lsum]
  | x :: t, h => by
    have hx := h x (List.mem_cons_self);have ht := lsum_bd t (fun y hy => h y (List.mem_cons_of_mem _ hy))
    have e : lsum (x :: t) = x.f0 + lsum t := by simp [lsum]
    rw [e, List.length_cons]
    omega
theorem drawnA_mk {c : UInt8} (h1 : 97 ≤ c.toNat) (h2 : c.toNat ≤ 101) {fr no st : Int} {lv : List S65} (hf : fr = 0 ∨ fr = 10 ∨ fr = 100 ∨ fr = 5) (n0 : 0 ≤ no) (n1 : no ≤ 2) (hs : 0 ≤ st ∧ st ≤ 30) (hl : lv.length ≤ 3) (hz : ∀ x ∈ lv, 1 ≤ x.f0 ∧ x.f0 ≤ 9 ∧ 1 ≤ x.f1 ∧ x.f1 ≤ 3) (hu : lv.Pairwise (fun a b => a.f1 < b.f1)) : DrawnA ⟨⟨#[c]⟩, fr, no, st, lv⟩ := by
  have hb := lsum_bd lv hz;refine ⟨?_, by show (1 : Nat) ≤ 9; omega, by dsimp only; omega, by dsimp only; omega⟩;unfold okA acctOk
  dsimp only
  rw [name1 c h1 h2, lvFrom_mk hz hu lv.length 0 (by omega)];simp only [Bool.true_and, Bool.and_true, Bool.and_eq_true, decide_eq_true_eq, inr_iff]
  omega
theorem l4DrawZ_l (b : List Int) (ns : List ByteArray) (hn : ns.length ≤ 5) (hr : Rise ns 0) : ∀ (d j : Nat) (x : List S63) (i h : Int), j + d = ns.length → x.length = j → (∀ s ∈ x, DrawnA s) → x.map (fun s => s.f0) = ns.take j → St b i →
    ∃ r i' h', Ev (fun k => spec_l4Draw.l0 k x ns (j : Int) b i h) (r, i', h') ∧ St b i' ∧ r.map (fun s => s.f0) = ns ∧ (∀ s ∈ r, DrawnA s) := by
  intro d
  induction d with
  | zero =>
    intro j x i h hj hx hxz hm hs;refine ⟨x, i, h, evOne fun k => ?_, hs, by rw [hm, List.take_of_length_le (by omega)], hxz⟩;simp only [spec_l4Draw.l0];rw [if_neg (by omega)]
  | succ d ih =>
    intro j x i h hj hx hxz hm hs
    have hlt : j < ns.length := by omega
    have hrd : rdOf ByteArray.empty ns (j : Int) = ns[j] := by
      unfold rdOf;simp [hlt]
    obtain ⟨c, hc, c1, c2⟩ := rise_mem hr ns[j] (List.getElem_mem hlt);obtain ⟨fr, no, st, lv, i1, h1, he, hs1, hl, hf, n0, n1, hst, hz, hu⟩ := l4Acct_ev b i h ns[j] hs
    obtain ⟨r, i2, h2, hr, hs2, hrl, hrz⟩ := ih (j + 1) (x ++ [(⟨ns[j], fr, no, st, lv⟩ : S63)]) i1 h1 (by omega) (by simp; omega) (by
      intro s hs
      rcases List.mem_append.1 hs with h | h
      · exact hxz s h
      · rw [List.mem_singleton.1 h, hc]
        exact drawnA_mk (by omega) c2 hf n0 n1 hst hl hz hu) (by
      rw [List.map_append, hm, take_snoc hlt]
      rfl) hs1
    refine ⟨r, i2, h2, Ev.step (f := fun k => (spec_l4Acct.f k b i h ns[j]).bind fun bt => spec_l4Draw.l0 k (x ++ [(⟨bt.1, bt.2.1, bt.2.2.1, bt.2.2.2.1, bt.2.2.2.2.1⟩ : S63)]) ns ((j + 1 : Nat) : Int) b bt.2.2.2.2.2.1 bt.2.2.2.2.2.2) (fun k => ?_) (Ev.bind he hr), hs2, hrl, hrz⟩;simp only [spec_l4Draw.l0];rw [if_pos (by omega), if_pos (by omega), hrd, w64 (by omega) (by omega)];simp only [show x.length < 2199023255552 by omega, if_true];rfl
theorem asum_bd : ∀ (l : List S63), (∀ s ∈ l, DrawnA s) → 0 ≤ asum l ∧ asum l ≤ 1000 * (l.length : Int)
  | [], _ => by simp [asum]
  | x :: t, h => by
    have hx := h x (List.mem_cons_self);have ht := asum_bd t (fun y hy => h y (List.mem_cons_of_mem _ hy));obtain ⟨_, _, h3, h4⟩ := hx;rw [asum_cons, List.length_cons]
    omega
theorem l6DrawZ_ev (b : List Int) (i h : Int) (hs : St b i) : ∃ n l i' h', Ev (fun k => spec_l6Draw.f k b i h) (n, l, i', h') ∧ St b i' ∧ ledgerOk n l = true := by
  obtain ⟨n, i1, h1, e1, hs1, n0, n1, _⟩ := l1Below_eq b i h 3 hs;have n1 := n1 (by omega);obtain ⟨ns, i2, h2, hn, hs2, hnl, hrise⟩ := l1Names_ev b i1 h1 hs1;obtain ⟨l, i3, h3, hr, hs3, hm, hrz⟩ := l4DrawZ_l b ns hnl hrise ns.length 0 [] i2 h2 (by omega) rfl (fun s h => by simp at h) rfl hs2
  have hlen : l.length = ns.length := by rw [← hm, List.length_map]
  have hb := asum_bd l hrz;refine ⟨n, l, i3, h3, ?_, hs3, ?_⟩
  · simp only [spec_l6Draw.f, spec_l4Draw.f]
    exact evBindC e1 (Ev.bind (Ev.bind hn hr) (Ev.now _))
  · unfold ledgerOk
    rw [Bool.and_eq_true, inr_iff, acctsOk_iff];refine ⟨by omega, fun s hs => (hrz s hs).1, ?_, by omega, by rw [w64 (by omega) (by omega)]; omega⟩;have h1 := rise_up hrise;rw [← hm] at h1;exact List.pairwise_map.1 h1
/-! ### orders drawn, one behind another -/
def LedZ (l : List S63) : Prop := l.length ≤ 12 ∧ ∀ s ∈ l, BdE s ∧ s.f0.size ≤ 9
theorem ledZ {n : Int} {l : List S63} (h : ledgerOk n l = true) : LedZ l := by
  obtain ⟨_, hok, _, hl, _⟩ := ledger_parts h;refine ⟨hl, fun s hs => ?_⟩;have ho := okA_parts (hok s hs);have := name_len ho.1;unfold BdE
  omega
theorem l6Txs_l (b : List Int) (ep : Int) : ∀ (d : Nat) (x : List S35) (l : List S63) (i h : Int), d ≤ 10 → x.length + d ≤ 10 → (∀ t ∈ x, TxE t) → LedZ l → St b i →
    ∃ r i' h', Ev (fun k => spec_l6Txs.l0 k x (d : Int) b i h ep l) (r, i', h') ∧ r.length ≤ 10 ∧ ∀ t ∈ r, TxE t := by
  intro d
  induction d with
  | zero =>
    intro x l i h hd hx ht hl hs;refine ⟨x, i, h, evOne fun k => ?_, by omega, ht⟩;simp only [spec_l6Txs.l0];rw [if_neg (by omega)]
  | succ d ih =>
    intro x l i h hd hx ht hl hs;obtain ⟨kd, fr, tt, am, no, i1, h1, e1, s1, hf, htt⟩ := l6Tx_eq b i h ep l (by have := hl.1; omega) (fun s hs => (hl.2 s hs).2) hs;have ha := sApply_ev ep l kd fr tt am no (by have := hl.1; omega) (fun s hs => (hl.2 s hs).1) (by omega) (by omega)
    have hz : LedZ (applyL ep l kd fr tt am no).2.1 ∧ (applyL ep l kd fr tt am no).1 = ep := by
      rcases applyL_cases ep l kd fr tt am no with ⟨c, e, _⟩ | ⟨l', e, hok⟩
      · rw [e]; exact ⟨hl, rfl⟩
      · rw [e]; exact ⟨ledZ hok, rfl⟩
    generalize applyL ep l kd fr tt am no = p at ha hz
    obtain ⟨r, i2, h2, hr, hrl, hrt⟩ := ih (x ++ [(⟨kd, fr, tt, am, no⟩ : S35)]) p.2.1 i1 h1 (by omega) (by simp; omega) (by
      intro t h
      rcases List.mem_append.1 h with h | h
      · exact ht t h
      · rw [List.mem_singleton.1 h]
        unfold TxE
        dsimp only
        omega) hz.1 s1
    have hr : Ev (fun k => spec_l6Txs.l0 k (x ++ [(⟨kd, fr, tt, am, no⟩ : S35)]) (d : Int) b i1 h1 p.1 p.2.1) (r, i2, h2) := by rw [hz.2]; exact hr
    have hxl : x.length < 2513169434916 := by omega
    have hw : wrap64 (((d + 1 : Nat) : Int) - 1) = (d : Int) := by rw [w64 (by omega) (by omega)]; omega
    refine ⟨r, i2, h2, Ev.step (f := fun k => (spec_Apply.f k ep l kd fr tt am no).bind fun p => spec_l6Txs.l0 k (x ++ [(⟨kd, fr, tt, am, no⟩ : S35)]) (d : Int) b i1 h1 p.1 p.2.1) (fun k => ?_) (Ev.bind ha hr), hrl, hrt⟩;simp only [spec_l6Txs.l0];rw [if_pos (by omega), e1];simp only [Option.bind_some];rw [if_pos hxl, hw]
theorem DrawLedger_ev (b : List Int) (hb : AllB b) (hl : b.length ≤ 281474976710656) : ∃ n l ts, Ev (fun k => spec_DrawLedger.f k b) (n, l, ts) ∧ ledgerOk n l = true ∧ ts.length ≤ 10 ∧ ∀ t ∈ ts, TxE t := by
  obtain ⟨h0, hn, hs⟩ := l1New_ev b hb hl;obtain ⟨n, l, i1, h1, hd, s1, hok⟩ := l6DrawZ_ev b 0 h0 hs;obtain ⟨m, i2, h2, e2, s2, m0, m1, _⟩ := l1Below_eq b i1 h1 10 s1;have m1 := m1 (by omega);obtain ⟨q, rfl⟩ := Int.eq_ofNat_of_zero_le m0;obtain ⟨r, i3, h3, hr, hrl, hrt⟩ := l6Txs_l b n q [] l i2 h2 (by omega) (by simp; omega) (fun t h => by simp at h) (ledZ hok) s2;refine ⟨n, l, r, ?_, hok, hrl, hrt⟩;simp only [spec_DrawLedger.f, spec_l6Txs.f];exact Ev.bind hn (Ev.bind hd (Ev.bind (evBindC e2 hr) (Ev.now _)))
/-! ### the next epoch -/
theorem due_sum (e : Int) : ∀ (m : List S65) (n : Int), 0 ≤ n → n + 1000000 * (m.length : Int) ≤ 1000000000000 → (∀ x ∈ m, 1 ≤ x.f0 ∧ x.f0 ≤ 1000000) → impl_NextEpoch.due e n m + lsum (m.filter (fun x => !decide (x.f1 ≤ e))) = n + lsum m := by
  intro m
  induction m with
  | nil => intro n _ _ _; rfl
  | cons x m ih =>
    intro n h0 hn hz;have hx := hz x (List.mem_cons_self ..)
    have hl : ((x :: m).length : Int) = (m.length : Int) + 1 := by simp
    rw [hl] at hn
    have hm := fun y hy => hz y (List.mem_cons_of_mem _ hy)
    have lc : ∀ (y : S65) (u : List S65), lsum (y :: u) = y.f0 + lsum u := fun y u => by simp [lsum]
    rw [lc]
    show impl_NextEpoch.due e (if x.f1 ≤ e then wrap64 (n + x.f0) else n) m + _ = _
    by_cases c : x.f1 ≤ e
    · rw [if_pos c, w64 (by omega) (by omega), List.filter_cons_of_neg (by simp [c])]
      have := ih (n + x.f0) (by omega) (by omega) hm
      omega
    · rw [if_neg c, List.filter_cons_of_pos (by simp [c]), lc]
      have := ih n h0 (by omega) hm
      omega
theorem on_sum (e : Int) : ∀ (l : List S63), (∀ s ∈ l, okA s) → asum (l.map (impl_NextEpoch.on e)) = asum l
  | [], _ => rfl
  | x :: t, h => by
    have ih := on_sum e t (fun y hy => h y (List.mem_cons_of_mem _ hy));obtain ⟨_, ⟨f0, f1⟩, _, _, hl4, hlv⟩ := okA_parts (h x (List.mem_cons_self));have hd := due_sum e x.f4 x.f1 f0 (by omega) (lv_range hlv);rw [List.map_cons, asum_cons, asum_cons, ih]
    show impl_NextEpoch.due e x.f1 x.f4 + x.f3 + lsum (x.f4.filter (fun x => !decide (x.f1 ≤ e))) + _ = _
    omega
theorem next_ok {n : Int} {l : List S63} (h : ledgerOk n l = true) : asum (nextL n l).2 = asum l ∧ ledgerOk (nextL n l).1 (nextL n l).2 = true := by
  unfold nextL;rw [if_pos h]
  by_cases c : ledgerOk (wrap64 (n + 1)) (l.map (impl_NextEpoch.on (wrap64 (n + 1)))) = true
  · rw [if_pos c]
    exact ⟨on_sum _ l (ledger_parts h).2.1, c⟩
  · rw [if_neg c]
    exact ⟨rfl, h⟩
/-! ### all orders -/
theorem allL_ok (ep : Int) : ∀ (ts : List S35) (l : List S63) (n : Int), ledgerOk ep l = true → ledgerOk ep (allL ep ts l n).1 = true ∧ asum (allL ep ts l n).1 = asum l
  | [], l, n, h => ⟨h, rfl⟩
  | t :: ts, l, n, h => by
    unfold allL;have hs := applyL_sum ep l t.f0 t.f1 t.f2 t.f3 t.f4
    rcases applyL_cases ep l t.f0 t.f1 t.f2 t.f3 t.f4 with ⟨c, e, hc⟩ | ⟨l', e, hok⟩
    · rw [e, if_neg hc]
      exact allL_ok ep ts l n h
    · rw [e] at hs
      rw [e, if_pos rfl];have := allL_ok ep ts l' (n + 1) hok;exact ⟨this.1, this.2.trans hs⟩
end Go.Proofs.Ytcbpfofkdipjhaa.PV
