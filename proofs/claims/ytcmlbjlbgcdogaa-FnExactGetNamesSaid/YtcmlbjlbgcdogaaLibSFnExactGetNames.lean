/- What the printed functions on rows of strings, names and orders compute. No condition but sizes. -/
import Derived.Test.YtcmlbjlbgcdogaaPHx0
import Derived.Test.YtcmlbjlbgcdogaaPHx1
import Derived.Test.YtcmlbjlbgcdogaaLibNFnExactGetNames
import Derived.Test.YtcmlbjlbgcdogaaLibCFnExactGetNames
namespace Go.Proofs.Ytcmlbjlbgcdogaa.PH
open Go.RowKit Go.Proofs.YtcmlbjlbgcdogaaW.PrintWords Go.Proofs.YtcmlbjlbgcdogaaW.PrintLast Go.Proofs.YtcmlbjlbgcdogaaW.PrintMore Go.Proofs.Ytcmlbjlbgcdogaa.Base
set_option linter.unusedVariables false
theorem rdS_get {xs : List ByteArray} {i : Nat} (h : i < xs.length) : rdOf ByteArray.empty xs (i : Int) = xs[i] := by
  unfold rdOf
  rw [Int.toNat_natCast, List.getD_eq_getElem?_getD, List.getElem?_eq_getElem h]
  rfl
theorem dropS {xs : List ByteArray} {i : Nat} (h : i < xs.length) : xs.drop i = rdOf ByteArray.empty xs (i : Int) :: xs.drop (i + 1) := by rw [rdS_get h]; exact drop_cons h
theorem eqStringS_l (x0 x1 : List ByteArray) (h : x0.length ≤ 281474976710656) (hl : x0.length = x1.length) : ∀ (d i : Nat), i + d = x0.length → Ev (fun k => laws_eqStringS.l0 k x0 x1 (i : Int)) (decide (x0.drop i = x1.drop i)) := by
  intro d
  induction d with
  | zero =>
    intro i hi
    refine evOne fun k => ?_
    simp only [laws_eqStringS.l0]
    rw [if_neg (by omega), List.drop_of_length_le (by omega), List.drop_of_length_le (by omega)]
    simp
  | succ d ih =>
    intro i hi
    have hlt : i < x0.length := by omega
    have hlt1 : i < x1.length := by omega
    rw [dropS hlt, dropS hlt1]
    by_cases he : rdOf ByteArray.empty x0 (i : Int) = rdOf ByteArray.empty x1 (i : Int)
    · refine Ev.step (f := fun k => laws_eqStringS.l0 k x0 x1 ((i + 1 : Nat) : Int)) (fun k => ?_) (evEq (ih (i + 1) (by omega)) (by simp [he]))
      simp only [laws_eqStringS.l0]
      rw [if_pos (by omega), if_pos (by omega), if_pos (by omega), if_pos (by rw [he]), w64 (by omega) (by omega)]
      rfl
    · refine evOne fun k => ?_
      simp only [laws_eqStringS.l0]
      rw [if_pos (by omega), if_pos (by omega), if_pos (by omega), if_neg (fun h => he (tl_inj.1 h))]
      simp [he]
theorem eqStringS_ev (a b : List ByteArray) (h : a.length ≤ 281474976710656) : Ev (fun k => laws_eqStringS.f k a b) (decide (a = b)) := by
  by_cases hl : a.length = b.length
  · refine Ev.congr (f := fun k => laws_eqStringS.l0 k a b 0) (fun k => ?_) (evEq (eqStringS_l a b h hl a.length 0 (by omega)) (by simp))
    simp only [laws_eqStringS.f]
    rw [if_pos (by omega)]
  · refine evVal fun k => ?_
    simp only [laws_eqStringS.f]
    rw [if_neg (by omega)]
    simp
    intro he
    exact hl (by rw [he])
/-! ### names that rise -/
def okAt (l : List ByteArray) (i : Nat) : Bool := nameOk (rdOf ByteArray.empty l (i : Int)) && (decide (i = 0) || Op.bytesLess (rdOf ByteArray.empty l ((i - 1 : Nat) : Int)).toList (rdOf ByteArray.empty l (i : Int)).toList)
/-- from place i on, d places. -/
def okFrom (l : List ByteArray) : Nat → Nat → Bool
  | 0, _ => true
  | d + 1, i => okAt l i && okFrom l d (i + 1)
def namesOk (l : List ByteArray) : Bool := okFrom l l.length 0 && decide (l.length ≤ 20)
theorem okFrom_at {l : List ByteArray} : ∀ {d i : Nat}, okFrom l d i = true → ∀ j, i ≤ j → j < i + d → okAt l j = true := by
  intro d
  induction d with
  | zero => intro i _ j h0 h1; omega
  | succ d ih =>
    intro i h j h0 h1
    simp only [okFrom, Bool.and_eq_true] at h
    by_cases e : j = i
    · rw [e]; exact h.1
    · exact ih h.2 j (by omega) (by omega)
/-! ### orders -/
def txOk (kind : Int) (fr tt : ByteArray) (am no : Int) : Bool :=
  nameOk fr && (decide (1 ≤ am) && decide (am ≤ 1000000)) && (decide (0 ≤ no) && decide (no ≤ 10000)) && (if kind = 1 then nameOk tt else (decide (2 ≤ kind) && decide (kind ≤ 3)) && (tt.toList == ([] : List UInt8)))
end Go.Proofs.Ytcmlbjlbgcdogaa.PH
