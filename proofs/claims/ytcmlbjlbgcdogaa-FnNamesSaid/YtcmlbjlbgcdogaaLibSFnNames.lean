/- What the printed functions on rows of strings, names and orders compute. No condition but sizes. -/
import Derived.Test.YtcmlbjlbgcdogaaPCx0
import Derived.Test.YtcmlbjlbgcdogaaPCx2
import Derived.Test.YtcmlbjlbgcdogaaLibNFnNames
import Derived.Test.YtcmlbjlbgcdogaaLibCFnNames
namespace Go.Proofs.Ytcmlbjlbgcdogaa.PC
open Go.RowKit Go.Proofs.YtcmlbjlbgcdogaaW.PrintWords Go.Proofs.YtcmlbjlbgcdogaaW.PrintLast Go.Proofs.YtcmlbjlbgcdogaaW.PrintMore Go.Proofs.Ytcmlbjlbgcdogaa.Base
set_option linter.unusedVariables false
theorem rdS_get {xs : List ByteArray} {i : Nat} (h : i < xs.length) : rdOf ByteArray.empty xs (i : Int) = xs[i] := by
  unfold rdOf
  rw [Int.toNat_natCast, List.getD_eq_getElem?_getD, List.getElem?_eq_getElem h]
  rfl
theorem dropS {xs : List ByteArray} {i : Nat} (h : i < xs.length) : xs.drop i = rdOf ByteArray.empty xs (i : Int) :: xs.drop (i + 1) := by rw [rdS_get h]; exact drop_cons h
/-! ### names that rise -/
def okAt (l : List ByteArray) (i : Nat) : Bool := nameOk (rdOf ByteArray.empty l (i : Int)) && (decide (i = 0) || Op.bytesLess (rdOf ByteArray.empty l ((i - 1 : Nat) : Int)).toList (rdOf ByteArray.empty l (i : Int)).toList)
/-- from place i on, d places. -/
def okFrom (l : List ByteArray) : Nat → Nat → Bool
  | 0, _ => true
  | d + 1, i => okAt l i && okFrom l d (i + 1)
def namesOk (l : List ByteArray) : Bool := okFrom l l.length 0 && decide (l.length ≤ 20)
theorem okFrom_at {l : List ByteArray} : ∀ {d i : Nat}, okFrom l d i = true → ∀ j, i ≤ j → j < i + d → okAt l j = true := by
  intro d
  induction d with
  | zero => intro i _ j h0 h1; omega
  | succ d ih =>
    intro i h j h0 h1
    simp only [okFrom, Bool.and_eq_true] at h
    by_cases e : j = i
    · rw [e]; exact h.1
    · exact ih h.2 j (by omega) (by omega)
theorem sNamesOk_l (l : List ByteArray) (h : l.length ≤ 281474976710656) (hs : ∀ s ∈ l, s.size ≤ 9223372036854775807) : ∀ (d i : Nat), i + d = l.length →
    Ev (fun k => spec_NamesOk.l0 k l (i : Int)) (okFrom l d i && decide (l.length ≤ 20)) := by
  intro d
  induction d with
  | zero =>
    intro i hi
    refine evOne fun k => ?_
    simp only [spec_NamesOk.l0, okFrom]
    rw [if_neg (by omega)]
    simp
    constructor <;> intro h <;> omega
  | succ d ih =>
    intro i hi
    have hlt : i < l.length := by omega
    have hsz : (rdOf ByteArray.empty l (i : Int)).size ≤ 9223372036854775807 := by rw [rdS_get hlt]; exact hs _ (List.getElem_mem hlt)
    have h1 := sNameOk_ev _ hsz
    refine Ev.step (f := fun k => (spec_NameOk.f k (rdOf ByteArray.empty l (i : Int))).bind fun t106 => (if t106 = true then (if (i : Int) > 0 then (if ((Op.bytesLess ((rdOf ByteArray.empty l ((i - 1 : Nat) : Int)).toList) ((rdOf ByteArray.empty l (i : Int)).toList)) = true) then (spec_NamesOk.l0 k l ((i + 1 : Nat) : Int)) else (some false)) else (spec_NamesOk.l0 k l ((i + 1 : Nat) : Int))) else (some false))) (fun k => ?_) (Ev.bind h1 ?_)
    · simp only [spec_NamesOk.l0]
      rw [if_pos (by omega), if_pos (by omega), w64 (x := (i : Int) + 1) (by omega) (by omega)]
      by_cases hi0 : (i : Int) > 0
      · rw [w64 (x := (i : Int) - 1) (by omega) (by omega), if_pos (show 0 ≤ (i : Int) - 1 by omega), if_pos (show (i : Int) - 1 < (l.length : Int) by omega), show (i : Int) - 1 = ((i - 1 : Nat) : Int) by omega]
        rfl
      · simp only [if_neg hi0]
        rfl
    · simp only [okFrom, okAt]
      by_cases hn : nameOk (rdOf ByteArray.empty l (i : Int)) = true
      · refine evPos hn ?_
        by_cases hi0 : (i : Int) > 0
        · refine evPos hi0 ?_
          have hi' : ¬ i = 0 := by omega
          by_cases hb : Op.bytesLess (rdOf ByteArray.empty l ((i - 1 : Nat) : Int)).toList (rdOf ByteArray.empty l (i : Int)).toList = true
          · exact evPos hb (evEq (ih (i + 1) (by omega)) (by simp [hn, hb]))
          · exact evNeg hb (evEq (Ev.now _) (by simp [hb, hi']))
        · have hi' : i = 0 := by omega
          exact evNeg hi0 (evEq (ih (i + 1) (by omega)) (by simp only [hn, decide_eq_true hi', Bool.true_or, Bool.true_and]))
      · exact evNeg hn (evEq (Ev.now _) (by simp [hn]))
theorem sNamesOk_ev (l : List ByteArray) (h : l.length ≤ 281474976710656) (hs : ∀ s ∈ l, s.size ≤ 9223372036854775807) : Ev (fun k => spec_NamesOk.f k l) (namesOk l) := sNamesOk_l l h hs l.length 0 (by omega)
theorem iNamesOk_l (l : List ByteArray) (h : l.length ≤ 281474976710656) (hs : ∀ s ∈ l, s.size ≤ 9223372036854775807) : ∀ (d i : Nat), i + d = l.length →
    Ev (fun k => impl_NamesOk.l0 k l l (l.length : Int) (i : Int)) (okFrom l d i && decide (l.length ≤ 20)) := by
  intro d
  induction d with
  | zero =>
    intro i hi
    refine evOne fun k => ?_
    simp only [impl_NamesOk.l0, okFrom]
    rw [if_neg (by omega)]
    simp
    constructor <;> intro h <;> omega
  | succ d ih =>
    intro i hi
    have hlt : i < l.length := by omega
    have hsz : (rdOf ByteArray.empty l (i : Int)).size ≤ 9223372036854775807 := by rw [rdS_get hlt]; exact hs _ (List.getElem_mem hlt)
    have h1 := iNameOk_ev _ hsz
    refine Ev.step (f := fun k => (impl_NameOk.f k (rdOf ByteArray.empty l (i : Int))).bind fun t106 => (if t106 = true then (if (i : Int) > 0 then (if ((Op.bytesLess ((rdOf ByteArray.empty l ((i - 1 : Nat) : Int)).toList) ((rdOf ByteArray.empty l (i : Int)).toList)) = true) then (impl_NamesOk.l0 k l l (l.length : Int) ((i + 1 : Nat) : Int)) else (some false)) else (impl_NamesOk.l0 k l l (l.length : Int) ((i + 1 : Nat) : Int))) else (some false))) (fun k => ?_) (Ev.bind h1 ?_)
    · simp only [impl_NamesOk.l0]
      rw [if_pos (by omega), if_pos (by omega), if_pos (by omega), w64 (x := (i : Int) + 1) (by omega) (by omega)]
      by_cases hi0 : (i : Int) > 0
      · rw [w64 (x := (i : Int) - 1) (by omega) (by omega), if_pos (show 0 ≤ (i : Int) - 1 by omega), if_pos (show (i : Int) - 1 < (l.length : Int) by omega), show (i : Int) - 1 = ((i - 1 : Nat) : Int) by omega]
        rfl
      · simp only [if_neg hi0]
        rfl
    · simp only [okFrom, okAt]
      by_cases hn : nameOk (rdOf ByteArray.empty l (i : Int)) = true
      · refine evPos hn ?_
        by_cases hi0 : (i : Int) > 0
        · refine evPos hi0 ?_
          have hi' : ¬ i = 0 := by omega
          by_cases hb : Op.bytesLess (rdOf ByteArray.empty l ((i - 1 : Nat) : Int)).toList (rdOf ByteArray.empty l (i : Int)).toList = true
          · exact evPos hb (evEq (ih (i + 1) (by omega)) (by simp [hn, hb]))
          · exact evNeg hb (evEq (Ev.now _) (by simp [hb, hi']))
        · have hi' : i = 0 := by omega
          exact evNeg hi0 (evEq (ih (i + 1) (by omega)) (by simp only [hn, decide_eq_true hi', Bool.true_or, Bool.true_and]))
      · exact evNeg hn (evEq (Ev.now _) (by simp [hn]))
theorem iNamesOk_ev (l : List ByteArray) (h : l.length ≤ 281474976710656) (hs : ∀ s ∈ l, s.size ≤ 9223372036854775807) : Ev (fun k => impl_NamesOk.f k l) (namesOk l) := iNamesOk_l l h hs l.length 0 (by omega)
/-! ### orders -/
def txOk (kind : Int) (fr tt : ByteArray) (am no : Int) : Bool :=
  nameOk fr && (decide (1 ≤ am) && decide (am ≤ 1000000)) && (decide (0 ≤ no) && decide (no ≤ 10000)) && (if kind = 1 then nameOk tt else (decide (2 ≤ kind) && decide (kind ≤ 3)) && (tt.toList == ([] : List UInt8)))
end Go.Proofs.Ytcmlbjlbgcdogaa.PC
