/- What the printed functions that compare orders compute. No condition but sizes. -/
import Derived.Test.YtcbpfofkdipjhaaPKx0
import Derived.Test.YtcbpfofkdipjhaaBase
import Derived.Test.YtcbpfofkdipjhaaStr
namespace Go.Proofs.Ytcbpfofkdipjhaa.PK
open Go.RowKit Go.Proofs.YtcbpfofkdipjhaaW.PrintWords Go.Proofs.YtcbpfofkdipjhaaW.PrintLast Go.Proofs.YtcbpfofkdipjhaaW.PrintMore Go.Proofs.Ytcbpfofkdipjhaa.Base
set_option linter.unusedVariables false
theorem tl_inj {a b : ByteArray} : a.toList = b.toList ↔ a = b := by
  constructor
  · intro h
    rw [ByteArray.toList_eq, ByteArray.toList_eq] at h
    cases a; cases b
    simp at h
    rw [h]
  · intro h
    rw [h]
/-! ### which order is less -/
def cmpI (a b : Int) : Int := if a < b then -1 else if b < a then 1 else 0
def cmpS (a b : ByteArray) : Int := if Op.bytesLess a.toList b.toList = true then -1 else if Op.bytesLess b.toList a.toList = true then 1 else 0
def txLess (k1 : Int) (f1 t1 : ByteArray) (a1 n1 k2 : Int) (f2 t2 : ByteArray) (a2 n2 : Int) : Bool :=
  if f1 = f2 then (if n1 = n2 then (if k1 = k2 then (if t1 = t2 then decide (a1 < a2) else Op.bytesLess t1.toList t2.toList) else decide (k1 < k2)) else decide (n1 < n2)) else Op.bytesLess f1.toList f2.toList
theorem bl_irr (a : ByteArray) : Op.bytesLess a.toList a.toList = false := by
  have h := Str.bl_tot a.toList a.toList
  simp at h
  exact h
theorem bl_ne {a b : ByteArray} (h : ¬ a = b) : Op.bytesLess b.toList a.toList = !Op.bytesLess a.toList b.toList := by
  have h1 := Str.bl_tot a.toList b.toList
  have h2 : (a.toList == b.toList) = false := by
    rw [beq_eq_false_iff_ne]
    exact fun e => h (tl_inj.1 e)
  rw [h2, Bool.or_false] at h1
  rw [h1, Bool.not_not]
end Go.Proofs.Ytcbpfofkdipjhaa.PK
