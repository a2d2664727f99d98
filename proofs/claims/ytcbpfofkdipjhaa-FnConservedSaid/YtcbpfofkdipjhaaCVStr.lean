/- How the walk spells '<=', '>' and '>=' of strings: by '<' alone. No condition. -/
import Derived.Laws.Strings
namespace Go.Proofs.Ytcbpfofkdipjhaa.Str
theorem bl_tot : ∀ a b : List UInt8, (Op.bytesLess a b || a == b) = !(Op.bytesLess b a)
  | [], [] => by simp [Op.bytesLess]
  | [], _ :: _ => by simp [Op.bytesLess]
  | _ :: _, [] => by simp [Op.bytesLess]
  | x :: a, y :: b => by
    have ih := bl_tot a b
    have h1 : decide (x < y) = decide (x.toNat < y.toNat) := by simp [UInt8.lt_iff_toNat_lt]
    have h2 : decide (y < x) = decide (y.toNat < x.toNat) := by simp [UInt8.lt_iff_toNat_lt]
    rcases Nat.lt_trichotomy x.toNat y.toNat with h | h | h
    · have hne : ¬ x = y := fun e => by rw [e] at h; omega
      have hne' : ¬ y = x := fun e => hne e.symm
      simp [Op.bytesLess, h1, h2, h, hne']
      omega
    · obtain rfl : x = y := UInt8.toNat.inj h
      simp only [Op.bytesLess, h1, List.cons_beq_cons, beq_self_eq_true, Bool.true_and];simp [ih]
    · have hne : ¬ x = y := fun e => by rw [e] at h; omega
      have hne' : ¬ y = x := fun e => hne e.symm
      simp [Op.bytesLess, h1, h2, h, hne]
      omega
@[go_sem] theorem str_leq (t : TypeId) (a b : ByteArray) : binOp .leq t (.string a) (.string b) = pure (.bool !(Op.bytesLess b.toList a.toList)) := by
  have := bl_tot a.toList b.toList;simp [binOp, Op.stringOp, this]
@[go_sem] theorem str_gtr (t : TypeId) (a b : ByteArray) : binOp .gtr t (.string a) (.string b) = pure (.bool (Op.bytesLess b.toList a.toList)) := by
  have := bl_tot a.toList b.toList;simp [binOp, Op.stringOp, this]
@[go_sem] theorem str_geq (t : TypeId) (a b : ByteArray) : binOp .geq t (.string a) (.string b) = pure (.bool !(Op.bytesLess a.toList b.toList)) := by simp [binOp, Op.stringOp]
end Go.Proofs.Ytcbpfofkdipjhaa.Str
