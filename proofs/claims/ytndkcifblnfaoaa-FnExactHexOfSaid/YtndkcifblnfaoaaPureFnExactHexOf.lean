/- The plain law of FnExactHexOf: what it computes is always true. -/
import Derived.Test.YtndkcifblnfaoaaPHx0
import Derived.Test.YtndkcifblnfaoaaPHx1
import Derived.Test.YtndkcifblnfaoaaLibDFnExactHexOf
import Derived.Test.YtndkcifblnfaoaaTelH
namespace Go.Proofs.Ytndkcifblnfaoaa.Pure
open Go.RowKit Go.Proofs.YtndkcifblnfaoaaW.PrintWords Go.Proofs.YtndkcifblnfaoaaW.PrintLast Go.Proofs.YtndkcifblnfaoaaW.PrintMore Go.Proofs.Ytndkcifblnfaoaa.Base Go.Proofs.Ytndkcifblnfaoaa.PH
set_option linter.unusedVariables false
def nI (l : List UInt8) : List Int := l.map fun u => (u.toNat : Int)
theorem str_nI (l : List UInt8) : strOfNums (nI l) = ⟨l.toArray⟩ := by
  have h : nI l = bytesOf (⟨l.toArray⟩ : ByteArray) := by simp [nI, bytesOf]
  rw [h, str_bytes]
theorem hex_step : ∀ n : Fin 256, 0 ≤ (n.val : Int) / 16 ∧ (n.val : Int) / 16 < 16 ∧ 0 ≤ Go.bits .and .u8 (n.val : Int) 15 ∧ Go.bits .and .u8 (n.val : Int) 15 < 16 ∧
    [bt (⟨#[48, 49, 50, 51, 52, 53, 54, 55, 56, 57, 97, 98, 99, 100, 101, 102]⟩ : ByteArray) ((n.val : Int) / 16), bt (⟨#[48, 49, 50, 51, 52, 53, 54, 55, 56, 57, 97, 98, 99, 100, 101, 102]⟩ : ByteArray) (Go.bits .and .u8 (n.val : Int) 15)] = nI [hexDigits.data.getD (n.val / 16) 0, hexDigits.data.getD (n.val % 16) 0] := by
  decide +kernel
theorem sHexOf_l (a : ByteArray) (h : a.size ≤ 1048576) : ∀ (d i : Nat) (x : List Int), i + d = a.size → x.length = 2 * i → Ev (fun k => spec_HexOf.l0 k a x (i : Int)) (strOfNums (x ++ nI (hexOfL (a.data.toList.drop i)))) := by
  have hsz : a.data.toList.length = a.size := Array.length_toList
  intro d
  induction d with
  | zero =>
    intro i x hi hl
    refine evOne fun k => ?_
    simp only [spec_HexOf.l0]
    rw [if_neg (by omega), List.drop_of_length_le (by omega)]
    simp [hexOfL, nI]
  | succ d ih =>
    intro i x hi hl
    have hlt : i < a.data.toList.length := by omega
    have hb : bt a (i : Int) = ((a.data.toList[i].toNat : Nat) : Int) := by
      rw [bt_rd, rd_get (by rw [bytes_length]; omega)]
      simp [bytesOf]
    obtain ⟨s1, s2, s3, s4, s5⟩ := hex_step ⟨a.data.toList[i].toNat, a.data.toList[i].toNat_lt⟩
    dsimp only at s1 s2 s3 s4 s5
    rw [← hb] at s1 s2 s3 s4 s5
    have h1 := ih (i + 1) (x ++ nI [hexDigits.data.getD (a.data.toList[i].toNat / 16) 0, hexDigits.data.getD (a.data.toList[i].toNat % 16) 0]) (by omega) (by simp [nI]; omega)
    refine Ev.step (f := fun k => spec_HexOf.l0 k a (x ++ nI [hexDigits.data.getD (a.data.toList[i].toNat / 16) 0, hexDigits.data.getD (a.data.toList[i].toNat % 16) 0]) ((i + 1 : Nat) : Int)) (fun k => ?_) (evEq h1 ?_)
    · simp only [spec_HexOf.l0]
      rw [if_pos (by omega), if_pos (by omega), if_pos s1, if_pos s2, if_pos s3, if_pos s4, s5, Option.bind_some, if_pos (by simp [nI]; omega), w64 (by omega) (by omega)]
      rfl
    · congr 1
      rw [List.append_assoc]
      congr 1
      rw [drop_cons hlt]
      simp [hexOfL, nI]
theorem FnExactHexOf : ∀ (a0 : ByteArray), (a0.size ≤ maxLen) → ∃ k, laws_FnExactHexOf.f k a0 = some true := by
  intro a0 hw
  refine Ev.rounds (g := fun k => laws_FnExactHexOf.f k a0) ?_
  simp only [laws_FnExactHexOf.f]
  by_cases hbig : (a0.size : Int) > 1048576
  · exact evPos hbig (Ev.now _)
  · have hs : Ev (fun k => spec_HexOf.f k a0) (⟨(hexOfL a0.data.toList).toArray⟩ : ByteArray) := by
      have h1 := sHexOf_l a0 (by omega) a0.size 0 [] (by omega) rfl
      rw [List.nil_append, List.drop_zero, str_nI] at h1
      exact h1
    have hi : impl_HexOf.f a0 = some (⟨(hexOfL a0.data.toList).toArray⟩ : ByteArray) := by
      unfold impl_HexOf.f
      rw [if_pos (by omega)]
    exact evNeg hbig (Ev.bind hs (evBindC hi (evPos rfl (Ev.now _))))
end Go.Proofs.Ytndkcifblnfaoaa.Pure
