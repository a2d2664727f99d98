/- The plain law of FnExactUnHex: what it computes is always true. -/
import Derived.Test.YtndkcifblnfaoaaPUx0
import Derived.Test.YtndkcifblnfaoaaPUx1
import Derived.Test.YtndkcifblnfaoaaLibDFnExactUnHex
import Derived.Test.YtndkcifblnfaoaaTelU
namespace Go.Proofs.Ytndkcifblnfaoaa.Pure
open Go.RowKit Go.Proofs.YtndkcifblnfaoaaW.PrintWords Go.Proofs.YtndkcifblnfaoaaW.PrintLast Go.Proofs.YtndkcifblnfaoaaW.PrintMore Go.Proofs.Ytndkcifblnfaoaa.Base Go.Proofs.Ytndkcifblnfaoaa.PU
set_option linter.unusedVariables false
def digs : ByteArray := ⟨#[48, 49, 50, 51, 52, 53, 54, 55, 56, 57, 97, 98, 99, 100, 101, 102]⟩
def dg (c : Int) : Int := Lib.indexByte digs.data.toList c.toNat.toUInt8
theorem dg_all : ∀ n : Fin 256, spec_l2Digit.f (n.val : Int) = some (dg (n.val : Int)) ∧ -1 ≤ dg (n.val : Int) ∧ dg (n.val : Int) ≤ 15 := by
  decide +kernel
theorem dg_eq (c : Int) (h0 : 0 ≤ c) (h1 : c ≤ 255) : spec_l2Digit.f c = some (dg c) ∧ -1 ≤ dg c ∧ dg c ≤ 15 := by
  obtain ⟨n, rfl⟩ := Int.eq_ofNat_of_zero_le h0
  exact dg_all ⟨n, by omega⟩
def uh : List Int → List Int → ByteArray × Bool
  | a :: b :: t, acc => if dg a < 0 then (⟨#[]⟩, false) else if dg b < 0 then (⟨#[]⟩, false) else uh t (acc ++ [dg a * 16 + dg b])
  | [_], _ => (⟨#[]⟩, false)
  | [], acc => (strOfNums acc, true)
theorem uh_two (a : ByteArray) (i : Nat) (h : i + 1 < a.size) (acc : List Int) : uh ((bytesOf a).drop i) acc = if dg (bt a (i : Int)) < 0 then (⟨#[]⟩, false) else if dg (bt a ((i + 1 : Nat) : Int)) < 0 then (⟨#[]⟩, false) else uh ((bytesOf a).drop (i + 2)) (acc ++ [dg (bt a (i : Int)) * 16 + dg (bt a ((i + 1 : Nat) : Int))]) := by
  have hl := bytes_length a
  rw [drop_rd (by omega : i < (bytesOf a).length), drop_rd (by omega : i + 1 < (bytesOf a).length), bt_rd, bt_rd]
  rfl
theorem bt_range (a : ByteArray) (i : Nat) (h : i < a.size) : 0 ≤ bt a (i : Int) ∧ bt a (i : Int) ≤ 255 := by
  rw [bt_rd]
  exact (bytes_all a).get i (by rw [bytes_length]; exact h)
theorem sUnHex_l (a : ByteArray) (h : a.size ≤ 1048576) : ∀ (d i : Nat) (x : List Int), i % 2 = 0 → (i + 2 * d = a.size ∨ i + 2 * d + 1 = a.size) → x.length ≤ i → Ev (fun k => spec_UnHex.l0 k a x (i : Int)) (uh ((bytesOf a).drop i) x) := by
  have hl := bytes_length a
  intro d
  induction d with
  | zero =>
    intro i x hev hi hx
    refine evOne fun k => ?_
    simp only [spec_UnHex.l0]
    rw [w64 (x := (i : Int) + 1) (by omega) (by omega), if_neg (by omega)]
    rcases hi with hi | hi
    · rw [List.drop_of_length_le (by omega)]
      rw [if_neg (by omega)]
      rfl
    · rw [drop_rd (by omega : i < (bytesOf a).length), List.drop_of_length_le (by omega)]
      rw [if_pos (by omega)]
      rfl
  | succ d ih =>
    intro i x hev hi hx
    have g1 := bt_range a i (by omega)
    have g2 := bt_range a (i + 1) (by omega)
    obtain ⟨e1, r1, r1'⟩ := dg_eq _ g1.1 g1.2
    obtain ⟨e2, r2, r2'⟩ := dg_eq _ g2.1 g2.2
    rw [uh_two a i (by omega)]
    have hw : wrap64 ((i : Int) + 1) = ((i + 1 : Nat) : Int) := by rw [w64 (by omega) (by omega)]; omega
    have hw2 : wrap64 ((i : Int) + 2) = ((i + 2 : Nat) : Int) := by rw [w64 (by omega) (by omega)]; omega
    generalize dg (bt a (i : Int)) = u at e1 r1 r1' ⊢
    generalize dg (bt a ((i + 1 : Nat) : Int)) = v at e2 r2 r2' ⊢
    have open0 : ∀ k, spec_UnHex.l0 (k + 1) a x (i : Int) = (if u < 0 then (some ((⟨#[]⟩ : ByteArray), false)) else (if v < 0 then (some ((⟨#[]⟩ : ByteArray), false)) else (if x.length < 140737488355328 then (spec_UnHex.l0 k a (x ++ [(wrap64 ((wrap64 (u * 16)) + v)) % 256]) ((i + 2 : Nat) : Int)) else (none)))) := by
      intro k
      simp only [spec_UnHex.l0]
      rw [hw, if_pos (by omega), if_pos (by omega), if_pos (by omega), e1, Option.bind_some, if_pos (by omega), e2, Option.bind_some, hw2]
    by_cases hu : u < 0
    · refine evOne fun k => ?_
      rw [open0, if_pos hu, if_pos hu]
    · by_cases hv : v < 0
      · refine evOne fun k => ?_
        rw [open0, if_neg hu, if_pos hv, if_neg hu, if_pos hv]
      · rw [if_neg hu, if_neg hv]
        refine Ev.step (fun k => ?_) (ih (i + 2) (x ++ [u * 16 + v]) (by omega) (by omega) (by simp; omega))
        rw [open0, if_neg hu, if_neg hv, if_pos (by omega), w64 (x := u * 16) (by omega) (by omega), w64 (by omega) (by omega), show (u * 16 + v) % 256 = u * 16 + v by omega]
theorem iUnHex_l (a : ByteArray) (h : a.size ≤ 1048576) : ∀ (d i : Nat) (x : List Int), i + 2 * d = a.size → x.length ≤ i → Ev (fun k => impl_UnHex.l0 k a x (i : Int)) (uh ((bytesOf a).drop i) x) := by
  have hl := bytes_length a
  intro d
  induction d with
  | zero =>
    intro i x hi hx
    refine evOne fun k => ?_
    simp only [impl_UnHex.l0]
    rw [if_neg (by omega), List.drop_of_length_le (by omega)]
    rfl
  | succ d ih =>
    intro i x hi hx
    have g1 := bt_range a i (by omega)
    have g2 := bt_range a (i + 1) (by omega)
    obtain ⟨_, r1, r1'⟩ := dg_eq _ g1.1 g1.2
    obtain ⟨_, r2, r2'⟩ := dg_eq _ g2.1 g2.2
    rw [uh_two a i (by omega)]
    have e1 : strings_IndexByte.f (⟨#[48, 49, 50, 51, 52, 53, 54, 55, 56, 57, 97, 98, 99, 100, 101, 102]⟩ : ByteArray) (bt a (i : Int)) = some (dg (bt a (i : Int))) := rfl
    have e2 : strings_IndexByte.f (⟨#[48, 49, 50, 51, 52, 53, 54, 55, 56, 57, 97, 98, 99, 100, 101, 102]⟩ : ByteArray) (bt a ((i + 1 : Nat) : Int)) = some (dg (bt a ((i + 1 : Nat) : Int))) := rfl
    have hw : wrap64 ((i : Int) + 1) = ((i + 1 : Nat) : Int) := by rw [w64 (by omega) (by omega)]; omega
    have hw2 : wrap64 ((i : Int) + 2) = ((i + 2 : Nat) : Int) := by rw [w64 (by omega) (by omega)]; omega
    generalize dg (bt a (i : Int)) = u at e1 r1 r1' ⊢
    generalize dg (bt a ((i + 1 : Nat) : Int)) = v at e2 r2 r2' ⊢
    have open0 : ∀ k, impl_UnHex.l0 (k + 1) a x (i : Int) = (if u < 0 then (some ((⟨#[]⟩ : ByteArray), false)) else (if v < 0 then (some ((⟨#[]⟩ : ByteArray), false)) else (if x.length < 140737488355328 then (impl_UnHex.l0 k a (x ++ [(Go.bits .or .i64 (wrap64 (u * 16)) v) % 256]) ((i + 2 : Nat) : Int)) else (none)))) := by
      intro k
      simp only [impl_UnHex.l0]
      rw [if_pos (by omega), if_pos (by omega), e1, Option.bind_some, hw, if_pos (by omega), if_pos (by omega), e2, Option.bind_some, hw2]
    by_cases hu : u < 0
    · refine evOne fun k => ?_
      rw [open0, if_pos hu, if_pos hu]
    · by_cases hv : v < 0
      · refine evOne fun k => ?_
        rw [open0, if_neg hu, if_pos hv, if_neg hu, if_pos hv]
      · rw [if_neg hu, if_neg hv]
        refine Ev.step (fun k => ?_) (ih (i + 2) (x ++ [u * 16 + v]) (by omega) (by simp; omega))
        rw [open0, if_neg hu, if_neg hv, if_pos (by omega), w64 (x := u * 16) (by omega) (by omega), or_high 4 (u * 16) v (by omega) (by omega) (by omega) (by omega) (by omega) (by omega), show (u * 16 + v) % 256 = u * 16 + v by omega]
theorem uh_odd : ∀ (n : Nat) (l acc : List Int), l.length = 2 * n + 1 → uh l acc = (⟨#[]⟩, false) := by
  intro n
  induction n with
  | zero =>
    intro l acc h
    match l, h with
    | [a], _ => rfl
  | succ n ih =>
    intro l acc h
    match l, h with
    | a :: b :: t, h =>
      simp only [uh]
      split
      · rfl
      · split
        · rfl
        · exact ih t _ (by simp at h; omega)
theorem FnExactUnHex : ∀ (a0 : ByteArray), (a0.size ≤ maxLen) → ∃ k, laws_FnExactUnHex.f k a0 = some true := by
  intro a0 hw
  have hl := bytes_length a0
  refine Ev.rounds (g := fun k => laws_FnExactUnHex.f k a0) ?_
  simp only [laws_FnExactUnHex.f]
  by_cases hbig : (a0.size : Int) > 1048576
  · exact evPos hbig (Ev.now _)
  · have hs : Ev (fun k => spec_UnHex.f k a0) (uh (bytesOf a0) []) := by
      have h1 := sUnHex_l a0 (by omega) (a0.size / 2) 0 [] (by omega) (by omega) (by simp)
      rw [List.drop_zero] at h1
      exact h1
    have hi : Ev (fun k => impl_UnHex.f k a0) (uh (bytesOf a0) []) := by
      simp only [impl_UnHex.f]
      by_cases ho : (a0.size : Int) % 2 = 1
      · refine evPos ho (evEq (Ev.now _) ?_)
        rw [uh_odd (a0.size / 2) (bytesOf a0) [] (by omega)]
      · have h1 := iUnHex_l a0 (by omega) (a0.size / 2) 0 [] (by omega) (by simp)
        rw [List.drop_zero] at h1
        exact evNeg ho h1
    exact evNeg hbig (Ev.bind hs (Ev.bind hi (evPos rfl (evNeg (by simp) (Ev.now _)))))
end Go.Proofs.Ytndkcifblnfaoaa.Pure
