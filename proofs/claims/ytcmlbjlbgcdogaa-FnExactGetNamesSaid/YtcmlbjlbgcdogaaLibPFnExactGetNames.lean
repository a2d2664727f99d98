/- What the printed functions that put and get numbers, texts and names compute. No condition but sizes. -/
import Derived.Test.YtcmlbjlbgcdogaaPHx0
import Derived.Test.YtcmlbjlbgcdogaaPHx2
import Derived.Test.YtcmlbjlbgcdogaaPHx3
import Derived.Test.YtcmlbjlbgcdogaaLibMFnExactGetNames
import Derived.Test.YtcmlbjlbgcdogaaPlain
namespace Go.Proofs.Ytcmlbjlbgcdogaa.PH
open Go.RowKit Go.Proofs.YtcmlbjlbgcdogaaW.PrintWords Go.Proofs.YtcmlbjlbgcdogaaW.PrintLast Go.Proofs.YtcmlbjlbgcdogaaW.PrintMore Go.Proofs.Ytcmlbjlbgcdogaa.Base
set_option linter.unusedVariables false
theorem putT_length (s : ByteArray) : (putT s).length ≤ s.size + 6 := by
  have := putN_length (s.size : Int)
  simp [putT, bytes_length]
  omega
theorem low7 (m : Int) (h0 : 0 ≤ m) (h1 : m < 2 ^ 62) : (Go.bits .or .i64 (Go.bits .and .i64 m 127) 128) % 256 = m % 128 + 128 := by
  rw [and127 m h0 (by omega), or_low 7 (m % 128) 128 (by decide) (by decide) (by decide) (by omega) (by omega) (by omega)]
  omega
theorem low7' (m : Int) (h0 : 0 ≤ m) (h1 : m < 2 ^ 62) : (Go.bits .or .i64 128 (Go.bits .and .i64 m 127)) % 256 = m % 128 + 128 := by
  rw [and127 m h0 (by omega), or_high 7 128 (m % 128) (by decide) (by decide) (by decide) (by omega) (by omega) (by omega)]
  omega
theorem sGetText_ev (b : List Int) (hb : AllB b) (hl : b.length ≤ 281474976710656) (p : Int) : Ev (fun k => spec_GetText.f k b p) (gtext b p) := by
  simp only [spec_GetText.f]
  refine Ev.bind (sGetNum_ev b hb hl p) ?_
  unfold gtext
  by_cases hok : (gnum b p).2.2 = true
  · have hg := gnum_ok b p hok
    refine evPos hok ?_
    have hw : wrap64 ((b.length : Int) - (gnum b p).2.1) = (b.length : Int) - (gnum b p).2.1 := w64 (by omega) (by omega)
    by_cases hneg : (gnum b p).1 < 0
    · refine evPos hneg (evEq (Ev.now _) ?_)
      rw [if_neg (by omega)]
    · refine evNeg hneg ?_
      rw [hw]
      by_cases hbig : (gnum b p).1 > (b.length : Int) - (gnum b p).2.1
      · refine evPos hbig (evEq (Ev.now _) ?_)
        rw [if_neg (by omega)]
      · have hw2 : wrap64 ((gnum b p).2.1 + (gnum b p).1) = (gnum b p).2.1 + (gnum b p).1 := w64 (by omega) (by omega)
        refine evNeg hbig ?_
        rw [hw2]
        refine evPos (by omega) (evPos (by omega) (evPos (by omega) (evEq (Ev.now _) ?_)))
        rw [if_pos ⟨hok, by omega, by omega⟩]
  · refine evNeg hok (evEq (Ev.now _) ?_)
    rw [if_neg (fun h => hok h.1)]
theorem iGetText_ev (b : List Int) (hb : AllB b) (hl : b.length ≤ 281474976710656) (p : Int) (hp64 : -9223372036854775808 ≤ p ∧ p ≤ 9223372036854775807) : Ev (fun k => impl_GetText.f k b p) (gtext b p) := by
  simp only [impl_GetText.f]
  refine Ev.bind (iGetNum_ev b hb hl p hp64) ?_
  unfold gtext
  by_cases hok : (gnum b p).2.2 = true
  · have hg := gnum_ok b p hok
    refine evPos hok ?_
    have hw : wrap64 ((b.length : Int) - (gnum b p).2.1) = (b.length : Int) - (gnum b p).2.1 := w64 (by omega) (by omega)
    by_cases hneg : (gnum b p).1 < 0
    · refine evPos hneg (evEq (Ev.now _) ?_)
      rw [if_neg (by omega)]
    · refine evNeg hneg ?_
      rw [hw]
      by_cases hbig : (gnum b p).1 > (b.length : Int) - (gnum b p).2.1
      · refine evPos hbig (evEq (Ev.now _) ?_)
        rw [if_neg (by omega)]
      · have hw2 : wrap64 ((gnum b p).2.1 + (gnum b p).1) = (gnum b p).2.1 + (gnum b p).1 := w64 (by omega) (by omega)
        refine evNeg hbig ?_
        rw [hw2]
        refine evPos (by omega) (evPos (by omega) (evPos (by omega) (evEq (Ev.now _) ?_)))
        rw [if_pos ⟨hok, by omega, by omega⟩]
  · refine evNeg hok (evEq (Ev.now _) ?_)
    rw [if_neg (fun h => hok h.1)]
def tsum (l : List ByteArray) : Nat := (l.map fun s => s.size + 6).sum
theorem rdSn {xs : List ByteArray} {i : Nat} (h : i < xs.length) : rdOf ByteArray.empty xs (i : Int) = xs[i] := by
  unfold rdOf
  rw [Int.toNat_natCast, List.getD_eq_getElem?_getD, List.getElem?_eq_getElem h]
  rfl
theorem sGetNames_l (b : List Int) (hb : AllB b) (hl : b.length ≤ 281474976710656) (n : Nat) (hn : n ≤ 100) : ∀ (d i : Nat) (p : Int) (acc : List ByteArray), i + d = n → acc.length ≤ i →
    Ev (fun k => spec_GetNames.l0 k b (n : Int) p acc (i : Int)) (gnames b d p acc) := by
  intro d
  induction d with
  | zero =>
    intro i p acc hi ha
    refine evOne fun k => ?_
    simp only [spec_GetNames.l0, gnames]
    rw [if_neg (by omega)]
  | succ d ih =>
    intro i p acc hi ha
    refine Ev.step (f := fun k => (spec_GetText.f k b p).bind fun bt => (if bt.2.2 = true then (if acc.length < 8796093022208 then (spec_GetNames.l0 k b (n : Int) bt.2.1 (acc ++ [bt.1]) ((i + 1 : Nat) : Int)) else none) else (some (([] : List ByteArray), 0, false)))) (fun k => ?_) (Ev.bind (sGetText_ev b hb hl p) ?_)
    · simp only [spec_GetNames.l0]
      rw [if_pos (by omega), w64 (x := (i : Int) + 1) (by omega) (by omega)]
      rfl
    · simp only [gnames]
      by_cases hok : (gtext b p).2.2 = true
      · refine evPos hok (evPos (by omega) (evEq (ih (i + 1) _ _ (by omega) (by simp; omega)) ?_))
        rw [if_pos hok]
      · refine evNeg hok (evEq (Ev.now _) ?_)
        rw [if_neg hok]
theorem sGetNames_ev (b : List Int) (hb : AllB b) (hl : b.length ≤ 281474976710656) (p : Int) : Ev (fun k => spec_GetNames.f k b p) (gnamesOf b p) := by
  simp only [spec_GetNames.f, l1In_eq, Option.bind_some]
  refine Ev.bind (sGetNum_ev b hb hl p) ?_
  unfold gnamesOf
  have j0 : ∀ t, Ev (fun k => spec_GetNames.j0 k b (gnum b p).1 (gnum b p).2.1 t) (if t = true then (([] : List ByteArray), (0 : Int), false) else gnames b (gnum b p).1.toNat (gnum b p).2.1 []) → True := fun _ _ => trivial
  by_cases hok : (gnum b p).2.2 = true
  · refine evPos hok ?_
    by_cases hr : 0 ≤ (gnum b p).1 ∧ (gnum b p).1 ≤ 100
    · rw [if_pos ⟨hok, hr.1, hr.2⟩]
      obtain ⟨n, hn⟩ := Int.eq_ofNat_of_zero_le hr.1
      refine Ev.step (f := fun k => spec_GetNames.l0 k b (gnum b p).1 (gnum b p).2.1 ([] : List ByteArray) 0) (fun k => ?_) ?_
      · simp only [spec_GetNames.j0]
        rw [if_neg (by simp [hr])]
      · rw [hn, Int.toNat_natCast]
        exact sGetNames_l b hb hl n (by omega) n 0 _ [] (by omega) (by simp)
    · rw [if_neg (fun h => hr h.2)]
      refine evOne fun k => ?_
      simp only [spec_GetNames.j0]
      rw [if_pos]
      simp
      omega
  · refine evNeg hok ?_
    rw [if_neg (fun h => hok h.1)]
    refine evOne fun k => ?_
    simp [spec_GetNames.j0]
theorem iGetNames_l (b : List Int) (hb : AllB b) (hl : b.length ≤ 281474976710656) (n : Nat) (hn : n ≤ 100) : ∀ (d i : Nat) (p : Int) (acc : List ByteArray), i + d = n → acc.length ≤ i → (-9223372036854775808 ≤ p ∧ p ≤ 9223372036854775807) →
    Ev (fun k => impl_GetNames.l0 k b p acc (n : Int) (i : Int)) (gnames b d p acc) := by
  intro d
  induction d with
  | zero =>
    intro i p acc hi ha hp
    refine evOne fun k => ?_
    simp only [impl_GetNames.l0, gnames]
    rw [if_neg (by omega)]
  | succ d ih =>
    intro i p acc hi ha hp
    refine Ev.step (f := fun k => (impl_GetText.f k b p).bind fun bt => (if bt.2.2 = true then (if acc.length < 8796093022208 then (impl_GetNames.l0 k b bt.2.1 (acc ++ [bt.1]) (n : Int) ((i + 1 : Nat) : Int)) else none) else (some (([] : List ByteArray), 0, false)))) (fun k => ?_) (Ev.bind (iGetText_ev b hb hl p hp) ?_)
    · simp only [impl_GetNames.l0]
      rw [if_pos (by omega), w64 (x := (i : Int) + 1) (by omega) (by omega)]
      rfl
    · simp only [gnames]
      by_cases hok : (gtext b p).2.2 = true
      · have hg := gtext_ok b p hok
        refine evPos hok (evPos (by omega) (evEq (ih (i + 1) _ _ (by omega) (by simp; omega) (by omega)) ?_))
        rw [if_pos hok]
      · refine evNeg hok (evEq (Ev.now _) ?_)
        rw [if_neg hok]
theorem iGetNames_ev (b : List Int) (hb : AllB b) (hl : b.length ≤ 281474976710656) (p : Int) (hp64 : -9223372036854775808 ≤ p ∧ p ≤ 9223372036854775807) : Ev (fun k => impl_GetNames.f k b p) (gnamesOf b p) := by
  simp only [impl_GetNames.f, inRange_eq, Option.bind_some]
  refine Ev.bind (iGetNum_ev b hb hl p hp64) ?_
  unfold gnamesOf
  by_cases hok : (gnum b p).2.2 = true
  · have hg := gnum_ok b p hok
    refine evPos hok ?_
    by_cases hr : 0 ≤ (gnum b p).1 ∧ (gnum b p).1 ≤ 100
    · rw [if_pos ⟨hok, hr.1, hr.2⟩]
      obtain ⟨n, hn⟩ := Int.eq_ofNat_of_zero_le hr.1
      refine Ev.step (f := fun k => impl_GetNames.l0 k b (gnum b p).2.1 ([] : List ByteArray) (gnum b p).1 0) (fun k => ?_) ?_
      · simp only [impl_GetNames.j0]
        rw [if_neg (by simp [hr])]
      · rw [hn, Int.toNat_natCast]
        exact iGetNames_l b hb hl n (by omega) n 0 _ [] (by omega) (by simp) (by omega)
    · rw [if_neg (fun h => hr h.2)]
      refine evOne fun k => ?_
      simp only [impl_GetNames.j0]
      rw [if_pos]
      simp
      omega
  · refine evNeg hok ?_
    rw [if_neg (fun h => hok h.1)]
    refine evOne fun k => ?_
    simp [impl_GetNames.j0]
/-! ### orders -/
def putX (kind : Int) (fr tt : ByteArray) (am no : Int) : List Int := putN kind ++ (putT fr ++ (putT tt ++ (putN am ++ putN no)))
end Go.Proofs.Ytcmlbjlbgcdogaa.PH
