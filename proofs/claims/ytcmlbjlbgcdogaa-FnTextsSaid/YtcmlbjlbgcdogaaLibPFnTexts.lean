/- What the printed functions that put and get numbers, texts and names compute. No condition but sizes. -/
import Derived.Test.YtcmlbjlbgcdogaaPGx0
import Derived.Test.YtcmlbjlbgcdogaaPGx1
import Derived.Test.YtcmlbjlbgcdogaaPGx2
import Derived.Test.YtcmlbjlbgcdogaaPGx3
import Derived.Test.YtcmlbjlbgcdogaaLibMFnTexts
import Derived.Test.YtcmlbjlbgcdogaaPlain
namespace Go.Proofs.Ytcmlbjlbgcdogaa.PG
open Go.RowKit Go.Proofs.YtcmlbjlbgcdogaaW.PrintWords Go.Proofs.YtcmlbjlbgcdogaaW.PrintLast Go.Proofs.YtcmlbjlbgcdogaaW.PrintMore Go.Proofs.Ytcmlbjlbgcdogaa.Base
set_option linter.unusedVariables false
theorem putT_length (s : ByteArray) : (putT s).length ≤ s.size + 6 := by
  have := putN_length (s.size : Int)
  simp [putT, bytes_length]
  omega
theorem clone_eq (l : List Int) (h : l.length < 140737488355328) : slices_Clone_byte_byte.f l = some l := by
  unfold slices_Clone_byte_byte.f
  rw [if_pos h]
theorem low7 (m : Int) (h0 : 0 ≤ m) (h1 : m < 2 ^ 62) : (Go.bits .or .i64 (Go.bits .and .i64 m 127) 128) % 256 = m % 128 + 128 := by
  rw [and127 m h0 (by omega), or_low 7 (m % 128) 128 (by decide) (by decide) (by decide) (by omega) (by omega) (by omega)]
  omega
theorem low7' (m : Int) (h0 : 0 ≤ m) (h1 : m < 2 ^ 62) : (Go.bits .or .i64 128 (Go.bits .and .i64 m 127)) % 256 = m % 128 + 128 := by
  rw [and127 m h0 (by omega), or_high 7 128 (m % 128) (by decide) (by decide) (by decide) (by omega) (by omega) (by omega)]
  omega
theorem iputNum_l : ∀ (f : Nat) (x : List Int) (m : Int), 0 ≤ m → m < 128 ^ (f + 1) → f ≤ 5 → x.length + f < 140737488355328 → Ev (fun k => impl_putNum.l0 k x m) (x ++ grp f m) := by
  intro f
  induction f with
  | zero =>
    intro x m h0 h1 hf hl
    have h2 : m < 128 := by simpa using h1
    refine evOne fun k => ?_
    simp only [impl_putNum.l0, grp]
    rw [if_neg (by omega), if_pos (by omega)]
  | succ f ih =>
    intro x m h0 h1 hf hl
    have hpow : (128 : Int) ^ (f + 1 + 1) ≤ 128 ^ 6 := by
      have : f = 0 ∨ f = 1 ∨ f = 2 ∨ f = 3 ∨ f = 4 := by omega
      rcases this with rfl | rfl | rfl | rfl | rfl <;> decide
    have hm62 : m < 2 ^ 62 := by omega
    by_cases hb : m > 127
    · have hq : m / 128 < 128 ^ (f + 1) := by
        have h2 : (128 : Int) ^ (f + 1 + 1) = 128 ^ (f + 1) * 128 := Int.pow_succ _ _
        rw [h2] at h1
        exact Int.ediv_lt_of_lt_mul (by decide) h1
      refine Ev.step (f := fun k => impl_putNum.l0 k (x ++ [m % 128 + 128]) (m / 128)) (fun k => ?_) (evEq (ih (x ++ [m % 128 + 128]) (m / 128) (by omega) hq (by omega) (by simp; omega)) ?_)
      · simp only [impl_putNum.l0]
        rw [if_pos hb, if_pos (by omega), low7' m h0 hm62]
      · simp only [grp]
        rw [if_pos hb]
        simp
    · refine evOne fun k => ?_
      simp only [impl_putNum.l0, grp]
      rw [if_neg hb, if_pos (by omega), if_neg hb]
theorem clamp_mx (n : Int) : mx (-1000000000) (mn n 1000000000) = clampN n := by
  unfold mx mn clampN
  by_cases h1 : 1000000000 < n
  · rw [if_pos h1, if_pos (by omega : n > 1000000000), if_pos (by omega)]
  · rw [if_neg h1, if_neg (by omega : ¬ n > 1000000000)]
    by_cases h2 : n < -1000000000
    · rw [if_pos h2, if_neg (by omega)]
    · rw [if_neg h2]
      by_cases h3 : -1000000000 < n
      · rw [if_pos h3]
      · rw [if_neg h3]; omega
theorem iputNum_ev (b : List Int) (n : Int) (hl : b.length < 140737488355000) : Ev (fun k => impl_putNum.f k b n) (b ++ putN n) := by
  have hr := numM_range n
  have hc := clampN_range n
  have h1 := iputNum_l 5 b (numM n) hr.1 (by omega) (by omega) (by omega)
  have j0 : ∀ m, m = numM n → Ev (fun k => impl_putNum.j0 k b m) (b ++ putN n) := by
    intro m hm
    subst hm
    exact Ev.step (f := fun k => impl_putNum.l0 k b (numM n)) (fun k => by simp only [impl_putNum.j0]) h1
  simp only [impl_putNum.f, clamp_mx]
  by_cases hneg : clampN n < 0
  · refine evPos hneg (j0 _ ?_)
    unfold numM
    rw [if_pos hneg]
  · refine evNeg hneg (j0 _ ?_)
    unfold numM
    rw [if_neg hneg]
theorem iputText_ev (b : List Int) (s : ByteArray) (hl : b.length + s.size < 140737488354000) : Ev (fun k => impl_putText.f k b s) (b ++ putT s) := by
  have hp := putN_length (s.size : Int)
  simp only [impl_putText.f]
  refine Ev.bind (iputNum_ev b s.size (by omega)) (evPos (by simp; omega) (evEq (Ev.now _) (by simp [putT])))
theorem iPutText_ev (b : List Int) (s : ByteArray) (hl : b.length + s.size < 140737488354000) : Ev (fun k => impl_PutText.f k b s) (b ++ putT s) := by
  simp only [impl_PutText.f]
  exact evBindC (clone_eq b (by omega)) (Ev.bind (iputText_ev b s hl) (Ev.now _))
theorem iGetText_ev (b : List Int) (hb : AllB b) (hl : b.length ≤ 281474976710656) (p : Int) (hp64 : -9223372036854775808 ≤ p ∧ p ≤ 9223372036854775807) : Ev (fun k => impl_GetText.f k b p) (gtext b p) := by
  simp only [impl_GetText.f]
  refine Ev.bind (iGetNum_ev b hb hl p hp64) ?_
  unfold gtext
  by_cases hok : (gnum b p).2.2 = true
  · have hg := gnum_ok b p hok
    refine evPos hok ?_
    have hw : wrap64 ((b.length : Int) - (gnum b p).2.1) = (b.length : Int) - (gnum b p).2.1 := w64 (by omega) (by omega)
    by_cases hneg : (gnum b p).1 < 0
    · refine evPos hneg (evEq (Ev.now _) ?_)
      rw [if_neg (by omega)]
    · refine evNeg hneg ?_
      rw [hw]
      by_cases hbig : (gnum b p).1 > (b.length : Int) - (gnum b p).2.1
      · refine evPos hbig (evEq (Ev.now _) ?_)
        rw [if_neg (by omega)]
      · have hw2 : wrap64 ((gnum b p).2.1 + (gnum b p).1) = (gnum b p).2.1 + (gnum b p).1 := w64 (by omega) (by omega)
        refine evNeg hbig ?_
        rw [hw2]
        refine evPos (by omega) (evPos (by omega) (evPos (by omega) (evEq (Ev.now _) ?_)))
        rw [if_pos ⟨hok, by omega, by omega⟩]
  · refine evNeg hok (evEq (Ev.now _) ?_)
    rw [if_neg (fun h => hok h.1)]
def tsum (l : List ByteArray) : Nat := (l.map fun s => s.size + 6).sum
theorem rdSn {xs : List ByteArray} {i : Nat} (h : i < xs.length) : rdOf ByteArray.empty xs (i : Int) = xs[i] := by
  unfold rdOf
  rw [Int.toNat_natCast, List.getD_eq_getElem?_getD, List.getElem?_eq_getElem h]
  rfl
theorem iputNames_l (l : List ByteArray) (hll : l.length ≤ 281474976710656) : ∀ (d i : Nat) (x : List Int), i + d = l.length → x.length + tsum (l.drop i) < 140737488350000 → Ev (fun k => impl_putNames.l0 k x l (l.length : Int) (i : Int)) (x ++ (l.drop i).flatMap putT) := by
  intro d
  induction d with
  | zero =>
    intro i x hi hl
    refine evOne fun k => ?_
    simp only [impl_putNames.l0]
    rw [if_neg (by omega), List.drop_of_length_le (by omega)]
    simp
  | succ d ih =>
    intro i x hi hl
    have hlt : i < l.length := by omega
    rw [drop_cons hlt] at hl ⊢
    have hts : tsum (l[i] :: l.drop (i + 1)) = l[i].size + 6 + tsum (l.drop (i + 1)) := by unfold tsum; rw [List.map_cons, List.sum_cons]
    have hpt := putT_length l[i]
    refine Ev.step (f := fun k => (impl_putText.f k x l[i]).bind fun t => impl_putNames.l0 k t l (l.length : Int) ((i + 1 : Nat) : Int)) (fun k => ?_) (Ev.bind (iputText_ev x l[i] (by omega)) (evEq (ih (i + 1) (x ++ putT l[i]) (by omega) (by simp; omega)) (by simp only [List.flatMap_cons, List.append_assoc])))
    simp only [impl_putNames.l0]
    rw [if_pos (by omega), if_pos (by omega), if_pos (by omega), rdSn hlt, w64 (by omega) (by omega)]
    rfl
theorem iputNames_ev (b : List Int) (l : List ByteArray) (hll : l.length ≤ 281474976710656) (hl : b.length + tsum l < 140737488340000) : Ev (fun k => impl_putNames.f k b l) (b ++ putNs l) := by
  have hp := putN_length (l.length : Int)
  simp only [impl_putNames.f]
  refine Ev.bind (iputNum_ev b l.length (by omega)) (evEq (iputNames_l l hll l.length 0 _ (by omega) (by simp; omega)) (by simp [putNs]))
theorem iPutNames_ev (b : List Int) (l : List ByteArray) (hll : l.length ≤ 281474976710656) (hl : b.length + tsum l < 140737488340000) : Ev (fun k => impl_PutNames.f k b l) (b ++ putNs l) := by
  simp only [impl_PutNames.f]
  exact evBindC (clone_eq b (by omega)) (Ev.bind (iputNames_ev b l hll hl) (Ev.now _))
theorem iGetNames_l (b : List Int) (hb : AllB b) (hl : b.length ≤ 281474976710656) (n : Nat) (hn : n ≤ 100) : ∀ (d i : Nat) (p : Int) (acc : List ByteArray), i + d = n → acc.length ≤ i → (-9223372036854775808 ≤ p ∧ p ≤ 9223372036854775807) →
    Ev (fun k => impl_GetNames.l0 k b p acc (n : Int) (i : Int)) (gnames b d p acc) := by
  intro d
  induction d with
  | zero =>
    intro i p acc hi ha hp
    refine evOne fun k => ?_
    simp only [impl_GetNames.l0, gnames]
    rw [if_neg (by omega)]
  | succ d ih =>
    intro i p acc hi ha hp
    refine Ev.step (f := fun k => (impl_GetText.f k b p).bind fun bt => (if bt.2.2 = true then (if acc.length < 8796093022208 then (impl_GetNames.l0 k b bt.2.1 (acc ++ [bt.1]) (n : Int) ((i + 1 : Nat) : Int)) else none) else (some (([] : List ByteArray), 0, false)))) (fun k => ?_) (Ev.bind (iGetText_ev b hb hl p hp) ?_)
    · simp only [impl_GetNames.l0]
      rw [if_pos (by omega), w64 (x := (i : Int) + 1) (by omega) (by omega)]
      rfl
    · simp only [gnames]
      by_cases hok : (gtext b p).2.2 = true
      · have hg := gtext_ok b p hok
        refine evPos hok (evPos (by omega) (evEq (ih (i + 1) _ _ (by omega) (by simp; omega) (by omega)) ?_))
        rw [if_pos hok]
      · refine evNeg hok (evEq (Ev.now _) ?_)
        rw [if_neg hok]
theorem iGetNames_ev (b : List Int) (hb : AllB b) (hl : b.length ≤ 281474976710656) (p : Int) (hp64 : -9223372036854775808 ≤ p ∧ p ≤ 9223372036854775807) : Ev (fun k => impl_GetNames.f k b p) (gnamesOf b p) := by
  simp only [impl_GetNames.f, inRange_eq, Option.bind_some]
  refine Ev.bind (iGetNum_ev b hb hl p hp64) ?_
  unfold gnamesOf
  by_cases hok : (gnum b p).2.2 = true
  · have hg := gnum_ok b p hok
    refine evPos hok ?_
    by_cases hr : 0 ≤ (gnum b p).1 ∧ (gnum b p).1 ≤ 100
    · rw [if_pos ⟨hok, hr.1, hr.2⟩]
      obtain ⟨n, hn⟩ := Int.eq_ofNat_of_zero_le hr.1
      refine Ev.step (f := fun k => impl_GetNames.l0 k b (gnum b p).2.1 ([] : List ByteArray) (gnum b p).1 0) (fun k => ?_) ?_
      · simp only [impl_GetNames.j0]
        rw [if_neg (by simp [hr])]
      · rw [hn, Int.toNat_natCast]
        exact iGetNames_l b hb hl n (by omega) n 0 _ [] (by omega) (by simp) (by omega)
    · rw [if_neg (fun h => hr h.2)]
      refine evOne fun k => ?_
      simp only [impl_GetNames.j0]
      rw [if_pos]
      simp
      omega
  · refine evNeg hok ?_
    rw [if_neg (fun h => hok h.1)]
    refine evOne fun k => ?_
    simp [impl_GetNames.j0]
/-! ### orders -/
def putX (kind : Int) (fr tt : ByteArray) (am no : Int) : List Int := putN kind ++ (putT fr ++ (putT tt ++ (putN am ++ putN no)))
end Go.Proofs.Ytcmlbjlbgcdogaa.PG
