/- What the printed functions that put and get numbers, texts and names compute. No condition but sizes. -/
import Derived.Test.YtcbpfofkdipjhaaSRPIx0
import Derived.Test.YtcbpfofkdipjhaaSRPIx3
import Derived.Test.YtcbpfofkdipjhaaSRPIx11
import Derived.Test.YtcbpfofkdipjhaaSRLibMFnStateRoots
import Derived.Test.YtcbpfofkdipjhaaSRPlain
namespace Go.Proofs.Ytcbpfofkdipjhaa.PI
open Go.RowKit Go.Proofs.YtcbpfofkdipjhaaW.PrintWords Go.Proofs.YtcbpfofkdipjhaaW.PrintLast Go.Proofs.YtcbpfofkdipjhaaW.PrintMore Go.Proofs.Ytcbpfofkdipjhaa.Base
set_option linter.unusedVariables false
theorem putT_length (s : ByteArray) : (putT s).length ≤ s.size + 6 := by
  have := putN_length (s.size : Int)
  simp [putT, bytes_length]
  omega
theorem clone_eq (l : List Int) (h : l.length < 140737488355328) : slices_Clone_byte_byte.f l = some l := by
  unfold slices_Clone_byte_byte.f
  rw [if_pos h]
theorem low7 (m : Int) (h0 : 0 ≤ m) (h1 : m < 2 ^ 62) : (Go.bits .or .i64 (Go.bits .and .i64 m 127) 128) % 256 = m % 128 + 128 := by
  rw [and127 m h0 (by omega), or_low 7 (m % 128) 128 (by decide) (by decide) (by decide) (by omega) (by omega) (by omega)]
  omega
theorem low7' (m : Int) (h0 : 0 ≤ m) (h1 : m < 2 ^ 62) : (Go.bits .or .i64 128 (Go.bits .and .i64 m 127)) % 256 = m % 128 + 128 := by
  rw [and127 m h0 (by omega), or_high 7 128 (m % 128) (by decide) (by decide) (by decide) (by omega) (by omega) (by omega)]
  omega
theorem iputNum_l : ∀ (f : Nat) (x : List Int) (m : Int), 0 ≤ m → m < 128 ^ (f + 1) → f ≤ 5 → x.length + f < 140737488355328 → Ev (fun k => impl_putNum.l0 k x m) (x ++ grp f m) := by
  intro f
  induction f with
  | zero =>
    intro x m h0 h1 hf hl
    have h2 : m < 128 := by simpa using h1
    refine evOne fun k => ?_
    simp only [impl_putNum.l0, grp]
    rw [if_neg (by omega), if_pos (by omega)]
  | succ f ih =>
    intro x m h0 h1 hf hl
    have hpow : (128 : Int) ^ (f + 1 + 1) ≤ 128 ^ 6 := by
      have : f = 0 ∨ f = 1 ∨ f = 2 ∨ f = 3 ∨ f = 4 := by omega
      rcases this with rfl | rfl | rfl | rfl | rfl <;> decide
    have hm62 : m < 2 ^ 62 := by omega
    by_cases hb : m > 127
    · have hq : m / 128 < 128 ^ (f + 1) := by
        have h2 : (128 : Int) ^ (f + 1 + 1) = 128 ^ (f + 1) * 128 := Int.pow_succ _ _
        rw [h2] at h1
        exact Int.ediv_lt_of_lt_mul (by decide) h1
      refine Ev.step (f := fun k => impl_putNum.l0 k (x ++ [m % 128 + 128]) (m / 128)) (fun k => ?_) (evEq (ih (x ++ [m % 128 + 128]) (m / 128) (by omega) hq (by omega) (by simp; omega)) ?_)
      · simp only [impl_putNum.l0]
        rw [if_pos hb, if_pos (by omega), low7' m h0 hm62]
      · simp only [grp]
        rw [if_pos hb]
        simp
    · refine evOne fun k => ?_
      simp only [impl_putNum.l0, grp]
      rw [if_neg hb, if_pos (by omega), if_neg hb]
theorem clamp_mx (n : Int) : mx (-1000000000) (mn n 1000000000) = clampN n := by
  unfold mx mn clampN
  by_cases h1 : 1000000000 < n
  · rw [if_pos h1, if_pos (by omega : n > 1000000000), if_pos (by omega)]
  · rw [if_neg h1, if_neg (by omega : ¬ n > 1000000000)]
    by_cases h2 : n < -1000000000
    · rw [if_pos h2, if_neg (by omega)]
    · rw [if_neg h2]
      by_cases h3 : -1000000000 < n
      · rw [if_pos h3]
      · rw [if_neg h3]; omega
theorem iputNum_ev (b : List Int) (n : Int) (hl : b.length < 140737488355000) : Ev (fun k => impl_putNum.f k b n) (b ++ putN n) := by
  have hr := numM_range n
  have hc := clampN_range n
  have h1 := iputNum_l 5 b (numM n) hr.1 (by omega) (by omega) (by omega)
  have j0 : ∀ m, m = numM n → Ev (fun k => impl_putNum.j0 k b m) (b ++ putN n) := by
    intro m hm
    subst hm
    exact Ev.step (f := fun k => impl_putNum.l0 k b (numM n)) (fun k => by simp only [impl_putNum.j0]) h1
  simp only [impl_putNum.f, clamp_mx]
  by_cases hneg : clampN n < 0
  · refine evPos hneg (j0 _ ?_)
    unfold numM
    rw [if_pos hneg]
  · refine evNeg hneg (j0 _ ?_)
    unfold numM
    rw [if_neg hneg]
theorem iPutNum_ev (b : List Int) (n : Int) (hl : b.length < 140737488355000) : Ev (fun k => impl_PutNum.f k b n) (b ++ putN n) := by
  simp only [impl_PutNum.f]
  exact evBindC (clone_eq b (by omega)) (Ev.bind (iputNum_ev b n hl) (Ev.now _))
theorem iputText_ev (b : List Int) (s : ByteArray) (hl : b.length + s.size < 140737488354000) : Ev (fun k => impl_putText.f k b s) (b ++ putT s) := by
  have hp := putN_length (s.size : Int)
  simp only [impl_putText.f]
  refine Ev.bind (iputNum_ev b s.size (by omega)) (evPos (by simp; omega) (evEq (Ev.now _) (by simp [putT])))
theorem iPutText_ev (b : List Int) (s : ByteArray) (hl : b.length + s.size < 140737488354000) : Ev (fun k => impl_PutText.f k b s) (b ++ putT s) := by
  simp only [impl_PutText.f]
  exact evBindC (clone_eq b (by omega)) (Ev.bind (iputText_ev b s hl) (Ev.now _))
def tsum (l : List ByteArray) : Nat := (l.map fun s => s.size + 6).sum
theorem rdSn {xs : List ByteArray} {i : Nat} (h : i < xs.length) : rdOf ByteArray.empty xs (i : Int) = xs[i] := by
  unfold rdOf
  rw [Int.toNat_natCast, List.getD_eq_getElem?_getD, List.getElem?_eq_getElem h]
  rfl
/-! ### orders -/
def putX (kind : Int) (fr tt : ByteArray) (am no : Int) : List Int := putN kind ++ (putT fr ++ (putT tt ++ (putN am ++ putN no)))
end Go.Proofs.Ytcbpfofkdipjhaa.PI
