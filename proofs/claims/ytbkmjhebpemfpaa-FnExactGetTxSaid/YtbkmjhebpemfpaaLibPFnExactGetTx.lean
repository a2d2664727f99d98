/- What the printed functions that put and get numbers, texts and names compute. No condition but sizes. -/
import Derived.Test.YtbkmjhebpemfpaaPEx0
import Derived.Test.YtbkmjhebpemfpaaPEx1
import Derived.Test.YtbkmjhebpemfpaaPEx4
import Derived.Test.YtbkmjhebpemfpaaLibMFnExactGetTx
import Derived.Test.YtbkmjhebpemfpaaPlain
namespace Go.Proofs.Ytbkmjhebpemfpaa.PE
open Go.RowKit Go.Proofs.YtbkmjhebpemfpaaW.PrintWords Go.Proofs.YtbkmjhebpemfpaaW.PrintLast Go.Proofs.YtbkmjhebpemfpaaW.PrintMore Go.Proofs.Ytbkmjhebpemfpaa.Base
set_option linter.unusedVariables false
theorem putT_length (s : ByteArray) : (putT s).length ≤ s.size + 6 := by
  have := putN_length (s.size : Int)
  simp [putT, bytes_length]
  omega
theorem low7 (m : Int) (h0 : 0 ≤ m) (h1 : m < 2 ^ 62) : (Go.bits .or .i64 (Go.bits .and .i64 m 127) 128) % 256 = m % 128 + 128 := by
  rw [and127 m h0 (by omega), or_low 7 (m % 128) 128 (by decide) (by decide) (by decide) (by omega) (by omega) (by omega)]
  omega
theorem low7' (m : Int) (h0 : 0 ≤ m) (h1 : m < 2 ^ 62) : (Go.bits .or .i64 128 (Go.bits .and .i64 m 127)) % 256 = m % 128 + 128 := by
  rw [and127 m h0 (by omega), or_high 7 128 (m % 128) (by decide) (by decide) (by decide) (by omega) (by omega) (by omega)]
  omega
theorem sGetText_ev (b : List Int) (hb : AllB b) (hl : b.length ≤ 281474976710656) (p : Int) : Ev (fun k => spec_GetText.f k b p) (gtext b p) := by
  simp only [spec_GetText.f]
  refine Ev.bind (sGetNum_ev b hb hl p) ?_
  unfold gtext
  by_cases hok : (gnum b p).2.2 = true
  · have hg := gnum_ok b p hok
    refine evPos hok ?_
    have hw : wrap64 ((b.length : Int) - (gnum b p).2.1) = (b.length : Int) - (gnum b p).2.1 := w64 (by omega) (by omega)
    by_cases hneg : (gnum b p).1 < 0
    · refine evPos hneg (evEq (Ev.now _) ?_)
      rw [if_neg (by omega)]
    · refine evNeg hneg ?_
      rw [hw]
      by_cases hbig : (gnum b p).1 > (b.length : Int) - (gnum b p).2.1
      · refine evPos hbig (evEq (Ev.now _) ?_)
        rw [if_neg (by omega)]
      · have hw2 : wrap64 ((gnum b p).2.1 + (gnum b p).1) = (gnum b p).2.1 + (gnum b p).1 := w64 (by omega) (by omega)
        refine evNeg hbig ?_
        rw [hw2]
        refine evPos (by omega) (evPos (by omega) (evPos (by omega) (evEq (Ev.now _) ?_)))
        rw [if_pos ⟨hok, by omega, by omega⟩]
  · refine evNeg hok (evEq (Ev.now _) ?_)
    rw [if_neg (fun h => hok h.1)]
theorem iGetText_ev (b : List Int) (hb : AllB b) (hl : b.length ≤ 281474976710656) (p : Int) (hp64 : -9223372036854775808 ≤ p ∧ p ≤ 9223372036854775807) : Ev (fun k => impl_GetText.f k b p) (gtext b p) := by
  simp only [impl_GetText.f]
  refine Ev.bind (iGetNum_ev b hb hl p hp64) ?_
  unfold gtext
  by_cases hok : (gnum b p).2.2 = true
  · have hg := gnum_ok b p hok
    refine evPos hok ?_
    have hw : wrap64 ((b.length : Int) - (gnum b p).2.1) = (b.length : Int) - (gnum b p).2.1 := w64 (by omega) (by omega)
    by_cases hneg : (gnum b p).1 < 0
    · refine evPos hneg (evEq (Ev.now _) ?_)
      rw [if_neg (by omega)]
    · refine evNeg hneg ?_
      rw [hw]
      by_cases hbig : (gnum b p).1 > (b.length : Int) - (gnum b p).2.1
      · refine evPos hbig (evEq (Ev.now _) ?_)
        rw [if_neg (by omega)]
      · have hw2 : wrap64 ((gnum b p).2.1 + (gnum b p).1) = (gnum b p).2.1 + (gnum b p).1 := w64 (by omega) (by omega)
        refine evNeg hbig ?_
        rw [hw2]
        refine evPos (by omega) (evPos (by omega) (evPos (by omega) (evEq (Ev.now _) ?_)))
        rw [if_pos ⟨hok, by omega, by omega⟩]
  · refine evNeg hok (evEq (Ev.now _) ?_)
    rw [if_neg (fun h => hok h.1)]
def tsum (l : List ByteArray) : Nat := (l.map fun s => s.size + 6).sum
theorem rdSn {xs : List ByteArray} {i : Nat} (h : i < xs.length) : rdOf ByteArray.empty xs (i : Int) = xs[i] := by
  unfold rdOf
  rw [Int.toNat_natCast, List.getD_eq_getElem?_getD, List.getElem?_eq_getElem h]
  rfl
/-! ### orders -/
def putX (kind : Int) (fr tt : ByteArray) (am no : Int) : List Int := putN kind ++ (putT fr ++ (putT tt ++ (putN am ++ putN no)))
end Go.Proofs.Ytbkmjhebpemfpaa.PE
