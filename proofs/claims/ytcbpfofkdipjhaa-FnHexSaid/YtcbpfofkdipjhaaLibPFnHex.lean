/- What the printed functions that put and get numbers, texts and names compute. No condition but sizes. -/
import Derived.Test.YtcbpfofkdipjhaaPKx0
import Derived.Test.YtcbpfofkdipjhaaLibMFnHex
import Derived.Test.YtcbpfofkdipjhaaPlain
namespace Go.Proofs.Ytcbpfofkdipjhaa.PK
open Go.RowKit Go.Proofs.YtcbpfofkdipjhaaW.PrintWords Go.Proofs.YtcbpfofkdipjhaaW.PrintLast Go.Proofs.YtcbpfofkdipjhaaW.PrintMore Go.Proofs.Ytcbpfofkdipjhaa.Base
set_option linter.unusedVariables false
theorem putT_length (s : ByteArray) : (putT s).length ≤ s.size + 6 := by
  have := putN_length (s.size : Int)
  simp [putT, bytes_length]
  omega
theorem low7 (m : Int) (h0 : 0 ≤ m) (h1 : m < 2 ^ 62) : (Go.bits .or .i64 (Go.bits .and .i64 m 127) 128) % 256 = m % 128 + 128 := by
  rw [and127 m h0 (by omega), or_low 7 (m % 128) 128 (by decide) (by decide) (by decide) (by omega) (by omega) (by omega)]
  omega
theorem low7' (m : Int) (h0 : 0 ≤ m) (h1 : m < 2 ^ 62) : (Go.bits .or .i64 128 (Go.bits .and .i64 m 127)) % 256 = m % 128 + 128 := by
  rw [and127 m h0 (by omega), or_high 7 128 (m % 128) (by decide) (by decide) (by decide) (by omega) (by omega) (by omega)]
  omega
def tsum (l : List ByteArray) : Nat := (l.map fun s => s.size + 6).sum
theorem rdSn {xs : List ByteArray} {i : Nat} (h : i < xs.length) : rdOf ByteArray.empty xs (i : Int) = xs[i] := by
  unfold rdOf
  rw [Int.toNat_natCast, List.getD_eq_getElem?_getD, List.getElem?_eq_getElem h]
  rfl
/-! ### orders -/
def putX (kind : Int) (fr tt : ByteArray) (am no : Int) : List Int := putN kind ++ (putT fr ++ (putT tt ++ (putN am ++ putN no)))
end Go.Proofs.Ytcbpfofkdipjhaa.PK
