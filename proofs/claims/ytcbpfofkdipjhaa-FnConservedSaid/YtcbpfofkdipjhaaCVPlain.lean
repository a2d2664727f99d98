/- Plain laws of numbers, texts and names as bytes: what was put comes back. No condition but sizes; no program. -/
import Derived.Test.YtcbpfofkdipjhaaCVBase
namespace Go.Proofs.Ytcbpfofkdipjhaa.Base
open Go.RowKit Go.Proofs.YtcbpfofkdipjhaaW.PrintWords Go.Proofs.YtcbpfofkdipjhaaW.PrintMore
set_option linter.unusedVariables false
/-! ### numbers put -/
def grp : Nat → Int → List Int
  | 0, m => [m % 256]
  | f + 1, m => if m > 127 then (m % 128 + 128) :: grp f (m / 128) else [m % 256]
def clampN (n : Int) : Int := if n > 1000000000 then 1000000000 else if n < -1000000000 then -1000000000 else n
def numM (n : Int) : Int := if clampN n < 0 then -2 * clampN n - 1 else 2 * clampN n
def putN (n : Int) : List Int := grp 5 (numM n)
theorem clampN_range (n : Int) : -1000000000 ≤ clampN n ∧ clampN n ≤ 1000000000 := by
  unfold clampN
  split
  · omega
  · split <;> omega
theorem numM_range (n : Int) : 0 ≤ numM n ∧ numM n ≤ 2000000000 := by
  have := clampN_range n;unfold numM
  split <;> omega
theorem grp_length : ∀ (f : Nat) (m : Int), 1 ≤ (grp f m).length ∧ (grp f m).length ≤ f + 1
  | 0, m => by simp [grp]
  | f + 1, m => by
    have := grp_length f (m / 128);simp only [grp]
    split
    · simp; omega
    · simp
theorem putN_length (n : Int) : 1 ≤ (putN n).length ∧ (putN n).length ≤ 6 := grp_length 5 _
theorem AllB.append {a b : List Int} (h : AllB a) (k : AllB b) : AllB (a ++ b) := by
  intro x hx
  rcases List.mem_append.1 hx with hx | hx
  · exact h x hx
  · exact k x hx
/-! ### what a number read tells -/
/-! ### texts -/
def putT (s : ByteArray) : List Int := putN (s.size : Int) ++ bytesOf s
/-! ### names -/
end Go.Proofs.Ytcbpfofkdipjhaa.Base
