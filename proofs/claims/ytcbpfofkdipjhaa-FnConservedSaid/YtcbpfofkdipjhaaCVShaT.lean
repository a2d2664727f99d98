/- Trees of digests, plainly: halves, roots, paths, and what comes of a path. No program. -/
import Derived.Test.YtcbpfofkdipjhaaCVShaP
namespace Go.Proofs.Ytcbpfofkdipjhaa.Sha
open Go.RowKit Go.Proofs.YtcbpfofkdipjhaaW.PrintWords Go.Proofs.YtcbpfofkdipjhaaW.PrintMore Go.Proofs.Ytcbpfofkdipjhaa.Base
set_option linter.unusedVariables false
/-- The greatest power of 2 (from k on, doubling) that is less than n. -/
def halfF : Nat → Nat → Nat → Nat
  | 0, _, k => k
  | f + 1, n, k => if 2 * k < n then halfF f n (2 * k) else k
def halfN (n : Nat) : Nat := halfF n n 1
theorem halfF_bd : ∀ (f n k : Nat), 1 ≤ k → k < n → 1 ≤ halfF f n k ∧ halfF f n k < n
  | 0, n, k, h1, h2 => ⟨h1, h2⟩
  | f + 1, n, k, h1, h2 => by
    unfold halfF
    split
    · rename_i h
      exact halfF_bd f n (2 * k) (by omega) h
    · exact ⟨h1, h2⟩
theorem halfN_bd {n : Nat} (h : 2 ≤ n) : 1 ≤ halfN n ∧ halfN n < n := halfF_bd n n 1 (by omega) (by omega)
/-- A list's root. -/
def rootF : Nat → List ByteArray → ByteArray
  | 0, _ => dig []
  | f + 1, l => if l.length = 0 then dig [] else if l.length = 1 then leafD (rdOf ByteArray.empty l 0) else nodeD (rootF f (l.take (halfN l.length))) (rootF f (l.drop (halfN l.length)))
def rootL (l : List ByteArray) : ByteArray := rootF l.length l
theorem rootF_size (f : Nat) (l : List ByteArray) : (rootF f l).size = 32 := by
  cases f with
  | zero => exact dig_size _
  | succ f =>
    unfold rootF
    split
    · exact dig_size _
    · split
      · exact leafD_size _
      · exact nodeD_size _ _
theorem rdSat {xs : List ByteArray} {i : Nat} (h : i < xs.length) : rdOf ByteArray.empty xs (i : Int) = xs[i] := by
  unfold rdOf;simp [h]
end Go.Proofs.Ytcbpfofkdipjhaa.Sha
