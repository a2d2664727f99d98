/- SHA-256 plainly: the same words in 32-bit and in 64-bit arithmetic; lengths and bounds. No program. -/
import Derived.Test.YtcbpfofkdipjhaaCVShaE
import Derived.Test.YtcbpfofkdipjhaaCVBase
namespace Go.Proofs.Ytcbpfofkdipjhaa.Sha
open Go.RowKit Go.Proofs.YtcbpfofkdipjhaaW.PrintWords Go.Proofs.YtcbpfofkdipjhaaW.PrintMore Go.Proofs.Ytcbpfofkdipjhaa.Base
set_option linter.unusedVariables false
def W32 (x : Int) : Prop := 0 ≤ x ∧ x < 4294967296
/-! ### the words of a block -/
def AllW (l : List Int) : Prop := ∀ x ∈ l, W32 x
theorem AllW.getD {l : List Int} (h : AllW l) (i : Nat) : W32 (l.getD i 0) := by
  rw [List.getD_eq_getElem?_getD]
  cases hx : l[i]? with
  | none => exact ⟨by simp, by simp⟩
  | some x => exact h x (List.mem_of_getElem? hx)
theorem AllW.set {l : List Int} (h : AllW l) (i : Nat) {x : Int} (hx : W32 x) : AllW (l.set i x) := fun y hy => (List.mem_or_eq_of_mem_set hy).elim (h y) (fun e => e ▸ hx)
/-! ### a round over the eight words -/
/-- As the reference adds: onto the turned words. -/
def addL (hl v : List Int) : Nat → List Int
  | 0 => v
  | n + 1 => (addL hl v n).set n ((hl.getD n 0 + v.getD n 0) % 4294967296)
theorem addL_len (hl v : List Int) : ∀ n, (addL hl v n).length = v.length
  | 0 => rfl
  | n + 1 => by rw [addL, List.length_set]; exact addL_len hl v n
theorem wordBytes_len (l : List Int) : (wordBytes l).length = 4 * l.length := by
  induction l with
  | nil => rfl
  | cons x l ih =>
    rw [show wordBytes (x :: l) = [x / 16777216 % 256, x / 65536 % 256, x / 256 % 256, x % 256] ++ wordBytes l from rfl, List.length_append, ih, List.length_cons];simp
    omega
theorem strOfNums_size (l : List Int) : (strOfNums l).size = l.length := by
  unfold strOfNums;simp [ByteArray.size]
theorem digL_size (p : List Int) (m : Nat) : (digL p m).size = 32 := by
  rw [digL, strOfNums_size, wordBytes_len, hashed_len]
/-! ### padding -/
def tailB (m : Int) : Nat → List Int
  | 0 => []
  | j + 1 => (shr .i64 m (8 * (j : Int))) % 256 :: tailB m j
theorem tailB_len (m : Int) : ∀ j, (tailB m j).length = j
  | 0 => rfl
  | j + 1 => by rw [tailB, List.length_cons, tailB_len m j]
def padL (b : List Int) : List Int := b ++ [128] ++ List.replicate ((119 - b.length % 64) % 64) 0 ++ tailB (wrap64 ((b.length : Int) * 8)) 8
theorem padL_len (b : List Int) : (padL b).length = 64 * ((padL b).length / 64) ∧ 0 < (padL b).length / 64 ∧ b.length + 9 ≤ (padL b).length ∧ (padL b).length ≤ b.length + 72 := by
  have e : (padL b).length = b.length + 1 + (119 - b.length % 64) % 64 + 8 := by simp [padL, tailB_len]; omega
  rw [e]
  omega
/-- The digest of bytes. -/
def dig (b : List Int) : ByteArray := digL (padL b) ((padL b).length / 64)
theorem dig_size (b : List Int) : (dig b).size = 32 := digL_size _ _
/-- A leaf's digest, a node's digest. -/
def leafD (a : ByteArray) : ByteArray := dig ([0] ++ bytesOf a)
def nodeD (a b : ByteArray) : ByteArray := dig ([1] ++ bytesOf a ++ bytesOf b)
theorem leafD_size (a : ByteArray) : (leafD a).size = 32 := dig_size _
theorem nodeD_size (a b : ByteArray) : (nodeD a b).size = 32 := dig_size _
end Go.Proofs.Ytcbpfofkdipjhaa.Sha
