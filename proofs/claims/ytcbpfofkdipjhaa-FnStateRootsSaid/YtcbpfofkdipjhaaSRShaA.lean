/- SHA-256's small words over the machine: rotations, the constants' table, arrays of words in memory. No condition but what each theorem says. -/
import Derived.Test.YtcbpfofkdipjhaaProg
import Derived.Below
import Derived.Deep.Draws
import Derived.Deep.AppendLies
import Derived.Maps.AppendAt
import Derived.OwnWalk
import Derived.Laws.BytesArg
import Derived.Laws.MakeOwn
import Derived.Laws.OwnMore
import Derived.Deep.OwnRows
import Derived.Tactics
import Derived.Lib.ConvBytes
import Derived.Laws.Slices
import Derived.WalkKit
import Derived.KernelRfl
import Derived.RowKit3
import Derived.Deep.LoopGhost
import Derived.Deep.QuietTactic
import Derived.BigQuiet
import Derived.WideLaws
import Derived.Deep.DeepCutAuto
import Derived.Deep.CutBlock
import Derived.Deep.RegionHeld3
import Derived.Laws.Rows
import Derived.Lib.AppendStr
import Derived.ArgAppend
import Derived.Laws.IdiomCopy
import Derived.OrdersHeld
import Derived.Laws.BitsLemmas
import Derived.RowKit
import Derived.Lib.SliceRun
import Derived.Test.YtcbpfofkdipjhaaSRStr
import Derived.Lib.Bytealg
import Derived.Test.YtcbpfofkdipjhaaSRZ
import Derived.BigQuiet
import Derived.Lib.Hide
import Derived.StillTailTactics
import Derived.Lib.Builder
namespace Go.Proofs.Ytcbpfofkdipjhaa.Sha
open Go.RowKit Go.Proofs.YtcbpfofkdipjhaaW.PrintWords Go.Proofs.YtcbpfofkdipjhaaW.PrintLast Go.Proofs.YtcbpfofkdipjhaaW.PrintMore
set_option linter.unusedVariables false
set_option linter.unusedSimpArgs false

/-- x turned right by n of 32 places. -/
def rotr (n : Nat) (x : Int) : Int := Go.bits .or .u32 (IntKind.u32.wrap (x * 2 ^ (32 - n))) (x / 2 ^ n)
set_option maxHeartbeats 8000000 in
theorem rot2 (x : Int) (w : World) : Calls Try.prog 146 #[.int .u32 x, .int .i64 (-2)] w fun e w' => e = .returned (.int .u32 (rotr 2 x)) ∧ w = w' := by
  have e1 : Go.bits .and .u64 (IntKind.u64.wrap (-2)) 31 = 30 := by decide
  have e2 : IntKind.u64.wrap (32 - 30) = 2 := by decide
  go_enter Try.func146, Try.ntmps146
  go_wp2
  go_ret
  exact ⟨rfl, rfl⟩
set_option maxHeartbeats 8000000 in
theorem rot6 (x : Int) (w : World) : Calls Try.prog 146 #[.int .u32 x, .int .i64 (-6)] w fun e w' => e = .returned (.int .u32 (rotr 6 x)) ∧ w = w' := by
  have e1 : Go.bits .and .u64 (IntKind.u64.wrap (-6)) 31 = 26 := by decide
  have e2 : IntKind.u64.wrap (32 - 26) = 6 := by decide
  go_enter Try.func146, Try.ntmps146
  go_wp2
  go_ret
  exact ⟨rfl, rfl⟩
set_option maxHeartbeats 8000000 in
theorem rot7 (x : Int) (w : World) : Calls Try.prog 146 #[.int .u32 x, .int .i64 (-7)] w fun e w' => e = .returned (.int .u32 (rotr 7 x)) ∧ w = w' := by
  have e1 : Go.bits .and .u64 (IntKind.u64.wrap (-7)) 31 = 25 := by decide
  have e2 : IntKind.u64.wrap (32 - 25) = 7 := by decide
  go_enter Try.func146, Try.ntmps146
  go_wp2
  go_ret
  exact ⟨rfl, rfl⟩
set_option maxHeartbeats 8000000 in
theorem rot11 (x : Int) (w : World) : Calls Try.prog 146 #[.int .u32 x, .int .i64 (-11)] w fun e w' => e = .returned (.int .u32 (rotr 11 x)) ∧ w = w' := by
  have e1 : Go.bits .and .u64 (IntKind.u64.wrap (-11)) 31 = 21 := by decide
  have e2 : IntKind.u64.wrap (32 - 21) = 11 := by decide
  go_enter Try.func146, Try.ntmps146
  go_wp2
  go_ret
  exact ⟨rfl, rfl⟩
set_option maxHeartbeats 8000000 in
theorem rot13 (x : Int) (w : World) : Calls Try.prog 146 #[.int .u32 x, .int .i64 (-13)] w fun e w' => e = .returned (.int .u32 (rotr 13 x)) ∧ w = w' := by
  have e1 : Go.bits .and .u64 (IntKind.u64.wrap (-13)) 31 = 19 := by decide
  have e2 : IntKind.u64.wrap (32 - 19) = 13 := by decide
  go_enter Try.func146, Try.ntmps146
  go_wp2
  go_ret
  exact ⟨rfl, rfl⟩
set_option maxHeartbeats 8000000 in
theorem rot17 (x : Int) (w : World) : Calls Try.prog 146 #[.int .u32 x, .int .i64 (-17)] w fun e w' => e = .returned (.int .u32 (rotr 17 x)) ∧ w = w' := by
  have e1 : Go.bits .and .u64 (IntKind.u64.wrap (-17)) 31 = 15 := by decide
  have e2 : IntKind.u64.wrap (32 - 15) = 17 := by decide
  go_enter Try.func146, Try.ntmps146
  go_wp2
  go_ret
  exact ⟨rfl, rfl⟩
set_option maxHeartbeats 8000000 in
theorem rot18 (x : Int) (w : World) : Calls Try.prog 146 #[.int .u32 x, .int .i64 (-18)] w fun e w' => e = .returned (.int .u32 (rotr 18 x)) ∧ w = w' := by
  have e1 : Go.bits .and .u64 (IntKind.u64.wrap (-18)) 31 = 14 := by decide
  have e2 : IntKind.u64.wrap (32 - 14) = 18 := by decide
  go_enter Try.func146, Try.ntmps146
  go_wp2
  go_ret
  exact ⟨rfl, rfl⟩
set_option maxHeartbeats 8000000 in
theorem rot19 (x : Int) (w : World) : Calls Try.prog 146 #[.int .u32 x, .int .i64 (-19)] w fun e w' => e = .returned (.int .u32 (rotr 19 x)) ∧ w = w' := by
  have e1 : Go.bits .and .u64 (IntKind.u64.wrap (-19)) 31 = 13 := by decide
  have e2 : IntKind.u64.wrap (32 - 13) = 19 := by decide
  go_enter Try.func146, Try.ntmps146
  go_wp2
  go_ret
  exact ⟨rfl, rfl⟩
set_option maxHeartbeats 8000000 in
theorem rot22 (x : Int) (w : World) : Calls Try.prog 146 #[.int .u32 x, .int .i64 (-22)] w fun e w' => e = .returned (.int .u32 (rotr 22 x)) ∧ w = w' := by
  have e1 : Go.bits .and .u64 (IntKind.u64.wrap (-22)) 31 = 10 := by decide
  have e2 : IntKind.u64.wrap (32 - 10) = 22 := by decide
  go_enter Try.func146, Try.ntmps146
  go_wp2
  go_ret
  exact ⟨rfl, rfl⟩
set_option maxHeartbeats 8000000 in
theorem rot25 (x : Int) (w : World) : Calls Try.prog 146 #[.int .u32 x, .int .i64 (-25)] w fun e w' => e = .returned (.int .u32 (rotr 25 x)) ∧ w = w' := by
  have e1 : Go.bits .and .u64 (IntKind.u64.wrap (-25)) 31 = 7 := by decide
  have e2 : IntKind.u64.wrap (32 - 7) = 25 := by decide
  go_enter Try.func146, Try.ntmps146
  go_wp2
  go_ret
  exact ⟨rfl, rfl⟩
def kWords : List Int := [1116352408, 1899447441, 3049323471, 3921009573, 961987163, 1508970993, 2453635748, 2870763221, 3624381080, 310598401, 607225278, 1426881987, 1925078388, 2162078206, 2614888103, 3248222580, 3835390401, 4022224774, 264347078, 604807628, 770255983, 1249150122, 1555081692, 1996064986, 2554220882, 2821834349, 2952996808, 3210313671, 3336571891, 3584528711, 113926993, 338241895, 666307205, 773529912, 1294757372, 1396182291, 1695183700, 1986661051, 2177026350, 2456956037, 2730485921, 2820302411, 3259730800, 3345764771, 3516065817, 3600352804, 4094571909, 275423344, 430227734, 506948616, 659060556, 883997877, 958139571, 1322822218, 1537002063, 1747873779, 1955562222, 2024104815, 2227730452, 2361852424, 2428436474, 2756734187, 3204031479, 3329325298]
/-- The array lies in block g, t its type. -/
def ArrAt (g : Nat) (t : TypeId) (l : List Int) (w : World) : Prop := w.heap[g]? = some (.cells (l.map (Value.int .u32)).toArray t (0, 0))
theorem ArrAt.cell {g : Nat} {t : TypeId} {l : List Int} {w : World} (h : ArrAt g t l w) (j : Nat) (hj : j < l.length) : w.cell? ⟨g, j, none⟩ = some (.int .u32 (l.getD j 0)) := by
  rw [Lib.cell_of_heap h]
  simp [List.getD_eq_getElem?_getD, List.getElem?_eq_getElem hj]
theorem ArrAt.fz {g : Nat} {t : TypeId} {l : List Int} {w : World} (h : ArrAt g t l w) (j : Nat) : w.frozen? ⟨g, j, none⟩ = false := Lib.frozen_of_heap h j
theorem ArrAt.put {g : Nat} {t : TypeId} {l : List Int} {w : World} (h : ArrAt g t l w) (j : Nat) (x : Int) : ArrAt g t (l.set j x) (w.setCell ⟨g, j, none⟩ (.int .u32 x)) := by
  unfold ArrAt at h ⊢
  simp [World.setCell, Array.getElem?_modify, h, List.map_set]
theorem ArrAt.drew {g : Nat} {t : TypeId} {l : List Int} {w : World} (h : ArrAt g t l w) : ArrAt g t l w.drew := h
set_option maxHeartbeats 8000000 in
set_option maxRecDepth 100000 in
theorem rounds_calls (w : World) : Calls Try.prog 131 #[] w fun e w' => e = .returned (.pointer (some ⟨w.heap.size, 0, none⟩)) ∧ ArrAt w.heap.size 166 kWords w' ∧ Below w.heap.size w w' ∧ w'.heap.size = w.heap.size + 1 := by
  go_enter Try.func131, Try.ntmps131
  go_wp2
  go_ret
  exact ⟨rfl, heap_alloc_new w _, below_alloc (Below.refl _ _) _, by simp⟩
theorem w64n (x : Int) (n : Nat) (h : x = (n : Int)) (hn : n < 9223372036854775807) : wrap64 x = (n : Int) := by
  subst h
  unfold wrap64
  omega
theorem w64m (x : Int) (n : Nat) (h : x = (n : Int)) (hn : n < 9223372036854775807) : IntKind.i64.wrap x = (n : Int) := by
  rw [IntKind.wrap_i64]
  subst h
  omega
end Go.Proofs.Ytcbpfofkdipjhaa.Sha
