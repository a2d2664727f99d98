/- The machine's side of Go functions: each as a plain function, and that the call does what it says. Written by a program (wip/mprint). -/
import Derived.Test.YtcmlbjlbgcdogaaProg
import Derived.Below
import Derived.Deep.Draws
import Derived.Deep.AppendLies
import Derived.Maps.AppendAt
import Derived.OwnWalk
import Derived.Laws.BytesArg
import Derived.Laws.MakeOwn
import Derived.Laws.OwnMore
import Derived.Deep.OwnRows
import Derived.Tactics
import Derived.Lib.ConvBytes
import Derived.Laws.Slices
import Derived.WalkKit
import Derived.KernelRfl
import Derived.RowKit3
import Derived.Deep.LoopGhost
import Derived.Deep.QuietTactic
import Derived.BigQuiet
import Derived.WideLaws
import Derived.Deep.DeepCutAuto
import Derived.Deep.CutBlock
import Derived.Deep.RegionHeld3
import Derived.Laws.Rows
import Derived.Lib.AppendStr
import Derived.ArgAppend
import Derived.Laws.IdiomCopy
import Derived.OrdersHeld
import Derived.Laws.BitsLemmas
import Derived.RowKit
import Derived.Lib.SliceRun
import Derived.Test.YtcmlbjlbgcdogaaStr
import Derived.Lib.Bytealg
import Derived.Test.YtcmlbjlbgcdogaaWWords
import Derived.Test.YtcmlbjlbgcdogaaWLast
import Derived.Test.YtcmlbjlbgcdogaaWTab
import Derived.Test.YtcmlbjlbgcdogaaWFour
import Derived.Test.YtcmlbjlbgcdogaaWQPut
import Derived.Test.YtcmlbjlbgcdogaaWApart
import Derived.Test.YtcmlbjlbgcdogaaWArr
import Derived.Test.YtcmlbjlbgcdogaaWZeros
import Derived.Test.YtcmlbjlbgcdogaaWFoot
import Derived.Test.YtcmlbjlbgcdogaaWKept
import Derived.Test.YtcmlbjlbgcdogaaWShare
import Derived.Test.YtcmlbjlbgcdogaaWN
import Derived.Test.YtcmlbjlbgcdogaaWFootNe
import Derived.Test.YtcmlbjlbgcdogaaWAt
import Derived.Test.YtcmlbjlbgcdogaaWEqStruct
import Derived.Test.YtcmlbjlbgcdogaaWRepsOne
import Derived.Test.YtcmlbjlbgcdogaaWInv
import Derived.Test.YtcmlbjlbgcdogaaWInvWords
import Derived.Test.YtcmlbjlbgcdogaaWGuard
import Derived.Test.YtcmlbjlbgcdogaaWNEv
import Derived.Test.YtcmlbjlbgcdogaaWMore
namespace Go.Proofs.Ytcmlbjlbgcdogaa.PE
open Go.RowKit Go.Proofs.YtcmlbjlbgcdogaaW.PrintWords Go.Proofs.YtcmlbjlbgcdogaaW.PrintLast Go.Proofs.YtcmlbjlbgcdogaaW.PrintMore
attribute [local go_sem] max2_int min2_int max_two min_two max_three min_three max_four min_four   -- for this text's walks alone
set_option linter.unusedVariables false
set_option linter.unusedSimpArgs false



def errW : Option Int → Value
  | none => .nilIface
  | some c => .iface 0 (.int .i64 c)
theorem errW_none : errW none = .nilIface := rfl
theorem errW_some (c : Int) : errW (some c) = .iface 0 (.int .i64 c) := rfl

theorem info3 : (Try.prog.info? 3).map (fun i => (i.zero, i.size, i.bytes)) = some (some (.int .i64 0), 1, 8) := by kernel_rfl
theorem info9 : (Try.prog.info? 9).map (fun i => (i.zero, i.size, i.bytes)) = some (some (.string ⟨#[]⟩), 1, 16) := by kernel_rfl
-- the values' own types

end Go.Proofs.Ytcmlbjlbgcdogaa.PE
