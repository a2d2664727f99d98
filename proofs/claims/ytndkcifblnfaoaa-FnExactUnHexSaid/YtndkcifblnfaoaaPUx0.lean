/- The machine's side of Go functions: each as a plain function, and that the call does what it says. Written by a program (wip/mprint). -/
import Derived.Test.YtndkcifblnfaoaaProg
import Derived.Below
import Derived.Deep.Draws
import Derived.Deep.AppendLies
import Derived.Maps.AppendAt
import Derived.OwnWalk
import Derived.Laws.BytesArg
import Derived.Laws.MakeOwn
import Derived.Laws.OwnMore
import Derived.Deep.OwnRows
import Derived.Tactics
import Derived.Lib.ConvBytes
import Derived.Laws.Slices
import Derived.WalkKit
import Derived.KernelRfl
import Derived.RowKit3
import Derived.Deep.LoopGhost
import Derived.Deep.QuietTactic
import Derived.BigQuiet
import Derived.WideLaws
import Derived.Deep.DeepCutAuto
import Derived.Deep.CutBlock
import Derived.Deep.RegionHeld3
import Derived.Laws.Rows
import Derived.Lib.AppendStr
import Derived.ArgAppend
import Derived.Laws.IdiomCopy
import Derived.OrdersHeld
import Derived.Laws.BitsLemmas
import Derived.RowKit
import Derived.Lib.SliceRun
import Derived.Test.YtndkcifblnfaoaaStr
import Derived.Lib.Bytealg
import Derived.Test.YtndkcifblnfaoaaWWords
import Derived.Test.YtndkcifblnfaoaaWLast
import Derived.Test.YtndkcifblnfaoaaWTab
import Derived.Test.YtndkcifblnfaoaaWFour
import Derived.Test.YtndkcifblnfaoaaWQPut
import Derived.Test.YtndkcifblnfaoaaWApart
import Derived.Test.YtndkcifblnfaoaaWArr
import Derived.Test.YtndkcifblnfaoaaWZeros
import Derived.Test.YtndkcifblnfaoaaWFoot
import Derived.Test.YtndkcifblnfaoaaWKept
import Derived.Test.YtndkcifblnfaoaaWShare
import Derived.Test.YtndkcifblnfaoaaWN
import Derived.Test.YtndkcifblnfaoaaWFootNe
import Derived.Test.YtndkcifblnfaoaaWAt
import Derived.Test.YtndkcifblnfaoaaWEqStruct
import Derived.Test.YtndkcifblnfaoaaWRepsOne
import Derived.Test.YtndkcifblnfaoaaWInv
import Derived.Test.YtndkcifblnfaoaaWInvWords
import Derived.Test.YtndkcifblnfaoaaWGuard
import Derived.Test.YtndkcifblnfaoaaWNEv
import Derived.Test.YtndkcifblnfaoaaWMore
namespace Go.Proofs.Ytndkcifblnfaoaa.PU
open Go.RowKit Go.Proofs.YtndkcifblnfaoaaW.PrintWords Go.Proofs.YtndkcifblnfaoaaW.PrintLast Go.Proofs.YtndkcifblnfaoaaW.PrintMore
attribute [local go_sem] max2_int min2_int max_two min_two max_three min_three max_four min_four   -- for this text's walks alone
set_option linter.unusedVariables false
set_option linter.unusedSimpArgs false



def errW : Option Int → Value
  | none => .nilIface
  | some c => .iface 0 (.int .i64 c)
theorem errW_none : errW none = .nilIface := rfl
theorem errW_some (c : Int) : errW (some c) = .iface 0 (.int .i64 c) := rfl

theorem info5 : (Try.prog.info? 5).map (fun i => (i.zero, i.size, i.bytes)) = some (some (.int .u8 0), 1, 1) := by kernel_rfl
-- the values' own types

end Go.Proofs.Ytndkcifblnfaoaa.PU
