/- What the functions that FnTurned reaches compute, and that the machine's calls compute it. Begun as a text of the kit's print. No condition. -/
import Derived.Test.YtpmnepbcbjdkoaaProg
import Derived.Below
import Derived.Deep.Draws
import Derived.Deep.AppendLies
import Derived.Maps.AppendAt
import Derived.OwnWalk
import Derived.Laws.BytesArg
import Derived.Laws.MakeOwn
import Derived.Laws.OwnMore
import Derived.Deep.OwnRows
import Derived.Tactics
import Derived.Lib.ConvBytes
import Derived.Laws.Slices
import Derived.WalkKit
import Derived.KernelRfl
import Derived.RowKit3
import Derived.Deep.LoopGhost
import Derived.Deep.QuietTactic
import Derived.BigQuiet
import Derived.WideLaws
import Derived.Deep.DeepCutAuto
import Derived.Deep.CutBlock
import Derived.Deep.RegionHeld3
import Derived.Laws.Rows
import Derived.Lib.AppendStr
import Derived.ArgAppend
import Derived.Laws.IdiomCopy
import Derived.OrdersHeld
import Derived.Laws.BitsLemmas
import Derived.RowKit
import Derived.Test.YtpmnepbcbjdkoaaWWords
import Derived.Test.YtpmnepbcbjdkoaaWLast
import Derived.Test.YtpmnepbcbjdkoaaWTab
import Derived.Test.YtpmnepbcbjdkoaaWFour
import Derived.Test.YtpmnepbcbjdkoaaWQPut
import Derived.Test.YtpmnepbcbjdkoaaWApart
import Derived.Test.YtpmnepbcbjdkoaaWArr
import Derived.Test.YtpmnepbcbjdkoaaWZeros
import Derived.Test.YtpmnepbcbjdkoaaWFoot
import Derived.Test.YtpmnepbcbjdkoaaWKept
import Derived.Test.YtpmnepbcbjdkoaaWShare
import Derived.Test.YtpmnepbcbjdkoaaWN
import Derived.Test.YtpmnepbcbjdkoaaWFootNe
import Derived.Test.YtpmnepbcbjdkoaaWAt
import Derived.Test.YtpmnepbcbjdkoaaWEqStruct
import Derived.Test.YtpmnepbcbjdkoaaWRepsOne
import Derived.Test.YtpmnepbcbjdkoaaWInv
import Derived.Test.YtpmnepbcbjdkoaaWInvWords
import Derived.Test.YtpmnepbcbjdkoaaWGuard
import Derived.Test.YtpmnepbcbjdkoaaWNEv
import Derived.Test.YtpmnepbcbjdkoaaWMore
namespace Go.Proofs.Ytpmnepbcbjdkoaa.PFnTurned
open Go.RowKit Go.Proofs.YtpmnepbcbjdkoaaW.PrintWords Go.Proofs.YtpmnepbcbjdkoaaW.PrintLast Go.Proofs.YtpmnepbcbjdkoaaW.PrintMore
attribute [local go_sem] max2_int min2_int max_two min_two max_three min_three max_four min_four   -- for this text's walks alone
set_option linter.unusedVariables false
set_option linter.unusedSimpArgs false



def errW : Option Int → Value
  | none => .nilIface
  | some c => .iface 0 (.int .i64 c)
theorem errW_none : errW none = .nilIface := rfl
theorem errW_some (c : Int) : errW (some c) = .iface 0 (.int .i64 c) := rfl

theorem info3 : (Try.prog.info? 3).map (fun i => (i.zero, i.size, i.bytes)) = some (some (.int .i64 0), 1, 8) := by kernel_rfl
theorem info5 : (Try.prog.info? 5).map (fun i => (i.zero, i.size, i.bytes)) = some (some (.int .u8 0), 1, 1) := by kernel_rfl
-- the values' own types

end Go.Proofs.Ytpmnepbcbjdkoaa.PFnTurned
