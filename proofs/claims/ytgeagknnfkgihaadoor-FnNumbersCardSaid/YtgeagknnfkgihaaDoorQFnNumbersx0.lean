/- What the functions that FnNumbers reaches compute, and that the machine's calls compute it. Begun as a text of the kit's print. No condition. -/
import Derived.Test.YtgeagknnfkgihaaDoorProg
import Derived.Below
import Derived.Deep.Draws
import Derived.Deep.AppendLies
import Derived.Maps.AppendAt
import Derived.OwnWalk
import Derived.Laws.BytesArg
import Derived.Laws.MakeOwn
import Derived.Laws.OwnMore
import Derived.Deep.OwnRows
import Derived.Tactics
import Derived.Lib.ConvBytes
import Derived.Laws.Slices
import Derived.WalkKit
import Derived.KernelRfl
import Derived.RowKit3
import Derived.Deep.LoopGhost
import Derived.Deep.QuietTactic
import Derived.BigQuiet
import Derived.WideLaws
import Derived.Deep.DeepCutAuto
import Derived.Deep.CutBlock
import Derived.Deep.RegionHeld3
import Derived.Laws.Rows
import Derived.Lib.AppendStr
import Derived.ArgAppend
import Derived.Laws.IdiomCopy
import Derived.OrdersHeld
import Derived.Laws.BitsLemmas
import Derived.RowKit
import Derived.Test.YtgeagknnfkgihaaDoorWWords
import Derived.Test.YtgeagknnfkgihaaDoorWLast
import Derived.Test.YtgeagknnfkgihaaDoorWTab
import Derived.Test.YtgeagknnfkgihaaDoorWFour
import Derived.Test.YtgeagknnfkgihaaDoorWQPut
import Derived.Test.YtgeagknnfkgihaaDoorWApart
import Derived.Test.YtgeagknnfkgihaaDoorWArr
import Derived.Test.YtgeagknnfkgihaaDoorWZeros
import Derived.Test.YtgeagknnfkgihaaDoorWFoot
import Derived.Test.YtgeagknnfkgihaaDoorWKept
import Derived.Test.YtgeagknnfkgihaaDoorWShare
import Derived.Test.YtgeagknnfkgihaaDoorWN
import Derived.Test.YtgeagknnfkgihaaDoorWFootNe
import Derived.Test.YtgeagknnfkgihaaDoorWAt
import Derived.Test.YtgeagknnfkgihaaDoorWEqStruct
import Derived.Test.YtgeagknnfkgihaaDoorWRepsOne
import Derived.Test.YtgeagknnfkgihaaDoorWInv
import Derived.Test.YtgeagknnfkgihaaDoorWInvWords
import Derived.Test.YtgeagknnfkgihaaDoorWGuard
import Derived.Test.YtgeagknnfkgihaaDoorWNEv
import Derived.Test.YtgeagknnfkgihaaDoorWMore
namespace Go.Proofs.YtgeagknnfkgihaaDoor.PFnNumbers
open Go.RowKit Go.Proofs.YtgeagknnfkgihaaDoorW.PrintWords Go.Proofs.YtgeagknnfkgihaaDoorW.PrintLast Go.Proofs.YtgeagknnfkgihaaDoorW.PrintMore
attribute [local go_sem] max2_int min2_int max_two min_two max_three min_three max_four min_four   -- for this text's walks alone
set_option linter.unusedVariables false
set_option linter.unusedSimpArgs false



def errW : Option Int → Value
  | none => .nilIface
  | some c => .iface 57 (.int .i64 c)
theorem errW_none : errW none = .nilIface := rfl
theorem errW_some (c : Int) : errW (some c) = .iface 57 (.int .i64 c) := rfl

theorem info3 : (Tryd.prog.info? 3).map (fun i => (i.zero, i.size, i.bytes)) = some (some (.int .i64 0), 1, 8) := by kernel_rfl
theorem info5 : (Tryd.prog.info? 5).map (fun i => (i.zero, i.size, i.bytes)) = some (some (.int .u8 0), 1, 1) := by kernel_rfl
-- the values' own types

end Go.Proofs.YtgeagknnfkgihaaDoor.PFnNumbers
