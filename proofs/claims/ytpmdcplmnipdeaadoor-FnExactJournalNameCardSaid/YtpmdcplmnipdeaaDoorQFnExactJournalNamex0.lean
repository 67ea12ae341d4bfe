/- What the functions that FnExactJournalName reaches compute, and that the machine's calls compute it. Begun as a text of the kit's print. No condition. -/
import Derived.Test.YtpmdcplmnipdeaaDoorProg
import Derived.Below
import Derived.Deep.Draws
import Derived.Deep.AppendLies
import Derived.Maps.AppendAt
import Derived.OwnWalk
import Derived.Laws.BytesArg
import Derived.Laws.MakeOwn
import Derived.Laws.OwnMore
import Derived.Deep.OwnRows
import Derived.Tactics
import Derived.Lib.ConvBytes
import Derived.Laws.Slices
import Derived.WalkKit
import Derived.KernelRfl
import Derived.RowKit3
import Derived.Deep.LoopGhost
import Derived.Deep.QuietTactic
import Derived.BigQuiet
import Derived.WideLaws
import Derived.Deep.DeepCutAuto
import Derived.Deep.CutBlock
import Derived.Deep.RegionHeld3
import Derived.Laws.Rows
import Derived.Lib.AppendStr
import Derived.ArgAppend
import Derived.Laws.IdiomCopy
import Derived.OrdersHeld
import Derived.Laws.BitsLemmas
import Derived.RowKit
import Derived.Test.YtpmdcplmnipdeaaDoorWWords
import Derived.Test.YtpmdcplmnipdeaaDoorWLast
import Derived.Test.YtpmdcplmnipdeaaDoorWTab
import Derived.Test.YtpmdcplmnipdeaaDoorWFour
import Derived.Test.YtpmdcplmnipdeaaDoorWQPut
import Derived.Test.YtpmdcplmnipdeaaDoorWApart
import Derived.Test.YtpmdcplmnipdeaaDoorWArr
import Derived.Test.YtpmdcplmnipdeaaDoorWZeros
import Derived.Test.YtpmdcplmnipdeaaDoorWFoot
import Derived.Test.YtpmdcplmnipdeaaDoorWKept
import Derived.Test.YtpmdcplmnipdeaaDoorWShare
import Derived.Test.YtpmdcplmnipdeaaDoorWN
import Derived.Test.YtpmdcplmnipdeaaDoorWFootNe
import Derived.Test.YtpmdcplmnipdeaaDoorWAt
import Derived.Test.YtpmdcplmnipdeaaDoorWEqStruct
import Derived.Test.YtpmdcplmnipdeaaDoorWRepsOne
import Derived.Test.YtpmdcplmnipdeaaDoorWInv
import Derived.Test.YtpmdcplmnipdeaaDoorWInvWords
import Derived.Test.YtpmdcplmnipdeaaDoorWGuard
import Derived.Test.YtpmdcplmnipdeaaDoorWNEv
import Derived.Test.YtpmdcplmnipdeaaDoorWMore
namespace Go.Proofs.YtpmdcplmnipdeaaDoor.PFnExactJournalName
open Go.RowKit Go.Proofs.YtpmdcplmnipdeaaDoorW.PrintWords Go.Proofs.YtpmdcplmnipdeaaDoorW.PrintLast Go.Proofs.YtpmdcplmnipdeaaDoorW.PrintMore
attribute [local go_sem] max2_int min2_int max_two min_two max_three min_three max_four min_four   -- for this text's walks alone
set_option linter.unusedVariables false
set_option linter.unusedSimpArgs false



def errW : Option Int → Value
  | none => .nilIface
  | some c => .iface 0 (.int .i64 c)
theorem errW_none : errW none = .nilIface := rfl
theorem errW_some (c : Int) : errW (some c) = .iface 0 (.int .i64 c) := rfl

theorem info5 : (Tryd.prog.info? 5).map (fun i => (i.zero, i.size, i.bytes)) = some (some (.int .u8 0), 1, 1) := by kernel_rfl
-- the values' own types

end Go.Proofs.YtpmdcplmnipdeaaDoor.PFnExactJournalName
