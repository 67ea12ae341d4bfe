/- What the functions that FnExactUnhex reaches compute, and that the machine's calls compute it. Begun as a text of the kit's print. No condition. -/
import Derived.Test.YtmnejhmilbnldaaProg
import Derived.Below
import Derived.Deep.Draws
import Derived.Deep.AppendLies
import Derived.Maps.AppendAt
import Derived.OwnWalk
import Derived.Laws.BytesArg
import Derived.Laws.MakeOwn
import Derived.Laws.OwnMore
import Derived.Deep.OwnRows
import Derived.Tactics
import Derived.Lib.ConvBytes
import Derived.Laws.Slices
import Derived.WalkKit
import Derived.KernelRfl
import Derived.RowKit3
import Derived.Deep.LoopGhost
import Derived.Deep.QuietTactic
import Derived.BigQuiet
import Derived.WideLaws
import Derived.Deep.DeepCutAuto
import Derived.Deep.CutBlock
import Derived.Deep.RegionHeld3
import Derived.Laws.Rows
import Derived.Lib.AppendStr
import Derived.ArgAppend
import Derived.Laws.IdiomCopy
import Derived.OrdersHeld
import Derived.Laws.BitsLemmas
import Derived.RowKit
import Derived.Test.YtmnejhmilbnldaaWWords
import Derived.Test.YtmnejhmilbnldaaWLast
import Derived.Test.YtmnejhmilbnldaaWTab
import Derived.Test.YtmnejhmilbnldaaWFour
import Derived.Test.YtmnejhmilbnldaaWQPut
import Derived.Test.YtmnejhmilbnldaaWApart
import Derived.Test.YtmnejhmilbnldaaWArr
import Derived.Test.YtmnejhmilbnldaaWZeros
import Derived.Test.YtmnejhmilbnldaaWFoot
import Derived.Test.YtmnejhmilbnldaaWKept
import Derived.Test.YtmnejhmilbnldaaWShare
import Derived.Test.YtmnejhmilbnldaaWN
import Derived.Test.YtmnejhmilbnldaaWFootNe
import Derived.Test.YtmnejhmilbnldaaWAt
import Derived.Test.YtmnejhmilbnldaaWEqStruct
import Derived.Test.YtmnejhmilbnldaaWRepsOne
import Derived.Test.YtmnejhmilbnldaaWInv
import Derived.Test.YtmnejhmilbnldaaWInvWords
import Derived.Test.YtmnejhmilbnldaaWGuard
import Derived.Test.YtmnejhmilbnldaaWNEv
import Derived.Test.YtmnejhmilbnldaaWMore
namespace Go.Proofs.Ytmnejhmilbnldaa.PFnExactUnhex
open Go.RowKit Go.Proofs.YtmnejhmilbnldaaW.PrintWords Go.Proofs.YtmnejhmilbnldaaW.PrintLast Go.Proofs.YtmnejhmilbnldaaW.PrintMore
attribute [local go_sem] max2_int min2_int max_two min_two max_three min_three max_four min_four   -- for this text's walks alone
set_option linter.unusedVariables false
set_option linter.unusedSimpArgs false



def errW : Option Int → Value
  | none => .nilIface
  | some c => .iface 0 (.int .i64 c)
theorem errW_none : errW none = .nilIface := rfl
theorem errW_some (c : Int) : errW (some c) = .iface 0 (.int .i64 c) := rfl

theorem info5 : (Try.prog.info? 5).map (fun i => (i.zero, i.size, i.bytes)) = some (some (.int .u8 0), 1, 1) := by kernel_rfl
-- the values' own types

end Go.Proofs.Ytmnejhmilbnldaa.PFnExactUnhex
