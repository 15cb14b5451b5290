-- Written by wip/hprint.py, which calls the kit's print over functions proved by hand.
import Derived.Test.YtfebnnjdkkcphaaProg
import Derived.Below
import Derived.Deep.Draws
import Derived.Deep.AppendLies
import Derived.Maps.AppendAt
import Derived.OwnWalk
import Derived.Laws.BytesArg
import Derived.Laws.MakeOwn
import Derived.Laws.OwnMore
import Derived.Deep.OwnRows
import Derived.Tactics
import Derived.Lib.ConvBytes
import Derived.Laws.Slices
import Derived.WalkKit
import Derived.KernelRfl
import Derived.RowKit3
import Derived.Deep.LoopGhost
import Derived.Deep.QuietTactic
import Derived.BigQuiet
import Derived.WideLaws
import Derived.Deep.DeepCutAuto
import Derived.Deep.CutBlock
import Derived.Deep.RegionHeld3
import Derived.Laws.Rows
import Derived.Lib.AppendStr
import Derived.ArgAppend
import Derived.Laws.IdiomCopy
import Derived.OrdersHeld
import Derived.Laws.BitsLemmas
import Derived.RowKit
import Derived.Test.YtfebnnjdkkcphaaHfx
import Derived.Test.YtfebnnjdkkcphaaWWords
import Derived.Test.YtfebnnjdkkcphaaWLast
import Derived.Test.YtfebnnjdkkcphaaWTab
import Derived.Test.YtfebnnjdkkcphaaWFour
import Derived.Test.YtfebnnjdkkcphaaWQPut
import Derived.Test.YtfebnnjdkkcphaaWApart
import Derived.Test.YtfebnnjdkkcphaaWArr
import Derived.Test.YtfebnnjdkkcphaaWZeros
import Derived.Test.YtfebnnjdkkcphaaWFoot
import Derived.Test.YtfebnnjdkkcphaaWKept
import Derived.Test.YtfebnnjdkkcphaaWShare
import Derived.Test.YtfebnnjdkkcphaaWN
import Derived.Test.YtfebnnjdkkcphaaWFootNe
import Derived.Test.YtfebnnjdkkcphaaWAt
import Derived.Test.YtfebnnjdkkcphaaWEqStruct
import Derived.Test.YtfebnnjdkkcphaaWRepsOne
import Derived.Test.YtfebnnjdkkcphaaWInv
import Derived.Test.YtfebnnjdkkcphaaWInvWords
import Derived.Test.YtfebnnjdkkcphaaWGuard
import Derived.Test.YtfebnnjdkkcphaaWNEv
import Derived.Test.YtfebnnjdkkcphaaWMore
namespace Go.Proofs.Ytfebnnjdkkcphaa.PAll
open Go.RowKit Go.Proofs.Ytfebnnjdkkcphaa.Hand Go.Proofs.YtfebnnjdkkcphaaW.PrintWords Go.Proofs.YtfebnnjdkkcphaaW.PrintLast Go.Proofs.YtfebnnjdkkcphaaW.PrintMore
attribute [local go_sem] max2_int min2_int max_two min_two max_three min_three max_four min_four   -- for this text's walks alone
set_option linter.unusedVariables false
set_option linter.unusedSimpArgs false



def errW : Option Int → Value
  | none => .nilIface
  | some c => .iface 0 (.int .i64 c)
theorem errW_none : errW none = .nilIface := rfl
theorem errW_some (c : Int) : errW (some c) = .iface 0 (.int .i64 c) := rfl

theorem info3 : (Try.prog.info? 3).map (fun i => (i.zero, i.size, i.bytes)) = some (some (.int .i64 0), 1, 8) := by kernel_rfl
-- the values' own types

end Go.Proofs.Ytfebnnjdkkcphaa.PAll
