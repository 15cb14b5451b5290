-- Written by wip/hprint.py, which calls the kit's print over functions proved by hand.
import Derived.Test.YtfebnnjdkkcphaaDoorProg
import Derived.Below
import Derived.Deep.Draws
import Derived.Deep.AppendLies
import Derived.Maps.AppendAt
import Derived.OwnWalk
import Derived.Laws.BytesArg
import Derived.Laws.MakeOwn
import Derived.Laws.OwnMore
import Derived.Deep.OwnRows
import Derived.Tactics
import Derived.Lib.ConvBytes
import Derived.Laws.Slices
import Derived.WalkKit
import Derived.KernelRfl
import Derived.RowKit3
import Derived.Deep.LoopGhost
import Derived.Deep.QuietTactic
import Derived.BigQuiet
import Derived.WideLaws
import Derived.Deep.DeepCutAuto
import Derived.Deep.CutBlock
import Derived.Deep.RegionHeld3
import Derived.Laws.Rows
import Derived.Lib.AppendStr
import Derived.ArgAppend
import Derived.Laws.IdiomCopy
import Derived.OrdersHeld
import Derived.Laws.BitsLemmas
import Derived.RowKit
import Derived.Test.YtfebnnjdkkcphaaDoorArr
import Derived.Test.YtfebnnjdkkcphaaDoorHcrc
import Derived.Test.YtfebnnjdkkcphaaDoorWWords
import Derived.Test.YtfebnnjdkkcphaaDoorWLast
import Derived.Test.YtfebnnjdkkcphaaDoorWTab
import Derived.Test.YtfebnnjdkkcphaaDoorWFour
import Derived.Test.YtfebnnjdkkcphaaDoorWQPut
import Derived.Test.YtfebnnjdkkcphaaDoorWApart
import Derived.Test.YtfebnnjdkkcphaaDoorWArr
import Derived.Test.YtfebnnjdkkcphaaDoorWZeros
import Derived.Test.YtfebnnjdkkcphaaDoorWFoot
import Derived.Test.YtfebnnjdkkcphaaDoorWKept
import Derived.Test.YtfebnnjdkkcphaaDoorWShare
import Derived.Test.YtfebnnjdkkcphaaDoorWN
import Derived.Test.YtfebnnjdkkcphaaDoorWFootNe
import Derived.Test.YtfebnnjdkkcphaaDoorWAt
import Derived.Test.YtfebnnjdkkcphaaDoorWEqStruct
import Derived.Test.YtfebnnjdkkcphaaDoorWRepsOne
import Derived.Test.YtfebnnjdkkcphaaDoorWInv
import Derived.Test.YtfebnnjdkkcphaaDoorWInvWords
import Derived.Test.YtfebnnjdkkcphaaDoorWGuard
import Derived.Test.YtfebnnjdkkcphaaDoorWNEv
import Derived.Test.YtfebnnjdkkcphaaDoorWMore
namespace Go.Proofs.YtfebnnjdkkcphaaDoor.PAll
open Go.RowKit Go.Proofs.YtfebnnjdkkcphaaDoor.Hand Go.Proofs.YtfebnnjdkkcphaaDoorW.PrintWords Go.Proofs.YtfebnnjdkkcphaaDoorW.PrintLast Go.Proofs.YtfebnnjdkkcphaaDoorW.PrintMore
attribute [local go_sem] max2_int min2_int max_two min_two max_three min_three max_four min_four   -- for this text's walks alone
set_option linter.unusedVariables false
set_option linter.unusedSimpArgs false



def errW : Option Int → Value
  | none => .nilIface
  | some c => .iface 0 (.int .i64 c)
theorem errW_none : errW none = .nilIface := rfl
theorem errW_some (c : Int) : errW (some c) = .iface 0 (.int .i64 c) := rfl

theorem info3 : (Tryd.prog.info? 3).map (fun i => (i.zero, i.size, i.bytes)) = some (some (.int .i64 0), 1, 8) := by kernel_rfl
-- the values' own types

end Go.Proofs.YtfebnnjdkkcphaaDoor.PAll
