-- A text of this session, made by wip/own_print.py (the kit's print with additions of ours).
import Derived.Test.YtjbfppakafkkoaaProg
import Derived.Below
import Derived.Deep.Draws
import Derived.Deep.AppendLies
import Derived.Maps.AppendAt
import Derived.OwnWalk
import Derived.Laws.BytesArg
import Derived.Laws.MakeOwn
import Derived.Laws.OwnMore
import Derived.Deep.OwnRows
import Derived.Tactics
import Derived.Lib.ConvBytes
import Derived.Laws.Slices
import Derived.WalkKit
import Derived.KernelRfl
import Derived.RowKit3
import Derived.Deep.LoopGhost
import Derived.Deep.QuietTactic
import Derived.BigQuiet
import Derived.WideLaws
import Derived.Deep.DeepCutAuto
import Derived.Deep.CutBlock
import Derived.Deep.RegionHeld3
import Derived.Laws.Rows
import Derived.Lib.AppendStr
import Derived.ArgAppend
import Derived.Laws.IdiomCopy
import Derived.OrdersHeld
import Derived.Laws.BitsLemmas
import Derived.RowKit
import Derived.Test.YtjbfppakafkkoaaShelf
import Derived.Test.YtjbfppakafkkoaaWWords
import Derived.Test.YtjbfppakafkkoaaWLast
import Derived.Test.YtjbfppakafkkoaaWTab
import Derived.Test.YtjbfppakafkkoaaWFour
import Derived.Test.YtjbfppakafkkoaaWQPut
import Derived.Test.YtjbfppakafkkoaaWApart
import Derived.Test.YtjbfppakafkkoaaWArr
import Derived.Test.YtjbfppakafkkoaaWZeros
import Derived.Test.YtjbfppakafkkoaaWFoot
import Derived.Test.YtjbfppakafkkoaaWKept
import Derived.Test.YtjbfppakafkkoaaWShare
import Derived.Test.YtjbfppakafkkoaaWN
import Derived.Test.YtjbfppakafkkoaaWFootNe
import Derived.Test.YtjbfppakafkkoaaWAt
import Derived.Test.YtjbfppakafkkoaaWEqStruct
import Derived.Test.YtjbfppakafkkoaaWRepsOne
import Derived.Test.YtjbfppakafkkoaaWInv
import Derived.Test.YtjbfppakafkkoaaWInvWords
import Derived.Test.YtjbfppakafkkoaaWGuard
import Derived.Test.YtjbfppakafkkoaaWNEv
import Derived.Test.YtjbfppakafkkoaaWMore
namespace Go.Proofs.Ytjbfppakafkkoaa.QFnExactUnhex
open Go.RowKit Go.Proofs.YtjbfppakafkkoaaW.PrintWords Go.Proofs.YtjbfppakafkkoaaW.PrintLast Go.Proofs.YtjbfppakafkkoaaW.PrintMore
attribute [local go_sem] max2_int min2_int max_two min_two max_three min_three max_four min_four   -- for this text's walks alone
set_option linter.unusedVariables false
set_option linter.unusedSimpArgs false



def errW : Option Int → Value
  | none => .nilIface
  | some c => .iface 0 (.int .i64 c)
theorem errW_none : errW none = .nilIface := rfl
theorem errW_some (c : Int) : errW (some c) = .iface 0 (.int .i64 c) := rfl

theorem info5 : (Try.prog.info? 5).map (fun i => (i.zero, i.size, i.bytes)) = some (some (.int .u8 0), 1, 1) := by kernel_rfl
-- the values' own types

end Go.Proofs.Ytjbfppakafkkoaa.QFnExactUnhex
