-- A text of this session, made by wip/own_print.py (the kit's print with additions of ours).
import Derived.Test.YtodpkfidkilpdaaProg
import Derived.Below
import Derived.Deep.Draws
import Derived.Deep.AppendLies
import Derived.Maps.AppendAt
import Derived.OwnWalk
import Derived.Laws.BytesArg
import Derived.Laws.MakeOwn
import Derived.Laws.OwnMore
import Derived.Deep.OwnRows
import Derived.Tactics
import Derived.Lib.ConvBytes
import Derived.Laws.Slices
import Derived.WalkKit
import Derived.KernelRfl
import Derived.RowKit3
import Derived.Deep.LoopGhost
import Derived.Deep.QuietTactic
import Derived.BigQuiet
import Derived.WideLaws
import Derived.Deep.DeepCutAuto
import Derived.Deep.CutBlock
import Derived.Deep.RegionHeld3
import Derived.Laws.Rows
import Derived.Lib.AppendStr
import Derived.ArgAppend
import Derived.Laws.IdiomCopy
import Derived.OrdersHeld
import Derived.Laws.BitsLemmas
import Derived.RowKit
import Derived.WalkLawsBesides
import Derived.Test.YtodpkfidkilpdaaShelfFields
import Derived.Laws.OwnMore
import Derived.Test.YtodpkfidkilpdaaVMake
import Derived.Test.YtodpkfidkilpdaaVCmp
import Derived.Test.YtodpkfidkilpdaaWWords
import Derived.Test.YtodpkfidkilpdaaWLast
import Derived.Test.YtodpkfidkilpdaaWTab
import Derived.Test.YtodpkfidkilpdaaWFour
import Derived.Test.YtodpkfidkilpdaaWQPut
import Derived.Test.YtodpkfidkilpdaaWApart
import Derived.Test.YtodpkfidkilpdaaWArr
import Derived.Test.YtodpkfidkilpdaaWZeros
import Derived.Test.YtodpkfidkilpdaaWFoot
import Derived.Test.YtodpkfidkilpdaaWKept
import Derived.Test.YtodpkfidkilpdaaWShare
import Derived.Test.YtodpkfidkilpdaaWN
import Derived.Test.YtodpkfidkilpdaaWFootNe
import Derived.Test.YtodpkfidkilpdaaWAt
import Derived.Test.YtodpkfidkilpdaaWEqStruct
import Derived.Test.YtodpkfidkilpdaaWRepsOne
import Derived.Test.YtodpkfidkilpdaaWInv
import Derived.Test.YtodpkfidkilpdaaWInvWords
import Derived.Test.YtodpkfidkilpdaaWGuard
import Derived.Test.YtodpkfidkilpdaaWNEv
import Derived.Test.YtodpkfidkilpdaaWMore
namespace Go.Proofs.Ytodpkfidkilpdaa.QFnFields
open Go.RowKit Go.Proofs.YtodpkfidkilpdaaW.PrintWords Go.Proofs.YtodpkfidkilpdaaW.PrintLast Go.Proofs.YtodpkfidkilpdaaW.PrintMore
attribute [local go_sem] max2_int min2_int max_two min_two max_three min_three max_four min_four   -- for this text's walks alone
set_option linter.unusedVariables false
set_option linter.unusedSimpArgs false



def errW : Option Int → Value
  | none => .nilIface
  | some c => .iface 0 (.int .i64 c)
theorem errW_none : errW none = .nilIface := rfl
theorem errW_some (c : Int) : errW (some c) = .iface 0 (.int .i64 c) := rfl

theorem info9 : (Try.prog.info? 9).map (fun i => (i.zero, i.size, i.bytes)) = some (some (.string ⟨#[]⟩), 1, 16) := by kernel_rfl
-- the values' own types

end Go.Proofs.Ytodpkfidkilpdaa.QFnFields
