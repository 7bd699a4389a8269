-- A text of this session, made by wip/own_print.py (the kit's print with additions of ours).
import Derived.Test.YtkgpokiglanjfaaDoorProg
import Derived.Below
import Derived.Deep.Draws
import Derived.Deep.AppendLies
import Derived.Maps.AppendAt
import Derived.OwnWalk
import Derived.Laws.BytesArg
import Derived.Laws.MakeOwn
import Derived.Laws.OwnMore
import Derived.Deep.OwnRows
import Derived.Tactics
import Derived.Lib.ConvBytes
import Derived.Laws.Slices
import Derived.WalkKit
import Derived.KernelRfl
import Derived.RowKit3
import Derived.Deep.LoopGhost
import Derived.Deep.QuietTactic
import Derived.BigQuiet
import Derived.WideLaws
import Derived.Deep.DeepCutAuto
import Derived.Deep.CutBlock
import Derived.Deep.RegionHeld3
import Derived.Laws.Rows
import Derived.Lib.AppendStr
import Derived.ArgAppend
import Derived.Laws.IdiomCopy
import Derived.OrdersHeld
import Derived.Laws.BitsLemmas
import Derived.RowKit
import Derived.WalkLawsBesides
import Derived.Test.YtkgpokiglanjfaaDoorShelfAtoi
import Derived.Lib.ConvBytes
import Derived.Lib.Hide
import Derived.Lib.AtoiTie
import Derived.Test.YtkgpokiglanjfaaDoorShelfItoa
import Derived.Test.YtkgpokiglanjfaaDoorShelfIdx
import Derived.Test.YtkgpokiglanjfaaDoorVMake
import Derived.Test.YtkgpokiglanjfaaDoorVCmp
import Derived.Test.YtkgpokiglanjfaaDoorVWgb
import Derived.Test.YtkgpokiglanjfaaDoorWWords
import Derived.Test.YtkgpokiglanjfaaDoorWLast
import Derived.Test.YtkgpokiglanjfaaDoorWTab
import Derived.Test.YtkgpokiglanjfaaDoorWFour
import Derived.Test.YtkgpokiglanjfaaDoorWQPut
import Derived.Test.YtkgpokiglanjfaaDoorWApart
import Derived.Test.YtkgpokiglanjfaaDoorWArr
import Derived.Test.YtkgpokiglanjfaaDoorWZeros
import Derived.Test.YtkgpokiglanjfaaDoorWFoot
import Derived.Test.YtkgpokiglanjfaaDoorWKept
import Derived.Test.YtkgpokiglanjfaaDoorWShare
import Derived.Test.YtkgpokiglanjfaaDoorWN
import Derived.Test.YtkgpokiglanjfaaDoorWFootNe
import Derived.Test.YtkgpokiglanjfaaDoorWAt
import Derived.Test.YtkgpokiglanjfaaDoorWEqStruct
import Derived.Test.YtkgpokiglanjfaaDoorWRepsOne
import Derived.Test.YtkgpokiglanjfaaDoorWInv
import Derived.Test.YtkgpokiglanjfaaDoorWInvWords
import Derived.Test.YtkgpokiglanjfaaDoorWGuard
import Derived.Test.YtkgpokiglanjfaaDoorWNEv
import Derived.Test.YtkgpokiglanjfaaDoorWMore
namespace Go.Proofs.YtkgpokiglanjfaaDoor.QFnNumbers
open Go.RowKit Go.Proofs.YtkgpokiglanjfaaDoorW.PrintWords Go.Proofs.YtkgpokiglanjfaaDoorW.PrintLast Go.Proofs.YtkgpokiglanjfaaDoorW.PrintMore
attribute [local go_sem] max2_int min2_int max_two min_two max_three min_three max_four min_four   -- for this text's walks alone
set_option linter.unusedVariables false
set_option linter.unusedSimpArgs false



def errW : Option Int → Value
  | none => .nilIface
  | some c => .iface 0 (.int .i64 c)
theorem errW_none : errW none = .nilIface := rfl
theorem errW_some (c : Int) : errW (some c) = .iface 0 (.int .i64 c) := rfl

theorem info3 : (Tryd.prog.info? 3).map (fun i => (i.zero, i.size, i.bytes)) = some (some (.int .i64 0), 1, 8) := by kernel_rfl
theorem info5 : (Tryd.prog.info? 5).map (fun i => (i.zero, i.size, i.bytes)) = some (some (.int .u8 0), 1, 1) := by kernel_rfl
-- the values' own types

end Go.Proofs.YtkgpokiglanjfaaDoor.QFnNumbers
