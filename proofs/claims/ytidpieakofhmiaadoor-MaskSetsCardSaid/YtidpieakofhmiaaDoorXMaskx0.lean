-- Written for this claim by a program of ours (wip/xp.py), out of the translation and of hand-written contracts.
import Derived.Test.YtidpieakofhmiaaDoorProg
import Derived.Below
import Derived.Deep.Draws
import Derived.Deep.AppendLies
import Derived.Maps.AppendAt
import Derived.OwnWalk
import Derived.Laws.BytesArg
import Derived.Laws.MakeOwn
import Derived.Laws.OwnMore
import Derived.Deep.OwnRows
import Derived.Tactics
import Derived.Lib.ConvBytes
import Derived.Laws.Slices
import Derived.WalkKit
import Derived.KernelRfl
import Derived.RowKit3
import Derived.Deep.LoopGhost
import Derived.Deep.QuietTactic
import Derived.BigQuiet
import Derived.WideLaws
import Derived.Deep.DeepCutAuto
import Derived.Deep.CutBlock
import Derived.Deep.RegionHeld3
import Derived.Laws.Rows
import Derived.Lib.AppendStr
import Derived.ArgAppend
import Derived.Laws.IdiomCopy
import Derived.OrdersHeld
import Derived.Laws.BitsLemmas
import Derived.RowKit
import Derived.Test.YtidpieakofhmiaaDoorOnes
import Derived.Test.YtidpieakofhmiaaDoorFree
import Derived.Test.YtidpieakofhmiaaDoorList
import Derived.Test.YtidpieakofhmiaaDoorWWords
import Derived.Test.YtidpieakofhmiaaDoorWLast
import Derived.Test.YtidpieakofhmiaaDoorWTab
import Derived.Test.YtidpieakofhmiaaDoorWFour
import Derived.Test.YtidpieakofhmiaaDoorWQPut
import Derived.Test.YtidpieakofhmiaaDoorWApart
import Derived.Test.YtidpieakofhmiaaDoorWArr
import Derived.Test.YtidpieakofhmiaaDoorWZeros
import Derived.Test.YtidpieakofhmiaaDoorWFoot
import Derived.Test.YtidpieakofhmiaaDoorWKept
import Derived.Test.YtidpieakofhmiaaDoorWShare
import Derived.Test.YtidpieakofhmiaaDoorWN
import Derived.Test.YtidpieakofhmiaaDoorWFootNe
import Derived.Test.YtidpieakofhmiaaDoorWAt
import Derived.Test.YtidpieakofhmiaaDoorWEqStruct
import Derived.Test.YtidpieakofhmiaaDoorWRepsOne
import Derived.Test.YtidpieakofhmiaaDoorWInv
import Derived.Test.YtidpieakofhmiaaDoorWInvWords
import Derived.Test.YtidpieakofhmiaaDoorWGuard
import Derived.Test.YtidpieakofhmiaaDoorWNEv
import Derived.Test.YtidpieakofhmiaaDoorWMore
namespace Go.Proofs.YtidpieakofhmiaaDoor.XMask
open Go.RowKit Go.Proofs.YtidpieakofhmiaaDoorW.PrintWords Go.Proofs.YtidpieakofhmiaaDoorW.PrintLast Go.Proofs.YtidpieakofhmiaaDoorW.PrintMore
attribute [local go_sem] max2_int min2_int max_two min_two max_three min_three max_four min_four   -- for this text's walks alone
set_option linter.unusedVariables false
set_option linter.unusedSimpArgs false



def errW : Option Int → Value
  | none => .nilIface
  | some c => .iface 0 (.int .i64 c)
theorem errW_none : errW none = .nilIface := rfl
theorem errW_some (c : Int) : errW (some c) = .iface 0 (.int .i64 c) := rfl

theorem info3 : (Tryd.prog.info? 3).map (fun i => (i.zero, i.size, i.bytes)) = some (some (.int .i64 0), 1, 8) := by kernel_rfl
-- the values' own types

end Go.Proofs.YtidpieakofhmiaaDoor.XMask
