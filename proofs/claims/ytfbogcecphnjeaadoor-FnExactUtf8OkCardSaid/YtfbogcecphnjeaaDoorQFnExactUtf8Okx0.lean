/- The functions that a law reaches, each as a plain function, and that Go comes to just its answer: written by the session's program pp.py (the kit's print, with a few rows turned). -/
import Derived.Test.YtfbogcecphnjeaaDoorProg
import Derived.Below
import Derived.Deep.Draws
import Derived.Deep.AppendLies
import Derived.Maps.AppendAt
import Derived.OwnWalk
import Derived.Laws.BytesArg
import Derived.Laws.MakeOwn
import Derived.Laws.OwnMore
import Derived.Deep.OwnRows
import Derived.Tactics
import Derived.Lib.ConvBytes
import Derived.Laws.Slices
import Derived.WalkKit
import Derived.KernelRfl
import Derived.RowKit3
import Derived.Deep.LoopGhost
import Derived.Deep.QuietTactic
import Derived.BigQuiet
import Derived.WideLaws
import Derived.Deep.DeepCutAuto
import Derived.Deep.CutBlock
import Derived.Deep.RegionHeld3
import Derived.Laws.Rows
import Derived.Lib.AppendStr
import Derived.ArgAppend
import Derived.Laws.IdiomCopy
import Derived.OrdersHeld
import Derived.Laws.BitsLemmas
import Derived.RowKit
import Derived.Test.YtfbogcecphnjeaaDoorWWords
import Derived.Test.YtfbogcecphnjeaaDoorWLast
import Derived.Test.YtfbogcecphnjeaaDoorWTab
import Derived.Test.YtfbogcecphnjeaaDoorWFour
import Derived.Test.YtfbogcecphnjeaaDoorWQPut
import Derived.Test.YtfbogcecphnjeaaDoorWApart
import Derived.Test.YtfbogcecphnjeaaDoorWArr
import Derived.Test.YtfbogcecphnjeaaDoorWZeros
import Derived.Test.YtfbogcecphnjeaaDoorWFoot
import Derived.Test.YtfbogcecphnjeaaDoorWKept
import Derived.Test.YtfbogcecphnjeaaDoorWShare
import Derived.Test.YtfbogcecphnjeaaDoorWN
import Derived.Test.YtfbogcecphnjeaaDoorWFootNe
import Derived.Test.YtfbogcecphnjeaaDoorWAt
import Derived.Test.YtfbogcecphnjeaaDoorWEqStruct
import Derived.Test.YtfbogcecphnjeaaDoorWRepsOne
import Derived.Test.YtfbogcecphnjeaaDoorWInv
import Derived.Test.YtfbogcecphnjeaaDoorWInvWords
import Derived.Test.YtfbogcecphnjeaaDoorWGuard
import Derived.Test.YtfbogcecphnjeaaDoorWNEv
import Derived.Test.YtfbogcecphnjeaaDoorWMore
import Derived.Test.YtfbogcecphnjeaaDoorXw
import Derived.Test.YtfbogcecphnjeaaDoorExt
namespace Go.Proofs.YtfbogcecphnjeaaDoor.QFnExactUtf8Ok
open Go.RowKit Go.Proofs.YtfbogcecphnjeaaDoorW.PrintWords Go.Proofs.YtfbogcecphnjeaaDoorW.PrintLast Go.Proofs.YtfbogcecphnjeaaDoorW.PrintMore Go.Proofs.YtfbogcecphnjeaaDoor.Xw Go.Proofs.YtfbogcecphnjeaaDoor.Ext
attribute [local go_sem] max2_int min2_int max_two min_two max_three min_three max_four min_four   -- for this text's walks alone
set_option linter.unusedVariables false
set_option linter.unusedSimpArgs false



def errW : Option Int → Value
  | none => .nilIface
  | some c => .iface 0 (.int .i64 c)
theorem errW_none : errW none = .nilIface := rfl
theorem errW_some (c : Int) : errW (some c) = .iface 0 (.int .i64 c) := rfl

theorem info3 : (Tryd.prog.info? 3).map (fun i => (i.zero, i.size, i.bytes)) = some (some (.int .i64 0), 1, 8) := by kernel_rfl
theorem info5 : (Tryd.prog.info? 5).map (fun i => (i.zero, i.size, i.bytes)) = some (some (.int .u8 0), 1, 1) := by kernel_rfl
-- the values' own types

end Go.Proofs.YtfbogcecphnjeaaDoor.QFnExactUtf8Ok
