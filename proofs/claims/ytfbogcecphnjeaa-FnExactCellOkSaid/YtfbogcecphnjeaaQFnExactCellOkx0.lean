/- The functions that a law reaches, each as a plain function, and that Go comes to just its answer: written by the session's program pp.py (the kit's print, with a few rows turned). -/
import Derived.Test.YtfbogcecphnjeaaProg
import Derived.Below
import Derived.Deep.Draws
import Derived.Deep.AppendLies
import Derived.Maps.AppendAt
import Derived.OwnWalk
import Derived.Laws.BytesArg
import Derived.Laws.MakeOwn
import Derived.Laws.OwnMore
import Derived.Deep.OwnRows
import Derived.Tactics
import Derived.Lib.ConvBytes
import Derived.Laws.Slices
import Derived.WalkKit
import Derived.KernelRfl
import Derived.RowKit3
import Derived.Deep.LoopGhost
import Derived.Deep.QuietTactic
import Derived.BigQuiet
import Derived.WideLaws
import Derived.Deep.DeepCutAuto
import Derived.Deep.CutBlock
import Derived.Deep.RegionHeld3
import Derived.Laws.Rows
import Derived.Lib.AppendStr
import Derived.ArgAppend
import Derived.Laws.IdiomCopy
import Derived.OrdersHeld
import Derived.Laws.BitsLemmas
import Derived.RowKit
import Derived.Test.YtfbogcecphnjeaaWWords
import Derived.Test.YtfbogcecphnjeaaWLast
import Derived.Test.YtfbogcecphnjeaaWTab
import Derived.Test.YtfbogcecphnjeaaWFour
import Derived.Test.YtfbogcecphnjeaaWQPut
import Derived.Test.YtfbogcecphnjeaaWApart
import Derived.Test.YtfbogcecphnjeaaWArr
import Derived.Test.YtfbogcecphnjeaaWZeros
import Derived.Test.YtfbogcecphnjeaaWFoot
import Derived.Test.YtfbogcecphnjeaaWKept
import Derived.Test.YtfbogcecphnjeaaWShare
import Derived.Test.YtfbogcecphnjeaaWN
import Derived.Test.YtfbogcecphnjeaaWFootNe
import Derived.Test.YtfbogcecphnjeaaWAt
import Derived.Test.YtfbogcecphnjeaaWEqStruct
import Derived.Test.YtfbogcecphnjeaaWRepsOne
import Derived.Test.YtfbogcecphnjeaaWInv
import Derived.Test.YtfbogcecphnjeaaWInvWords
import Derived.Test.YtfbogcecphnjeaaWGuard
import Derived.Test.YtfbogcecphnjeaaWNEv
import Derived.Test.YtfbogcecphnjeaaWMore
import Derived.Test.YtfbogcecphnjeaaXw
import Derived.Test.YtfbogcecphnjeaaExt
namespace Go.Proofs.Ytfbogcecphnjeaa.QFnExactCellOk
open Go.RowKit Go.Proofs.YtfbogcecphnjeaaW.PrintWords Go.Proofs.YtfbogcecphnjeaaW.PrintLast Go.Proofs.YtfbogcecphnjeaaW.PrintMore Go.Proofs.Ytfbogcecphnjeaa.Xw Go.Proofs.Ytfbogcecphnjeaa.Ext
attribute [local go_sem] max2_int min2_int max_two min_two max_three min_three max_four min_four   -- for this text's walks alone
set_option linter.unusedVariables false
set_option linter.unusedSimpArgs false



def errW : Option Int → Value
  | none => .nilIface
  | some c => .iface 0 (.int .i64 c)
theorem errW_none : errW none = .nilIface := rfl
theorem errW_some (c : Int) : errW (some c) = .iface 0 (.int .i64 c) := rfl

theorem info5 : (Try.prog.info? 5).map (fun i => (i.zero, i.size, i.bytes)) = some (some (.int .u8 0), 1, 1) := by kernel_rfl
-- the values' own types

end Go.Proofs.Ytfbogcecphnjeaa.QFnExactCellOk
