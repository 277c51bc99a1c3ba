/- The functions that a law reaches, each as a plain function, and that Go comes to just its answer: written by the session's program pp.py (the kit's print, with a few rows turned). -/
import Derived.Test.YtnmncgbegiegfaaDoorProg
import Derived.Below
import Derived.Deep.Draws
import Derived.Deep.AppendLies
import Derived.Maps.AppendAt
import Derived.OwnWalk
import Derived.Laws.BytesArg
import Derived.Laws.MakeOwn
import Derived.Laws.OwnMore
import Derived.Deep.OwnRows
import Derived.Tactics
import Derived.Lib.ConvBytes
import Derived.Laws.Slices
import Derived.WalkKit
import Derived.KernelRfl
import Derived.RowKit3
import Derived.Deep.LoopGhost
import Derived.Deep.QuietTactic
import Derived.BigQuiet
import Derived.WideLaws
import Derived.Deep.DeepCutAuto
import Derived.Deep.CutBlock
import Derived.Deep.RegionHeld3
import Derived.Laws.Rows
import Derived.Lib.AppendStr
import Derived.ArgAppend
import Derived.Laws.IdiomCopy
import Derived.OrdersHeld
import Derived.Laws.BitsLemmas
import Derived.RowKit
import Derived.Test.YtnmncgbegiegfaaDoorWWords
import Derived.Test.YtnmncgbegiegfaaDoorWLast
import Derived.Test.YtnmncgbegiegfaaDoorWTab
import Derived.Test.YtnmncgbegiegfaaDoorWFour
import Derived.Test.YtnmncgbegiegfaaDoorWQPut
import Derived.Test.YtnmncgbegiegfaaDoorWApart
import Derived.Test.YtnmncgbegiegfaaDoorWArr
import Derived.Test.YtnmncgbegiegfaaDoorWZeros
import Derived.Test.YtnmncgbegiegfaaDoorWFoot
import Derived.Test.YtnmncgbegiegfaaDoorWKept
import Derived.Test.YtnmncgbegiegfaaDoorWShare
import Derived.Test.YtnmncgbegiegfaaDoorWN
import Derived.Test.YtnmncgbegiegfaaDoorWFootNe
import Derived.Test.YtnmncgbegiegfaaDoorWAt
import Derived.Test.YtnmncgbegiegfaaDoorWEqStruct
import Derived.Test.YtnmncgbegiegfaaDoorWRepsOne
import Derived.Test.YtnmncgbegiegfaaDoorWInv
import Derived.Test.YtnmncgbegiegfaaDoorWInvWords
import Derived.Test.YtnmncgbegiegfaaDoorWGuard
import Derived.Test.YtnmncgbegiegfaaDoorWNEv
import Derived.Test.YtnmncgbegiegfaaDoorWMore
import Derived.Test.YtnmncgbegiegfaaDoorXw
import Derived.Test.YtnmncgbegiegfaaDoorExt
import Derived.Test.YtnmncgbegiegfaaDoorExtF
namespace Go.Proofs.YtnmncgbegiegfaaDoor.QFnExactDecEnd
open Go.RowKit Go.Proofs.YtnmncgbegiegfaaDoorW.PrintWords Go.Proofs.YtnmncgbegiegfaaDoorW.PrintLast Go.Proofs.YtnmncgbegiegfaaDoorW.PrintMore Go.Proofs.YtnmncgbegiegfaaDoor.Xw Go.Proofs.YtnmncgbegiegfaaDoor.Ext
attribute [local go_sem] max2_int min2_int max_two min_two max_three min_three max_four min_four   -- for this text's walks alone
set_option linter.unusedVariables false
set_option linter.unusedSimpArgs false



def errW : Option Int → Value
  | none => .nilIface
  | some c => .iface 0 (.int .i64 c)
theorem errW_none : errW none = .nilIface := rfl
theorem errW_some (c : Int) : errW (some c) = .iface 0 (.int .i64 c) := rfl

theorem info5 : (Tryd.prog.info? 5).map (fun i => (i.zero, i.size, i.bytes)) = some (some (.int .u8 0), 1, 1) := by kernel_rfl
-- the values' own types

end Go.Proofs.YtnmncgbegiegfaaDoor.QFnExactDecEnd
