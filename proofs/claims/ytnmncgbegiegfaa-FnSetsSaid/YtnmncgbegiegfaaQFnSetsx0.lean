/- The functions that a law reaches, each as a plain function, and that Go comes to just its answer: written by the session's program pp.py (the kit's print, with a few rows turned). -/
import Derived.Test.YtnmncgbegiegfaaProg
import Derived.Below
import Derived.Deep.Draws
import Derived.Deep.AppendLies
import Derived.Maps.AppendAt
import Derived.OwnWalk
import Derived.Laws.BytesArg
import Derived.Laws.MakeOwn
import Derived.Laws.OwnMore
import Derived.Deep.OwnRows
import Derived.Tactics
import Derived.Lib.ConvBytes
import Derived.Laws.Slices
import Derived.WalkKit
import Derived.KernelRfl
import Derived.RowKit3
import Derived.Deep.LoopGhost
import Derived.Deep.QuietTactic
import Derived.BigQuiet
import Derived.WideLaws
import Derived.Deep.DeepCutAuto
import Derived.Deep.CutBlock
import Derived.Deep.RegionHeld3
import Derived.Laws.Rows
import Derived.Lib.AppendStr
import Derived.ArgAppend
import Derived.Laws.IdiomCopy
import Derived.OrdersHeld
import Derived.Laws.BitsLemmas
import Derived.RowKit
import Derived.Test.YtnmncgbegiegfaaWWords
import Derived.Test.YtnmncgbegiegfaaWLast
import Derived.Test.YtnmncgbegiegfaaWTab
import Derived.Test.YtnmncgbegiegfaaWFour
import Derived.Test.YtnmncgbegiegfaaWQPut
import Derived.Test.YtnmncgbegiegfaaWApart
import Derived.Test.YtnmncgbegiegfaaWArr
import Derived.Test.YtnmncgbegiegfaaWZeros
import Derived.Test.YtnmncgbegiegfaaWFoot
import Derived.Test.YtnmncgbegiegfaaWKept
import Derived.Test.YtnmncgbegiegfaaWShare
import Derived.Test.YtnmncgbegiegfaaWN
import Derived.Test.YtnmncgbegiegfaaWFootNe
import Derived.Test.YtnmncgbegiegfaaWAt
import Derived.Test.YtnmncgbegiegfaaWEqStruct
import Derived.Test.YtnmncgbegiegfaaWRepsOne
import Derived.Test.YtnmncgbegiegfaaWInv
import Derived.Test.YtnmncgbegiegfaaWInvWords
import Derived.Test.YtnmncgbegiegfaaWGuard
import Derived.Test.YtnmncgbegiegfaaWNEv
import Derived.Test.YtnmncgbegiegfaaWMore
import Derived.Test.YtnmncgbegiegfaaXw
import Derived.Test.YtnmncgbegiegfaaExt
namespace Go.Proofs.Ytnmncgbegiegfaa.QFnSets
open Go.RowKit Go.Proofs.YtnmncgbegiegfaaW.PrintWords Go.Proofs.YtnmncgbegiegfaaW.PrintLast Go.Proofs.YtnmncgbegiegfaaW.PrintMore Go.Proofs.Ytnmncgbegiegfaa.Xw Go.Proofs.Ytnmncgbegiegfaa.Ext
attribute [local go_sem] max2_int min2_int max_two min_two max_three min_three max_four min_four   -- for this text's walks alone
set_option linter.unusedVariables false
set_option linter.unusedSimpArgs false



def errW : Option Int → Value
  | none => .nilIface
  | some c => .iface 0 (.int .i64 c)
theorem errW_none : errW none = .nilIface := rfl
theorem errW_some (c : Int) : errW (some c) = .iface 0 (.int .i64 c) := rfl

theorem info3 : (Try.prog.info? 3).map (fun i => (i.zero, i.size, i.bytes)) = some (some (.int .i64 0), 1, 8) := by kernel_rfl
theorem info5 : (Try.prog.info? 5).map (fun i => (i.zero, i.size, i.bytes)) = some (some (.int .u8 0), 1, 1) := by kernel_rfl
theorem info9 : (Try.prog.info? 9).map (fun i => (i.zero, i.size, i.bytes)) = some (some (.string ⟨#[]⟩), 1, 16) := by kernel_rfl
-- the values' own types

end Go.Proofs.Ytnmncgbegiegfaa.QFnSets
