/- The functions that a law reaches, each as a plain function, and that Go comes to just its answer: written by the session's program pp.py (the kit's print, with a few rows turned). -/
import Derived.Test.YtkpnhefgelkmhaaDoorProg
import Derived.Below
import Derived.Deep.Draws
import Derived.Deep.AppendLies
import Derived.Maps.AppendAt
import Derived.OwnWalk
import Derived.Laws.BytesArg
import Derived.Laws.MakeOwn
import Derived.Laws.OwnMore
import Derived.Deep.OwnRows
import Derived.Tactics
import Derived.Lib.ConvBytes
import Derived.Laws.Slices
import Derived.WalkKit
import Derived.KernelRfl
import Derived.RowKit3
import Derived.Deep.LoopGhost
import Derived.Deep.QuietTactic
import Derived.BigQuiet
import Derived.WideLaws
import Derived.Deep.DeepCutAuto
import Derived.Deep.CutBlock
import Derived.Deep.RegionHeld3
import Derived.Laws.Rows
import Derived.Lib.AppendStr
import Derived.ArgAppend
import Derived.Laws.IdiomCopy
import Derived.OrdersHeld
import Derived.Laws.BitsLemmas
import Derived.RowKit
import Derived.Test.YtkpnhefgelkmhaaDoorWWords
import Derived.Test.YtkpnhefgelkmhaaDoorWLast
import Derived.Test.YtkpnhefgelkmhaaDoorWTab
import Derived.Test.YtkpnhefgelkmhaaDoorWFour
import Derived.Test.YtkpnhefgelkmhaaDoorWQPut
import Derived.Test.YtkpnhefgelkmhaaDoorWApart
import Derived.Test.YtkpnhefgelkmhaaDoorWArr
import Derived.Test.YtkpnhefgelkmhaaDoorWZeros
import Derived.Test.YtkpnhefgelkmhaaDoorWFoot
import Derived.Test.YtkpnhefgelkmhaaDoorWKept
import Derived.Test.YtkpnhefgelkmhaaDoorWShare
import Derived.Test.YtkpnhefgelkmhaaDoorWN
import Derived.Test.YtkpnhefgelkmhaaDoorWFootNe
import Derived.Test.YtkpnhefgelkmhaaDoorWAt
import Derived.Test.YtkpnhefgelkmhaaDoorWEqStruct
import Derived.Test.YtkpnhefgelkmhaaDoorWRepsOne
import Derived.Test.YtkpnhefgelkmhaaDoorWInv
import Derived.Test.YtkpnhefgelkmhaaDoorWInvWords
import Derived.Test.YtkpnhefgelkmhaaDoorWGuard
import Derived.Test.YtkpnhefgelkmhaaDoorWNEv
import Derived.Test.YtkpnhefgelkmhaaDoorWMore
import Derived.Test.YtkpnhefgelkmhaaDoorXw
import Derived.Test.YtkpnhefgelkmhaaDoorXs
import Derived.Test.YtkpnhefgelkmhaaDoorExt
import Derived.Test.YtkpnhefgelkmhaaDoorExtF
namespace Go.Proofs.YtkpnhefgelkmhaaDoor.QFnExactDecOk
open Go.RowKit Go.Proofs.YtkpnhefgelkmhaaDoorW.PrintWords Go.Proofs.YtkpnhefgelkmhaaDoorW.PrintLast Go.Proofs.YtkpnhefgelkmhaaDoorW.PrintMore Go.Proofs.YtkpnhefgelkmhaaDoor.Xw Go.Proofs.YtkpnhefgelkmhaaDoor.Xs Go.Proofs.YtkpnhefgelkmhaaDoor.Ext
attribute [local go_sem] max2_int min2_int max_two min_two max_three min_three max_four min_four   -- for this text's walks alone
set_option linter.unusedVariables false
set_option linter.unusedSimpArgs false



def errW : Option Int → Value
  | none => .nilIface
  | some c => .iface 0 (.int .i64 c)
theorem errW_none : errW none = .nilIface := rfl
theorem errW_some (c : Int) : errW (some c) = .iface 0 (.int .i64 c) := rfl

theorem info5 : (Tryd.prog.info? 5).map (fun i => (i.zero, i.size, i.bytes)) = some (some (.int .u8 0), 1, 1) := by kernel_rfl
-- the values' own types

end Go.Proofs.YtkpnhefgelkmhaaDoor.QFnExactDecOk
