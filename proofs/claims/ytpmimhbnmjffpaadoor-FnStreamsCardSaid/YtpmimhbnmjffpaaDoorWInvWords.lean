/- Words of the kit's print for this seat, cut by the session's program trimseat.py to what the seat's texts name; no condition beyond those that each lemma names. -/
import Derived.Test.YtpmimhbnmjffpaaDoorWInv
import Derived.Test.YtpmimhbnmjffpaaDoorWFootNe
namespace Go.Proofs.YtpmimhbnmjffpaaDoorW.PrintWords
open Go.RowKit
end Go.Proofs.YtpmimhbnmjffpaaDoorW.PrintWords
namespace Go.Proofs.YtpmimhbnmjffpaaDoorW.PrintLast
section
variable {ops : Array Oper} {a : Act} {o og : Oper} {g : Nat} {t : Tmp} {u : Bool}
end
end Go.Proofs.YtpmimhbnmjffpaaDoorW.PrintLast
