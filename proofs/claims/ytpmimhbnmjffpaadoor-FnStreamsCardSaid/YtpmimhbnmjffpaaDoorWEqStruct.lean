/- Words of the kit's print for this seat, cut by the session's program trimseat.py to what the seat's texts name; no condition beyond those that each lemma names. -/
import Derived.Test.YtpmimhbnmjffpaaDoorWWords
import Derived.Laws.StructEq
namespace Go.Proofs.YtpmimhbnmjffpaaDoorW.PrintWords
open Go.RowKit
section
variable {P : Program} {d : Nat} {xs ys : Array Value} {f : Field} {fs : List Field} {a b : Value} {r s : Bool} {w : World}
end
end Go.Proofs.YtpmimhbnmjffpaaDoorW.PrintWords
