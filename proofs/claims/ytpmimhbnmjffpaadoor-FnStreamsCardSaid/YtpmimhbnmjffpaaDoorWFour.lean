/- Words of the kit's print for this seat, cut by the session's program trimseat.py to what the seat's texts name; no condition beyond those that each lemma names. -/
import Derived.Test.YtpmimhbnmjffpaaDoorWTab
namespace Go.Proofs.YtpmimhbnmjffpaaDoorW.PrintLast
section
variable {P : Program} {ops : Array Oper} {Q : Exit → Act → World → Prop} {md : Region.Mode} {S : World → Prop} {ds : List Nat} {T : Bool × List (List Nat × List Nat)}
end
end Go.Proofs.YtpmimhbnmjffpaaDoorW.PrintLast
