/- Words of the kit's print for this seat, cut by the session's program trimseat.py to what the seat's texts name; no condition beyond those that each lemma names. -/
import Derived.Test.YtpmimhbnmjffpaaDoorWFootNe
namespace Go.Proofs.YtpmimhbnmjffpaaDoorW.PrintWords
open Go.RowKit
section
variable {w w' u : World} {m B g : Nat} {o : Obj} {row : Option Nat} {S : Nat → Prop} {a : Addr} {v : Value}
end
namespace Kd
section
variable {α : Type} {d : Kd α} {e base n m : Nat} {ok : Nat → Prop} {w w' : World} {v : Value} {A : Option Addr} {xs : List α}
end
end Kd
end Go.Proofs.YtpmimhbnmjffpaaDoorW.PrintWords
