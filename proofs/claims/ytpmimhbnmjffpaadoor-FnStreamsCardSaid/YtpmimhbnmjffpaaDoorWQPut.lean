/- Words of the kit's print for this seat, cut by the session's program trimseat.py to what the seat's texts name; no condition beyond those that each lemma names. -/
import Derived.Test.YtpmimhbnmjffpaaDoorWWords
import Derived.Test.YtpmimhbnmjffpaaDoorWLast
namespace Go.Proofs.YtpmimhbnmjffpaaDoorW.PrintWords
open Go.RowKit
namespace Kd
section
variable {α : Type} {d : Kd α} {e base g o n cap : Nat} {ok okp : Nat → Prop} {w W : World} {v : Value} {xs : List α}
end
section
variable {α : Type} {enc : α → Value} {h1 : ∀ x, (enc x).oneCell' = true} {e base g o n cap : Nat} {ok : Nat → Prop} {W : World} {xs : List α}
end
end Kd
end Go.Proofs.YtpmimhbnmjffpaaDoorW.PrintWords
