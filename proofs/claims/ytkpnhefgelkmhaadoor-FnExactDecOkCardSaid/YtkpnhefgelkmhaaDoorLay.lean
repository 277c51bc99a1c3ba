/- Two contracts of Go's library, laid at this program by the kit's tool: plain facts of the program's own; no condition. -/
import Derived.Test.YtkpnhefgelkmhaaDoorProg
import Derived.Shelf.Spec.NilArms
import Derived.Shelf.Unicode.ValidAny
namespace Go.Proofs
open Go.Shelf
end Go.Proofs
