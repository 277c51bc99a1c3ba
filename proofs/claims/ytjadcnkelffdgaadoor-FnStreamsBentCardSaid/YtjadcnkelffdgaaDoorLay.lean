/- Two contracts of Go's library, laid at this program by the kit's tool: plain facts of the program's own; no condition. -/
import Derived.Test.YtjadcnkelffdgaaDoorProg
import Derived.Shelf.Spec.NilArms
import Derived.Shelf.Unicode.ValidAny
namespace Go.Proofs
open Go.Shelf
def Tryd.laysDecode_ren:Go.Shelf.Ren:=⟨fun|32=>56|49=>70|n=>n,fun|30=>22|21=>21|3=>3|0=>0|5=>5|4=>4|33=>67|66=>70|25=>62|69=>73|68=>72|n=>n,fun|2=>0|3=>1|n=>n⟩
theorem Tryd.laysDecode:Go.Proofs.Lays7.n32 Tryd.prog Tryd.laysDecode_ren:={
  mixed:=by kernel_rfl
  f32:=Tryd.func56.trans (congrArg some (by kernel_rfl))
  f49:=Tryd.func70.trans (congrArg some (by kernel_rfl))
  t0:=Tryd.underlying0
  a0:=Tryd.isAgg0
  z0:=Tryd.sizeOf0
  v0:=Tryd.zeroValue0
  i0:=by kernel_rfl
  t3:=Tryd.underlying3
  a3:=Tryd.isAgg3
  z3:=Tryd.sizeOf3
  v3:=Tryd.zeroValue3
  i3:=by kernel_rfl
  t4:=Tryd.underlying4
  a4:=Tryd.isAgg4
  z4:=Tryd.sizeOf4
  v4:=Tryd.zeroValue4
  i4:=by kernel_rfl
  t5:=Tryd.underlying5
  a5:=Tryd.isAgg5
  z5:=Tryd.sizeOf5
  v5:=Tryd.zeroValue5
  i5:=by kernel_rfl
  t21:=Tryd.underlying21
  a21:=Tryd.isAgg21
  z21:=Tryd.sizeOf21
  v21:=Tryd.zeroValue21
  i21:=by kernel_rfl
  t25:=Tryd.underlying62
  a25:=Tryd.isAgg62
  z25:=Tryd.sizeOf62
  v25:=Tryd.zeroValue62
  i25:=by kernel_rfl
  t30:=Tryd.underlying22
  a30:=Tryd.isAgg22
  z30:=Tryd.sizeOf22
  v30:=Tryd.zeroValue22
  i30:=by kernel_rfl
  t33:=Tryd.underlying67
  a33:=Tryd.isAgg67
  z33:=Tryd.sizeOf67
  v33:=Tryd.zeroValue67
  i33:=by kernel_rfl
  t66:=Tryd.underlying70
  a66:=Tryd.isAgg70
  z66:=Tryd.sizeOf70
  t68:=Tryd.underlying72
  a68:=Tryd.isAgg72
  z68:=Tryd.sizeOf72
  v68:=Tryd.zeroValue72
  i68:=by kernel_rfl
  t69:=Tryd.underlying73
  a69:=Tryd.isAgg73
  z69:=Tryd.sizeOf73
  v69:=Tryd.zeroValue73
  i69:=by kernel_rfl
  g2:=by kernel_rfl
  g3:=by kernel_rfl}
end Go.Proofs
