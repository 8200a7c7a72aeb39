import Derived.Ground.NamesProg
import Derived.Ground.SlbNamesProg
import Derived.Shelf.Spec.TrailingZeros
import Derived.Shelf.Bytes.SlJoin
import Derived.Shelf.Bytes.SlClone
import Derived.Shelf.Bits.Mul64
import Derived.Test.YtopepdfipgfakaaDoorProg
namespace Go.Proofs
set_option linter.unusedVariables false
set_option linter.unusedSimpArgs false
open Go.Shelf
def Tryd.lays7_29_ren:Go.Shelf.Ren:=⟨fun | 29=>67 | n=>n,fun | 22=>92 | 3=>3 | 4=>4 | 25=>77 | 54=>105 | 0=>0 | 5=>5 | n=>n,fun | 1=>2 | n=>n⟩
theorem Tryd.lays7_29:Go.Proofs.Lays7.n29 Tryd.prog Tryd.lays7_29_ren:={
 mixed:=by kernel_rfl
 f29:=Tryd.func67.trans (congrArg some (by kernel_rfl))
 t0:=Tryd.underlying0
 a0:=Tryd.isAgg0
 z0:=Tryd.sizeOf0
 v0:=Tryd.zeroValue0
 i0:=by kernel_rfl
 t3:=Tryd.underlying3
 a3:=Tryd.isAgg3
 z3:=Tryd.sizeOf3
 v3:=Tryd.zeroValue3
 i3:=by kernel_rfl
 t4:=Tryd.underlying4
 a4:=Tryd.isAgg4
 z4:=Tryd.sizeOf4
 v4:=Tryd.zeroValue4
 i4:=by kernel_rfl
 t5:=Tryd.underlying5
 a5:=Tryd.isAgg5
 z5:=Tryd.sizeOf5
 v5:=Tryd.zeroValue5
 i5:=by kernel_rfl
 t22:=Tryd.underlying92
 a22:=Tryd.isAgg92
 z22:=Tryd.sizeOf92
 v22:=Tryd.zeroValue92
 i22:=by kernel_rfl
 t25:=Tryd.underlying77
 a25:=Tryd.isAgg77
 z25:=Tryd.sizeOf77
 v25:=Tryd.zeroValue77
 i25:=by kernel_rfl
 t54:=Tryd.underlying105
 a54:=Tryd.isAgg105
 z54:=Tryd.sizeOf105
 g1:=by kernel_rfl }
def Tryd.lays212_ren:Go.Shelf.Ren:=⟨fun | 212=>77 | 263=>84 | 264=>85 | n=>n,fun | 46=>77 | 51=>90 | 146=>108 | 53=>92 | 148=>110 | n=>n,fun | n=>n⟩
theorem Tryd.lays212:Go.Proofs.Lays.n212 Tryd.prog Tryd.lays212_ren:={
 mixed:=by kernel_rfl
 f212:=Tryd.func77.trans (congrArg some (by kernel_rfl))
 f263:=Tryd.func84.trans (congrArg some (by kernel_rfl))
 f264:=Tryd.func85.trans (congrArg some (by kernel_rfl))
 t46:=Tryd.underlying77
 a46:=Tryd.isAgg77
 z46:=Tryd.sizeOf77
 v46:=Tryd.zeroValue77
 t51:=Tryd.underlying90
 a51:=Tryd.isAgg90
 z51:=Tryd.sizeOf90
 v51:=Tryd.zeroValue90
 t53:=Tryd.underlying92
 a53:=Tryd.isAgg92
 z53:=Tryd.sizeOf92
 v53:=Tryd.zeroValue92
 t146:=Tryd.underlying108
 a146:=Tryd.isAgg108
 z146:=Tryd.sizeOf108
 v146:=Tryd.zeroValue108
 t148:=Tryd.underlying110
 a148:=Tryd.isAgg110
 z148:=Tryd.sizeOf110
 v148:=Tryd.zeroValue110 }
def Tryd.laysSlK4_ren:Go.Shelf.Ren:=⟨fun | 4=>70 | n=>n,fun | 22=>31 | 4=>4 | 5=>5 | n=>n,fun | n=>n⟩
theorem Tryd.laysSlK4:Go.Proofs.SlLaysK.n4 Tryd.prog Tryd.laysSlK4_ren:={
 mixed:=by kernel_rfl
 f4:=Tryd.func70.trans (congrArg some (by kernel_rfl))
 t4:=Tryd.underlying4
 a4:=Tryd.isAgg4
 z4:=Tryd.sizeOf4
 v4:=Tryd.zeroValue4
 t22:=Tryd.underlying31
 a22:=Tryd.isAgg31
 z22:=Tryd.sizeOf31
 v22:=Tryd.zeroValue31
 t5:=Tryd.underlying5
 i5:=by kernel_rfl }
def Tryd.laysSlJ14_ren:Go.Shelf.Ren:=⟨fun | 14=>13 | 15=>20 | n=>n,fun | 26=>34 | 22=>31 | 3=>3 | 4=>4 | 0=>0 | 9=>9 | 20=>20 | 5=>5 | n=>n,fun | n=>n⟩
theorem Tryd.laysSlJ14:Go.Proofs.SlLaysJ.n14 Tryd.prog Tryd.laysSlJ14_ren:={
 mixed:=by kernel_rfl
 f14:=Tryd.func13.trans (congrArg some (by kernel_rfl))
 f15:=Tryd.func20.trans (congrArg some (by kernel_rfl))
 t0:=Tryd.underlying0
 a0:=Tryd.isAgg0
 z0:=Tryd.sizeOf0
 v0:=Tryd.zeroValue0
 t3:=Tryd.underlying3
 a3:=Tryd.isAgg3
 z3:=Tryd.sizeOf3
 v3:=Tryd.zeroValue3
 t4:=Tryd.underlying4
 a4:=Tryd.isAgg4
 z4:=Tryd.sizeOf4
 v4:=Tryd.zeroValue4
 t9:=Tryd.underlying9
 a9:=Tryd.isAgg9
 z9:=Tryd.sizeOf9
 v9:=Tryd.zeroValue9
 t20:=Tryd.underlying20
 a20:=Tryd.isAgg20
 z20:=Tryd.sizeOf20
 v20:=Tryd.zeroValue20
 t22:=Tryd.underlying31
 a22:=Tryd.isAgg31
 z22:=Tryd.sizeOf31
 v22:=Tryd.zeroValue31
 t26:=Tryd.underlying34
 a26:=Tryd.isAgg34
 z26:=Tryd.sizeOf34
 v26:=Tryd.zeroValue34
 t5:=Tryd.underlying5
 z5:=Tryd.sizeOf5
 i5:=by kernel_rfl }
end Go.Proofs
