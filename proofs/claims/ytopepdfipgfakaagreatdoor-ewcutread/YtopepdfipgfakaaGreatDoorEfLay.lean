import Derived.Ground.NamesProg
import Derived.Shelf.Bytes.SlIndexWhole
import Derived.Shelf.Bytes.SlClone
import Derived.Shelf.Bits.Mul64
import Derived.Test.YtopepdfipgfakaaGreatDoorProg
namespace Go.Proofs
set_option linter.unusedVariables false
set_option linter.unusedSimpArgs false
open Go.Shelf
def Tryz.laysSlK4_ren:Go.Shelf.Ren:=⟨fun | 4=>38 | n=>n,fun | 22=>22 | 4=>4 | 5=>5 | n=>n,fun | n=>n⟩
theorem Tryz.laysSlK4:Go.Proofs.SlLaysK.n4 Tryz.prog Tryz.laysSlK4_ren:={
 mixed:=by kernel_rfl
 f4:=Tryz.func38.trans (congrArg some (by kernel_rfl))
 t4:=Tryz.underlying4
 a4:=Tryz.isAgg4
 z4:=Tryz.sizeOf4
 v4:=Tryz.zeroValue4
 t22:=Tryz.underlying22
 a22:=Tryz.isAgg22
 z22:=Tryz.sizeOf22
 v22:=Tryz.zeroValue22
 t5:=Tryz.underlying5
 i5:=by kernel_rfl }
def Tryz.lays212_ren:Go.Shelf.Ren:=⟨fun | 212=>131 | 263=>182 | 264=>183 | n=>n,fun | 46=>133 | 51=>156 | 146=>157 | 53=>159 | 148=>160 | n=>n,fun | n=>n⟩
theorem Tryz.lays212:Go.Proofs.Lays.n212 Tryz.prog Tryz.lays212_ren:={
 mixed:=by kernel_rfl
 f212:=Tryz.func131.trans (congrArg some (by kernel_rfl))
 f263:=Tryz.func182.trans (congrArg some (by kernel_rfl))
 f264:=Tryz.func183.trans (congrArg some (by kernel_rfl))
 t46:=Tryz.underlying133
 a46:=Tryz.isAgg133
 z46:=Tryz.sizeOf133
 v46:=Tryz.zeroValue133
 t51:=Tryz.underlying156
 a51:=Tryz.isAgg156
 z51:=Tryz.sizeOf156
 v51:=Tryz.zeroValue156
 t53:=Tryz.underlying159
 a53:=Tryz.isAgg159
 z53:=Tryz.sizeOf159
 v53:=Tryz.zeroValue159
 t146:=Tryz.underlying157
 a146:=Tryz.isAgg157
 z146:=Tryz.sizeOf157
 v146:=Tryz.zeroValue157
 t148:=Tryz.underlying160
 a148:=Tryz.isAgg160
 z148:=Tryz.sizeOf160
 v148:=Tryz.zeroValue160 }
end Go.Proofs
