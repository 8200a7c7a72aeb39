import Derived.Ground.NamesProg
import Derived.Shelf.Bytes.SlIndexWhole
import Derived.Shelf.Bytes.SlClone
import Derived.Shelf.Bits.Mul64
import Derived.Test.YtopepdfipgfakaaGreatDoorProg
namespace Go.Proofs
set_option linter.unusedVariables false
set_option linter.unusedSimpArgs false
open Go.Shelf
def Tryz.lays185_ren:Go.Shelf.Ren:=⟨fun | 185=>125 | 187=>109 | 115=>175 | 253=>176 | 224=>177 | 254=>178 | 255=>151 | 291=>213 | n=>n,fun | 37=>22 | 3=>3 | 4=>4 | 0=>0 | 5=>5 | 46=>133 | 9=>9 | 146=>157 | 51=>156 | n=>n,fun | 1=>0 | n=>n⟩
theorem Tryz.lays185:Go.Proofs.Lays.n185 Tryz.prog Tryz.lays185_ren:={
 mixed:=by kernel_rfl
 f115:=Tryz.func175.trans (congrArg some (by kernel_rfl))
 f185:=Tryz.func125.trans (congrArg some (by kernel_rfl))
 f187:=Tryz.func109.trans (congrArg some (by kernel_rfl))
 f224:=Tryz.func177.trans (congrArg some (by kernel_rfl))
 f253:=Tryz.func176.trans (congrArg some (by kernel_rfl))
 f254:=Tryz.func178.trans (congrArg some (by kernel_rfl))
 f255:=Tryz.func151.trans (congrArg some (by kernel_rfl))
 f291:=Tryz.func213.trans (congrArg some (by kernel_rfl))
 t0:=Tryz.underlying0
 a0:=Tryz.isAgg0
 z0:=Tryz.sizeOf0
 v0:=Tryz.zeroValue0
 t3:=Tryz.underlying3
 a3:=Tryz.isAgg3
 z3:=Tryz.sizeOf3
 v3:=Tryz.zeroValue3
 t4:=Tryz.underlying4
 a4:=Tryz.isAgg4
 z4:=Tryz.sizeOf4
 v4:=Tryz.zeroValue4
 t5:=Tryz.underlying5
 a5:=Tryz.isAgg5
 z5:=Tryz.sizeOf5
 v5:=Tryz.zeroValue5
 t9:=Tryz.underlying9
 a9:=Tryz.isAgg9
 z9:=Tryz.sizeOf9
 v9:=Tryz.zeroValue9
 t37:=Tryz.underlying22
 a37:=Tryz.isAgg22
 z37:=Tryz.sizeOf22
 v37:=Tryz.zeroValue22
 t46:=Tryz.underlying133
 a46:=Tryz.isAgg133
 z46:=Tryz.sizeOf133
 v46:=Tryz.zeroValue133
 t51:=Tryz.underlying156
 a51:=Tryz.isAgg156
 z51:=Tryz.sizeOf156
 v51:=Tryz.zeroValue156
 t146:=Tryz.underlying157
 a146:=Tryz.isAgg157
 z146:=Tryz.sizeOf157
 v146:=Tryz.zeroValue157
 g1:=by kernel_rfl }
def Tryz.laysSlK4_ren:Go.Shelf.Ren:=⟨fun | 4=>38 | n=>n,fun | 22=>22 | 4=>4 | 5=>5 | n=>n,fun | n=>n⟩
theorem Tryz.laysSlK4:Go.Proofs.SlLaysK.n4 Tryz.prog Tryz.laysSlK4_ren:={
 mixed:=by kernel_rfl
 f4:=Tryz.func38.trans (congrArg some (by kernel_rfl))
 t4:=Tryz.underlying4
 a4:=Tryz.isAgg4
 z4:=Tryz.sizeOf4
 v4:=Tryz.zeroValue4
 t22:=Tryz.underlying22
 a22:=Tryz.isAgg22
 z22:=Tryz.sizeOf22
 v22:=Tryz.zeroValue22
 t5:=Tryz.underlying5
 i5:=by kernel_rfl }
def Tryz.lays212_ren:Go.Shelf.Ren:=⟨fun | 212=>131 | 263=>182 | 264=>183 | n=>n,fun | 46=>133 | 51=>156 | 146=>157 | 53=>159 | 148=>160 | n=>n,fun | n=>n⟩
theorem Tryz.lays212:Go.Proofs.Lays.n212 Tryz.prog Tryz.lays212_ren:={
 mixed:=by kernel_rfl
 f212:=Tryz.func131.trans (congrArg some (by kernel_rfl))
 f263:=Tryz.func182.trans (congrArg some (by kernel_rfl))
 f264:=Tryz.func183.trans (congrArg some (by kernel_rfl))
 t46:=Tryz.underlying133
 a46:=Tryz.isAgg133
 z46:=Tryz.sizeOf133
 v46:=Tryz.zeroValue133
 t51:=Tryz.underlying156
 a51:=Tryz.isAgg156
 z51:=Tryz.sizeOf156
 v51:=Tryz.zeroValue156
 t53:=Tryz.underlying159
 a53:=Tryz.isAgg159
 z53:=Tryz.sizeOf159
 v53:=Tryz.zeroValue159
 t146:=Tryz.underlying157
 a146:=Tryz.isAgg157
 z146:=Tryz.sizeOf157
 v146:=Tryz.zeroValue157
 t148:=Tryz.underlying160
 a148:=Tryz.isAgg160
 z148:=Tryz.sizeOf160
 v148:=Tryz.zeroValue160 }
end Go.Proofs
