import Derived.Ground.NamesProg
import Derived.Ground.SlbNamesProg
import Derived.Shelf.Spec.TrailingZeros
import Derived.Shelf.Bytes.SlJoin
import Derived.Shelf.Bytes.SlClone
import Derived.Test.YtabdohophompiaaDoorProg
namespace Go.Proofs
set_option linter.unusedVariables false
set_option linter.unusedSimpArgs false
open Go.Shelf
def Tryd.lays7_29_ren:Go.Shelf.Ren:=⟨fun | 29=>56 | n=>n,fun | 22=>74 | 3=>3 | 4=>4 | 25=>62 | 54=>82 | 0=>0 | 5=>5 | n=>n,fun | 1=>2 | n=>n⟩
theorem Tryd.lays7_29:Go.Proofs.Lays7.n29 Tryd.prog Tryd.lays7_29_ren:={
 mixed:=by kernel_rfl
 f29:=Tryd.func56.trans (congrArg some (by kernel_rfl))
 t0:=Tryd.underlying0
 a0:=Tryd.isAgg0
 z0:=Tryd.sizeOf0
 v0:=Tryd.zeroValue0
 i0:=by kernel_rfl
 t3:=Tryd.underlying3
 a3:=Tryd.isAgg3
 z3:=Tryd.sizeOf3
 v3:=Tryd.zeroValue3
 i3:=by kernel_rfl
 t4:=Tryd.underlying4
 a4:=Tryd.isAgg4
 z4:=Tryd.sizeOf4
 v4:=Tryd.zeroValue4
 i4:=by kernel_rfl
 t5:=Tryd.underlying5
 a5:=Tryd.isAgg5
 z5:=Tryd.sizeOf5
 v5:=Tryd.zeroValue5
 i5:=by kernel_rfl
 t22:=Tryd.underlying74
 a22:=Tryd.isAgg74
 z22:=Tryd.sizeOf74
 v22:=Tryd.zeroValue74
 i22:=by kernel_rfl
 t25:=Tryd.underlying62
 a25:=Tryd.isAgg62
 z25:=Tryd.sizeOf62
 v25:=Tryd.zeroValue62
 i25:=by kernel_rfl
 t54:=Tryd.underlying82
 a54:=Tryd.isAgg82
 z54:=Tryd.sizeOf82
 g1:=by kernel_rfl }
def Tryd.laysSlJ14_ren:Go.Shelf.Ren:=⟨fun | 14=>12 | 15=>27 | n=>n,fun | 26=>25 | 22=>22 | 3=>3 | 4=>4 | 0=>0 | 9=>9 | 20=>20 | 5=>5 | n=>n,fun | n=>n⟩
theorem Tryd.laysSlJ14:Go.Proofs.SlLaysJ.n14 Tryd.prog Tryd.laysSlJ14_ren:={
 mixed:=by kernel_rfl
 f14:=Tryd.func12.trans (congrArg some (by kernel_rfl))
 f15:=Tryd.func27.trans (congrArg some (by kernel_rfl))
 t0:=Tryd.underlying0
 a0:=Tryd.isAgg0
 z0:=Tryd.sizeOf0
 v0:=Tryd.zeroValue0
 t3:=Tryd.underlying3
 a3:=Tryd.isAgg3
 z3:=Tryd.sizeOf3
 v3:=Tryd.zeroValue3
 t4:=Tryd.underlying4
 a4:=Tryd.isAgg4
 z4:=Tryd.sizeOf4
 v4:=Tryd.zeroValue4
 t9:=Tryd.underlying9
 a9:=Tryd.isAgg9
 z9:=Tryd.sizeOf9
 v9:=Tryd.zeroValue9
 t20:=Tryd.underlying20
 a20:=Tryd.isAgg20
 z20:=Tryd.sizeOf20
 v20:=Tryd.zeroValue20
 t22:=Tryd.underlying22
 a22:=Tryd.isAgg22
 z22:=Tryd.sizeOf22
 v22:=Tryd.zeroValue22
 t26:=Tryd.underlying25
 a26:=Tryd.isAgg25
 z26:=Tryd.sizeOf25
 v26:=Tryd.zeroValue25
 t5:=Tryd.underlying5
 z5:=Tryd.sizeOf5
 i5:=by kernel_rfl }
def Tryd.laysSlK4_ren:Go.Shelf.Ren:=⟨fun | 4=>19 | n=>n,fun | 22=>22 | 4=>4 | 5=>5 | n=>n,fun | n=>n⟩
theorem Tryd.laysSlK4:Go.Proofs.SlLaysK.n4 Tryd.prog Tryd.laysSlK4_ren:={
 mixed:=by kernel_rfl
 f4:=Tryd.func19.trans (congrArg some (by kernel_rfl))
 t4:=Tryd.underlying4
 a4:=Tryd.isAgg4
 z4:=Tryd.sizeOf4
 v4:=Tryd.zeroValue4
 t22:=Tryd.underlying22
 a22:=Tryd.isAgg22
 z22:=Tryd.sizeOf22
 v22:=Tryd.zeroValue22
 t5:=Tryd.underlying5
 i5:=by kernel_rfl }
end Go.Proofs
