import Derived.Shelf.Bits.Mul64
import Derived.Test.YtcfhfjjohmdaoaaDoorProg
namespace Go.Proofs
set_option linter.unusedVariables false
set_option linter.unusedSimpArgs false
open Go.Shelf
def Tryd.lays212_ren:Go.Shelf.Ren:=⟨fun | 212=>97 | 263=>118 | 264=>119 | n=>n,fun | 46=>104 | 51=>119 | 146=>120 | 53=>122 | 148=>123 | n=>n,fun | n=>n⟩
theorem Tryd.lays212:Go.Proofs.Lays.n212 Tryd.prog Tryd.lays212_ren:={
 mixed:=by kernel_rfl
 f212:=Tryd.func97.trans (congrArg some (by kernel_rfl))
 f263:=Tryd.func118.trans (congrArg some (by kernel_rfl))
 f264:=Tryd.func119.trans (congrArg some (by kernel_rfl))
 t46:=Tryd.underlying104
 a46:=Tryd.isAgg104
 z46:=Tryd.sizeOf104
 v46:=Tryd.zeroValue104
 t51:=Tryd.underlying119
 a51:=Tryd.isAgg119
 z51:=Tryd.sizeOf119
 v51:=Tryd.zeroValue119
 t53:=Tryd.underlying122
 a53:=Tryd.isAgg122
 z53:=Tryd.sizeOf122
 v53:=Tryd.zeroValue122
 t146:=Tryd.underlying120
 a146:=Tryd.isAgg120
 z146:=Tryd.sizeOf120
 v146:=Tryd.zeroValue120
 t148:=Tryd.underlying123
 a148:=Tryd.isAgg123
 z148:=Tryd.sizeOf123
 v148:=Tryd.zeroValue123 }
end Go.Proofs
