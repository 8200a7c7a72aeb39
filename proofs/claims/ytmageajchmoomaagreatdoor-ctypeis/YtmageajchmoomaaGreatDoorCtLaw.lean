import Derived.Test.YtmageajchmoomaaGreatDoorCards
import Derived.Test.YtmageajchmoomaaGreatDoorTie
import Derived.Lib.LaidU8T
import Derived.Shelf.Vars
import Derived.WalkKit
import Derived.ProofKit
import Derived.OpenShut
import Derived.MakeChecks
import Derived.Deep.DeepHandedRow
import Derived.Test.YtmageajchmoomaaGreatDoorAvE
import Derived.Test.YtmageajchmoomaaGreatDoorCtEv
section
namespace Go.Proofs.YtmageajchmoomaaGreatDoor
set_option linter.unusedSimpArgs false
open Go.Av Go.ChangeShapes Go.WideShapes Go.ChangeAt Go.RowKit
set_option linter.unusedVariables false
noncomputable def E0:Env:=⟨tiOf tis,fun _ _=>(false,.bad),fun _=>none,[],0,fun _=>none,fun _=>none,none⟩
theorem hT:TyOk Tryz.prog E0:=qa rfl qt
theorem own:ownKnob Tryz.prog.godebug=none:=by kernel_rfl
theorem g_at {ls:List (String×DataW Unit)} {W:World} (_:laidMetH Tryz.prog ls W) (_:W.ShapedOpen Tryz.prog):Go.Av.G W (Was W):=trivial
def qqJ (cs:List Value):Obj→Obj
 | .cells _ t frozen=>.cells cs.toArray t frozen
 | o=>o
noncomputable def qfc (os:Os) (inp:Input):World :=
 { World.holding Tryz.prog os inp with heap:=((World.holding Tryz.prog os inp).heap.modify 3 (qqJ (Lib.firstTab.map fun z=>Value.int .u8 z))).modify 4 (qqJ ((List.range 16).flatMap fun i=>[Value.int .u8 (Lib.accLo i),Value.int .u8 (Lib.accHi i)])) }
end Go.Proofs.YtmageajchmoomaaGreatDoor
end
