import Derived.Test.YtcbimkaeoojceaaGreatDoorCards
import Derived.Test.YtcbimkaeoojceaaGreatDoorTie
import Derived.Lib.LaidU8T
import Derived.Shelf.Vars
import Derived.WalkKit
import Derived.ProofKit
import Derived.OpenShut
import Derived.MakeChecks
import Derived.Deep.DeepHandedRow
import Derived.Test.YtcbimkaeoojceaaGreatDoorAvE
import Derived.Test.YtcbimkaeoojceaaGreatDoorPjEv
set_option linter.unusedSimpArgs false
set_option linter.unusedVariables false
namespace Go.Proofs.YtcbimkaeoojceaaGreatDoor
open Go.Av Go.ChangeShapes Go.WideShapes Go.ChangeAt Go.RowKit
noncomputable def E0:Env:=⟨tiOf tis,fun _ _=>(false,.bad),fun _=>none,[],0,fun _=>none,fun _=>none,none⟩
theorem hT:TyOk Tryz.prog E0:=qo rfl qcq
theorem own:ownKnob Tryz.prog.godebug=none:=by kernel_rfl
theorem g_at {ls:List (String×DataW Unit)} {W:World} (_:laidMetH Tryz.prog ls W) (_:W.ShapedOpen Tryz.prog):Go.Av.G W (Was W):=trivial
def qOk (cs:List Value):Obj→Obj
 | .cells _ t frozen=>.cells cs.toArray t frozen
 | o=>o
noncomputable def qlk (os:Os) (inp:Input):World :=
 { World.holding Tryz.prog os inp with heap:=((World.holding Tryz.prog os inp).heap.modify 1 (qOk (Lib.firstTab.map fun z=>Value.int .u8 z))).modify 2 (qOk ((List.range 16).flatMap fun i=>[Value.int .u8 (Lib.accLo i),Value.int .u8 (Lib.accHi i)])) }
theorem qOl {t:LI} (h:InR (.sl (.int .i32)) t):i32s t=true:=by
 unfold i32s;rw [List.all_eq_true];intro c hc;have:=qPh (h c hc);simpa using this
end Go.Proofs.YtcbimkaeoojceaaGreatDoor
