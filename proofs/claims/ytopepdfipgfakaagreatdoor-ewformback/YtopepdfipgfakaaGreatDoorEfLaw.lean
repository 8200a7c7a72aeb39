import Derived.Test.YtopepdfipgfakaaGreatDoorCards
import Derived.Test.YtopepdfipgfakaaGreatDoorTie
import Derived.Lib.LaidU8T
import Derived.Shelf.Vars
import Derived.WalkKit
import Derived.ProofKit
import Derived.OpenShut
import Derived.MakeChecks
import Derived.Deep.DeepHandedRow
import Derived.Test.YtopepdfipgfakaaGreatDoorAvE
import Derived.Test.YtopepdfipgfakaaGreatDoorEfEv
namespace Go.Proofs.YtopepdfipgfakaaGreatDoor
set_option linter.unusedSimpArgs false
open Go.Av Go.ChangeShapes Go.WideShapes Go.ChangeAt Go.RowKit
set_option linter.unusedVariables false
noncomputable def E0:Env:=⟨tiOf tis,fun _ _=>(false,.bad),fun _=>none,[],0,fun _=>none,fun _=>none,none⟩
theorem hT:TyOk Tryz.prog E0:=qr rfl qeN
theorem own:ownKnob Tryz.prog.godebug=none:=by kernel_rfl
theorem qyH {W:World} {b o:Nat} {v:Value} (h:W.cell? ⟨b,o,none⟩=some v):b < W.heap.size:=by
 rcases Nat.lt_or_ge b W.heap.size with h1 | h1
 ·exact h1
 ·simp [World.cell?,Array.getElem?_eq_none h1] at h
theorem g_at {ls:List (String×DataW Unit)} {W:World} (h:laidMetH Tryz.prog ls W) (hsh:W.ShapedOpen Tryz.prog):Go.Av.G W (Was W):=by
 obtain ⟨m,hm⟩:=cell_of_shapedOpen_int (P:=Tryz.prog) (g:=0) (t:=3) (zero := #[.int .i64 0]) hsh (of_decide_eq_true (by kernel_rfl)) (by kernel_rfl) rfl (by kernel_rfl) (by kernel_rfl) Tryz.underlying3
 refine ⟨m,fun g s x hg=>?_⟩
 unfold glm at hg
 split at hg
 ·rename_i e
  subst e
  cases hg
  refine .adr _ _ _ [.int .i64 m] rfl ⟨rfl,fun _=>⟨rfl,fun i v hi=>?_⟩⟩
  match i,hi with
  | 0,hi =>
   simp only [List.getElem?_cons_zero,Option.some.injEq] at hi
   subst hi
   exact ⟨qyH hm,hm⟩
  | i+1,hi=>simp at hi
 ·cases hg
def qDB (cs:List Value):Obj→Obj
 | .cells _ t frozen=>.cells cs.toArray t frozen
 | o=>o
noncomputable def qhZ (os:Os) (inp:Input):World :=
 { World.holding Tryz.prog os inp with heap:=((World.holding Tryz.prog os inp).heap.modify 3 (qDB (Lib.firstTab.map fun z=>Value.int .u8 z))).modify 4 (qDB ((List.range 16).flatMap fun i=>[Value.int .u8 (Lib.accLo i),Value.int .u8 (Lib.accHi i)])) }
end Go.Proofs.YtopepdfipgfakaaGreatDoor
