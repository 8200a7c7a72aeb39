import Derived.Test.YtabdohophompiaaDoorCards
import Derived.Test.YtabdohophompiaaDoorTie
import Derived.Lib.LaidTab
import Derived.Lib.LaidU8T
import Derived.Shelf.Vars
import Derived.WalkKit
import Derived.ProofKit
import Derived.OpenShut
import Derived.MakeChecks
import Derived.Deep.DeepHandedRow
import Derived.Test.YtabdohophompiaaDoorAvE
import Derived.Test.YtabdohophompiaaDoorPxEv
namespace Go.Proofs.YtabdohophompiaaDoor
set_option linter.unusedSimpArgs false
open Go.Av Go.ChangeShapes Go.WideShapes Go.ChangeAt Go.RowKit
set_option linter.unusedVariables false
noncomputable def E0:Env:=⟨tiOf tis,fun _ _=>(false,.bad),fun _=>none,[],0,fun _=>none,fun _=>none,none⟩
theorem hT:TyOk Tryd.prog E0:=qq rfl qeb
theorem own:ownKnob Tryd.prog.godebug=none:=by kernel_rfl
theorem qty {W:World} {b o:Nat} {v:Value} (h:W.cell? ⟨b,o,none⟩=some v):b < W.heap.size:=by
 rcases Nat.lt_or_ge b W.heap.size with h1 | h1
 ·exact h1
 ·simp [World.cell?,Array.getElem?_eq_none h1] at h
theorem qtz:(Rows.laid_math_bits_deBruijn64tab:DataW Unit)=Lib.tabData .u8 (Lib.deBruijn64tab.map fun z:Nat=>(z:Int)):=by kernel_rfl
theorem qyB {ls:List (String×DataW Unit)} {W:World} (hm:("math/bits.deBruijn64tab",Rows.laid_math_bits_deBruijn64tab)∈ls) (hp:(ls.all fun p=>p.1 != "")=true) (h:laidMet Tryd.prog ls W):TabC 2 Lib.deBruijn64tab W (Was W):=by
 have h1:=Lib.laidMet.reads h hm;rw [qtz] at h1;obtain ⟨g,t,cs,fuel,p,hg,hty,hvar,hd⟩:=h1;obtain rfl:=yp ((show Tryd.prog.globalNamed "math/bits.deBruijn64tab" = some 2 by kernel_rfl).symm.trans hg);obtain rfl:=yp ((show (Tryd.prog.globals[2]?).map (·.type)=some 82 by kernel_rfl).symm.trans hty);have hcs:=Lib.cells_of_tab Tryd.underlying82 Tryd.underlying5 (by kernel_rfl) (by kernel_rfl) hd;intro j hj;have hc:W.cell? ⟨2,j,none⟩=some (.int .u8 (Lib.deBruijn64tab.getD j 0:Nat)):=by
  rw [World.var?_cell hg hvar j,← Array.getElem?_toList,hcs];rw [List.getElem?_map,List.getElem?_map,yM hj];simp [List.getD,yM hj]
 exact ⟨qty hc,hc⟩
def laid2:List (String×DataW Unit):=[("math/bits.deBruijn32tab",Rows.laid_math_bits_deBruijn32tab),("math/bits.deBruijn64tab",Rows.laid_math_bits_deBruijn64tab),("internal/strconv.uint64pow10",Rows.laid_internal_strconv_uint64pow10)]
theorem g_at {W:World} (h:laidMetH Tryd.prog laid2 W) (_hsh:W.ShapedOpen Tryd.prog):Go.Av.G W (Was W):=by
 rw [MakeChecks.laidMetH_plain _ _ _ (by kernel_rfl)] at h;exact qyB (by simp [laid2]) (by kernel_rfl) h
def qtA (cs:List Value):Obj→Obj
 | .cells _ t frozen=>.cells cs.toArray t frozen
 | o=>o
noncomputable def qgI (os:Os) (inp:Input):World :=
 { World.holding Tryd.prog os inp with heap:=(((World.holding Tryd.prog os inp).heap.modify 1 (qtA (Lib.deBruijn32tab.map fun z:Nat=>Value.int .u8 (z:Int)))).modify 2 (qtA (Lib.deBruijn64tab.map fun z:Nat=>Value.int .u8 (z:Int)))).modify 3 (qtA ((List.range 20).map fun z:Nat=>Value.int .u64 ((10 ^ z:Nat):Int))) }
end Go.Proofs.YtabdohophompiaaDoor
