import Derived.Test.YtmageajchmoomaaGreatDoorCards
import Derived.Test.YtmageajchmoomaaGreatDoorTie
import Derived.Lib.LaidTab
import Derived.Lib.LaidU8T
import Derived.Shelf.Vars
import Derived.WalkKit
import Derived.ProofKit
import Derived.OpenShut
import Derived.MakeChecks
import Derived.Deep.DeepHandedRow
import Derived.Test.YtmageajchmoomaaGreatDoorAvE
import Derived.Test.YtmageajchmoomaaGreatDoorCbEv
section
namespace Go.Proofs.YtmageajchmoomaaGreatDoor
set_option linter.unusedSimpArgs false
open Go.Av Go.ChangeShapes Go.WideShapes Go.ChangeAt Go.RowKit
set_option linter.unusedVariables false
noncomputable def E0:Env:=⟨tiOf tis,fun _ _=>(false,.bad),fun _=>none,[],0,fun _=>none,fun _=>none,none⟩
theorem hT:TyOk Tryz.prog E0:=qq rfl qcX
theorem own:ownKnob Tryz.prog.godebug=none:=by kernel_rfl
theorem qKl {W:World} {b o:Nat} {v:Value} (h:W.cell? ⟨b,o,none⟩=some v):b < W.heap.size:=by
 rcases Nat.lt_or_ge b W.heap.size with h1 | h1
 ·exact h1
 ·simp[World.cell?,Array.getElem?_eq_none h1] at h
theorem qKm:(Rows.laid_math_bits_deBruijn64tab:DataW Unit)=Lib.tabData .u8 (Lib.deBruijn64tab.map fun z:Nat=>(z:Int)):=by kernel_rfl
theorem qSO {ls:List (String×DataW Unit)} {W:World} (hm:("math/bits.deBruijn64tab",Rows.laid_math_bits_deBruijn64tab)∈ls) (hp:(ls.all fun p=>p.1 != "")=true) (h:laidMet Tryz.prog ls W):TabC 2 Lib.deBruijn64tab W (Was W):=by
 have h1:=Lib.laidMet.reads h hm;rw[qKm] at h1;obtain⟨g,t,cs,fuel,p,hg,hty,hvar,hd⟩:=h1;obtain rfl:=yp ((show Tryz.prog.globalNamed "math/bits.deBruijn64tab" = some 2 by kernel_rfl).symm.trans hg);obtain rfl:=yp ((show (Tryz.prog.globals[2]?).map (·.type)=some 174 by kernel_rfl).symm.trans hty);have hcs:=Lib.cells_of_tab Tryz.underlying174 Tryz.underlying5 (by kernel_rfl) (by kernel_rfl) hd;intro j hj;have hc:W.cell? ⟨2,j,none⟩=some (.int .u8 (Lib.deBruijn64tab.getD j 0:Nat)):=by
  rw[World.var?_cell hg hvar j,← Array.getElem?_toList,hcs];rw[List.getElem?_map,List.getElem?_map,yO hj];simp[List.getD,yO hj]
 exact⟨qKl hc,hc⟩
def laid5:List (String×DataW Unit):=[("math/bits.deBruijn32tab",Rows.laid_math_bits_deBruijn32tab),("math/bits.deBruijn64tab",Rows.laid_math_bits_deBruijn64tab),("internal/strconv.uint64pow10",Rows.laid_internal_strconv_uint64pow10),("unicode/utf8.acceptRanges",Rows.laid_unicode_utf8_acceptRanges),("unicode/utf8.first",Rows.laid_unicode_utf8_first)]
theorem g_at {W:World} (h:laidMetH Tryz.prog laid5 W) (_hsh:W.ShapedOpen Tryz.prog):Go.Av.G W (Was W):=by
 rw[MakeChecks.laidMetH_plain _ _ _ (by kernel_rfl)] at h;exact qSO (by simp[laid5]) (by kernel_rfl) h
def qyp (cs:List Value):Obj→Obj
 | .cells _ t frozen=>.cells cs.toArray t frozen
 | o=>o
noncomputable def qlg (os:Os) (inp:Input):World :=
 { World.holding Tryz.prog os inp with heap:=(((((World.holding Tryz.prog os inp).heap.modify 1 (qyp (Lib.deBruijn32tab.map fun z:Nat=>Value.int .u8 (z:Int)))).modify 2 (qyp (Lib.deBruijn64tab.map fun z:Nat=>Value.int .u8 (z:Int)))).modify 3 (qyp (Lib.firstTab.map fun z=>Value.int .u8 z))).modify 4 (qyp ((List.range 16).flatMap fun i=>[Value.int .u8 (Lib.accLo i),Value.int .u8 (Lib.accHi i)]))).modify 5 (qyp ((List.range 20).map fun z:Nat=>Value.int .u64 ((10 ^ z:Nat):Int))) }
theorem qPQ {t:LI} (h:InR (.sl (.int .i32)) t):i32s t=true:=by
 unfold i32s;rw[List.all_eq_true];intro c hc;have:=qRB (h c hc);simpa using this
end Go.Proofs.YtmageajchmoomaaGreatDoor
end
