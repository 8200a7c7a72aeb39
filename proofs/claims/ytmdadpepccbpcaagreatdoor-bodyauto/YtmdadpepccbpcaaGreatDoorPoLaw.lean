import Derived.Test.YtmdadpepccbpcaaGreatDoorCards
import Derived.Test.YtmdadpepccbpcaaGreatDoorTie
import Derived.Lib.LaidTab
import Derived.Lib.LaidU8T
import Derived.Shelf.Vars
import Derived.WalkKit
import Derived.ProofKit
import Derived.OpenShut
import Derived.MakeChecks
import Derived.Deep.DeepHandedRow
import Derived.Test.YtmdadpepccbpcaaGreatDoorAvE
import Derived.Test.YtmdadpepccbpcaaGreatDoorPoEv
section
namespace Go.Proofs.YtmdadpepccbpcaaGreatDoor
set_option linter.unusedSimpArgs false
open Go.Av Go.ChangeShapes Go.WideShapes Go.ChangeAt Go.RowKit
set_option linter.unusedVariables false
noncomputable def E0:Env:=⟨tiOf tis,fun _ _=>(false,.bad),fun _=>none,[],0,fun _=>none,fun _=>none,none⟩
theorem hT:TyOk Tryz.prog E0:=qT rfl qoh
theorem own:ownKnob Tryz.prog.godebug=none:=by kernel_rfl
theorem qiZ {W:World} {b o:Nat} {v:Value} (h:W.cell? ⟨b,o,none⟩=some v):b < W.heap.size:=by
 rcases Nat.lt_or_ge b W.heap.size with h1 | h1
 ·exact h1
 ·simp[World.cell?,Array.getElem?_eq_none h1] at h
def rho:Go.Shelf.Ren:=⟨fun n=>n,fun | 5=>5 | 119=>184 | 138=>186 | 139=>187 | n=>n,fun n=>n⟩
theorem qUt:U8Types Tryz.prog rho:=⟨Tryz.underlying5,Tryz.underlying184,Tryz.underlying186,Tryz.underlying187⟩
theorem qUu:U8Extra Tryz.prog rho:=⟨by kernel_rfl,by kernel_rfl,by kernel_rfl,by kernel_rfl,by kernel_rfl,by kernel_rfl,by kernel_rfl⟩
def laid4:List (String×DataW Unit):=[("math/bits.deBruijn32tab",Rows.laid_math_bits_deBruijn32tab),("math/bits.deBruijn64tab",Rows.laid_math_bits_deBruijn64tab),("unicode/utf8.acceptRanges",Rows.laid_unicode_utf8_acceptRanges),("unicode/utf8.first",Rows.laid_unicode_utf8_first)]
theorem qBl:Rows.laid_unicode_utf8_first=Lib.firstData:=by kernel_rfl
theorem qvY:Rows.laid_unicode_utf8_acceptRanges=Lib.acceptData:=by kernel_rfl
theorem qOJ:(Rows.laid_math_bits_deBruijn64tab:DataW Unit)=Lib.tabData .u8 (Lib.deBruijn64tab.map fun z:Nat=>(z:Int)):=by kernel_rfl
theorem tabs {W:World} (h:laidMet Tryz.prog laid4 W):qoM W (Was W):=by
 have h1:=Lib.laidMet.reads h (n := "unicode/utf8.first") (d:=Rows.laid_unicode_utf8_first) (by simp[laid4]);have h2:=Lib.laidMet.reads h (n := "unicode/utf8.acceptRanges") (d:=Rows.laid_unicode_utf8_acceptRanges) (by simp[laid4]);rw[qBl] at h1;rw[qvY] at h2;obtain⟨k1,k2⟩:=utf8Tabs_of_readsT qUt qUu h1 h2;exact⟨fun c hc=>⟨qiZ (k1 c hc),k1 c hc⟩,fun i hi=>⟨⟨qiZ (k2 i hi).1,(k2 i hi).1⟩,qiZ (k2 i hi).2,(k2 i hi).2⟩⟩
theorem qXo {W:World} (h:laidMet Tryz.prog laid4 W):TabC 2 Lib.deBruijn64tab W (Was W):=by
 have h1:=Lib.laidMet.reads h (n := "math/bits.deBruijn64tab") (d:=Rows.laid_math_bits_deBruijn64tab) (by simp[laid4]);rw[qOJ] at h1;obtain⟨g,t,cs,fuel,p,hg,hty,hvar,hd⟩:=h1;obtain rfl:=yp ((show Tryz.prog.globalNamed "math/bits.deBruijn64tab" = some 2 by kernel_rfl).symm.trans hg);obtain rfl:=yp ((show (Tryz.prog.globals[2]?).map (·.type)=some 168 by kernel_rfl).symm.trans hty);have hcs:=Lib.cells_of_tab Tryz.underlying168 Tryz.underlying5 (by kernel_rfl) (by kernel_rfl) hd;intro j hj;have hc:W.cell? ⟨2,j,none⟩=some (.int .u8 (Lib.deBruijn64tab.getD j 0:Nat)):=by
  rw[World.var?_cell hg hvar j,← Array.getElem?_toList,hcs];rw[List.getElem?_map,List.getElem?_map,yO hj];simp[List.getD,yO hj]
 exact⟨qiZ hc,hc⟩
theorem g_at {W:World} (h:laidMetH Tryz.prog laid4 W) (hsh:W.ShapedOpen Tryz.prog):Go.Av.G W (Was W):=by
 obtain⟨m,hm⟩:=cell_of_shapedOpen_int (P:=Tryz.prog) (g:=0) (t:=3) (zero := #[.int .i64 0]) hsh (of_decide_eq_true (by kernel_rfl)) (by kernel_rfl) rfl (by kernel_rfl) (by kernel_rfl) Tryz.underlying3;rw[MakeChecks.laidMetH_plain _ _ _ (by kernel_rfl)] at h;refine⟨m,⟨tabs h,qXo h⟩,fun g s x hg=>?_⟩;unfold glm at hg;split at hg
 ·rename_i e;subst e;cases hg;refine .adr _ _ _ [.int .i64 m] rfl ⟨rfl,fun _=>⟨rfl,fun i v hi=>?_⟩⟩;match i,hi with
  | 0,hi =>
   simp only[y3,ya] at hi;subst hi;exact⟨qiZ hm,hm⟩
  | i+1,hi=>simp at hi
 ·cases hg
def qHp (cs:List Value):Obj→Obj
 | .cells _ t frozen=>.cells cs.toArray t frozen
 | o=>o
noncomputable def qme (os:Os) (inp:Input):World :=
 { World.holding Tryz.prog os inp with heap:=((((World.holding Tryz.prog os inp).heap.modify 1 (qHp (Lib.deBruijn32tab.map fun z:Nat=>Value.int .u8 (z:Int)))).modify 2 (qHp (Lib.deBruijn64tab.map fun z:Nat=>Value.int .u8 (z:Int)))).modify 3 (qHp (Lib.firstTab.map fun z=>Value.int .u8 z))).modify 4 (qHp ((List.range 16).flatMap fun i=>[Value.int .u8 (Lib.accLo i),Value.int .u8 (Lib.accHi i)])) }
theorem qUv {t:LI} (h:InR (.sl (.int .i32)) t):i32s t=true:=by
 unfold i32s;rw[List.all_eq_true];intro c hc;have:=qVN (h c hc);simpa using this
end Go.Proofs.YtmdadpepccbpcaaGreatDoor
end
