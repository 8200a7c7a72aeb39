import Derived.Test.YtcfhfjjohmdaoaaDoorCards
import Derived.Test.YtcfhfjjohmdaoaaDoorTie
import Derived.Lib.LaidU8T
import Derived.Shelf.Vars
import Derived.WalkKit
import Derived.ProofKit
import Derived.OpenShut
import Derived.MakeChecks
import Derived.Deep.DeepHandedRow
import Derived.Test.YtcfhfjjohmdaoaaDoorAvE
import Derived.Test.YtcfhfjjohmdaoaaDoorFwEv
namespace Go.Proofs.YtcfhfjjohmdaoaaDoor
set_option linter.unusedSimpArgs false
open Go.Av Go.ChangeShapes Go.WideShapes Go.ChangeAt Go.RowKit
set_option linter.unusedVariables false
noncomputable def E0:Env:=⟨tiOf tis,fun _ _=>(false,.bad),fun _=>none,[],0,fun _=>none,fun _=>none,none⟩
theorem hT:TyOk Tryd.prog E0:=qn rfl qeo
theorem own:ownKnob Tryd.prog.godebug=none:=by kernel_rfl
def rho:Go.Shelf.Ren:=⟨fun n=>n,fun | 5=>5 | 119=>129 | 138=>131 | 139=>132 | n=>n,fun | 3=>1 | 4=>2 | n=>n⟩
theorem qwR:U8Types Tryd.prog rho:=⟨Tryd.underlying5,Tryd.underlying129,Tryd.underlying131,Tryd.underlying132⟩
theorem qwS:U8Extra Tryd.prog rho:=⟨by kernel_rfl,by kernel_rfl,by kernel_rfl,by kernel_rfl,by kernel_rfl,by kernel_rfl,by kernel_rfl⟩
def laid2:List (String×DataW Unit):=[("unicode/utf8.acceptRanges",Rows.laid_unicode_utf8_acceptRanges),("unicode/utf8.first",Rows.laid_unicode_utf8_first)]
theorem qqH:Rows.laid_unicode_utf8_first=Lib.firstData:=by kernel_rfl
theorem qoi:Rows.laid_unicode_utf8_acceptRanges=Lib.acceptData:=by kernel_rfl
theorem qit {W:World} {b o:Nat} {v:Value} (h:W.cell? ⟨b,o,none⟩=some v):b < W.heap.size:=by
 rcases Nat.lt_or_ge b W.heap.size with h1 | h1
 ·exact h1
 ·simp [World.cell?,Array.getElem?_eq_none h1] at h
theorem tabs {W:World} (h:laidMetH Tryd.prog laid2 W):qjD W (Was W):=by
 rw [MakeChecks.laidMetH_plain _ _ _ (by kernel_rfl)] at h;have h1:=Lib.laidMet.reads h (n := "unicode/utf8.first") (d:=Rows.laid_unicode_utf8_first) (by simp [laid2]);have h2:=Lib.laidMet.reads h (n := "unicode/utf8.acceptRanges") (d:=Rows.laid_unicode_utf8_acceptRanges) (by simp [laid2]);rw [qqH] at h1;rw [qoi] at h2;obtain ⟨k1,k2⟩:=utf8Tabs_of_readsT qwR qwS h1 h2;exact ⟨fun c hc=>⟨qit (k1 c hc),k1 c hc⟩,fun i hi=>⟨⟨qit (k2 i hi).1,(k2 i hi).1⟩,qit (k2 i hi).2,(k2 i hi).2⟩⟩
theorem g_at {W:World} (h:laidMetH Tryd.prog laid2 W) (hsh:W.ShapedOpen Tryd.prog):Go.Av.G W (Was W):=by
 obtain ⟨m,hm⟩:=cell_of_shapedOpen_int (P:=Tryd.prog) (g:=0) (t:=3) (zero := #[.int .i64 0]) hsh (of_decide_eq_true (by kernel_rfl)) (by kernel_rfl) rfl (by kernel_rfl) (by kernel_rfl) Tryd.underlying3;refine ⟨m,tabs h,fun g s x hg=>?_⟩;unfold glm at hg;split at hg
 ·rename_i e;subst e;cases hg;refine .adr _ _ _ [.int .i64 m] rfl ⟨rfl,fun _=>⟨rfl,fun i v hi=>?_⟩⟩;match i,hi with
  | 0,hi =>
   simp only [yZ,ya] at hi;subst hi;exact ⟨qit hm,hm⟩
  | i+1,hi=>simp at hi
 ·cases hg
def qwT (cs:List Value):Obj→Obj
 | .cells _ t frozen=>.cells cs.toArray t frozen
 | o=>o
noncomputable def qal (os:Os) (inp:Input):World :=
 { World.holding Tryd.prog os inp with heap:=((World.holding Tryd.prog os inp).heap.modify 1 (qwT (Lib.firstTab.map fun z=>Value.int .u8 z))).modify 2 (qwT ((List.range 16).flatMap fun i=>[Value.int .u8 (Lib.accLo i),Value.int .u8 (Lib.accHi i)])) }
end Go.Proofs.YtcfhfjjohmdaoaaDoor
