import Derived.Test.YtejhjmmdachijaaDoorCards
import Derived.Test.YtejhjmmdachijaaDoorTie
import Derived.Lib.LaidU8T
import Derived.Shelf.Vars
import Derived.WalkKit
import Derived.ProofKit
import Derived.OpenShut
import Derived.MakeChecks
import Derived.Deep.DeepHandedRow
import Derived.Test.YtejhjmmdachijaaDoorAvE
import Derived.Test.YtejhjmmdachijaaDoorQrEv
namespace Go.Proofs.YtejhjmmdachijaaDoor
set_option linter.unusedSimpArgs false
open Go.Av Go.ChangeShapes Go.WideShapes Go.ChangeAt Go.RowKit
set_option linter.unusedVariables false
noncomputable def E0 : Env := ⟨tiOf tis, fun _ _ => (false, .bad), fun _ => none, [], 0, fun _ => none, fun _ => none, none⟩
theorem hT : TyOk Tryd.prog E0 := tyOk_of_table rfl tis_ok
theorem own : ownKnob Tryd.prog.godebug = none := by kernel_rfl
def rho : Go.Shelf.Ren := ⟨fun n => n, fun | 5 => 5 | 119 => 95 | 138 => 97 | 139 => 98 | n => n, fun | 3 => 1 | 4 => 2 | n => n⟩
theorem u8types : U8Types Tryd.prog rho := ⟨Tryd.underlying5, Tryd.underlying95, Tryd.underlying97, Tryd.underlying98⟩
theorem u8extra : U8Extra Tryd.prog rho := ⟨by kernel_rfl, by kernel_rfl, by kernel_rfl, by kernel_rfl, by kernel_rfl, by kernel_rfl, by kernel_rfl⟩
def laid2 : List (String × DataW Unit) := [("unicode/utf8.acceptRanges", Rows.laid_unicode_utf8_acceptRanges), ("unicode/utf8.first", Rows.laid_unicode_utf8_first)]
theorem first_same : Rows.laid_unicode_utf8_first = Lib.firstData := by kernel_rfl
theorem accept_same : Rows.laid_unicode_utf8_acceptRanges = Lib.acceptData := by kernel_rfl
theorem block_lt {W : World} {b o : Nat} {v : Value} (h : W.cell? ⟨b, o, none⟩ = some v) : b < W.heap.size := by
  rcases Nat.lt_or_ge b W.heap.size with h1 | h1
  · exact h1
  · simp [World.cell?, Array.getElem?_eq_none h1] at h
theorem tabs {W : World} (h : laidMetH Tryd.prog laid2 W) : TabsOk W (Was W) := by
  rw [MakeChecks.laidMetH_plain _ _ _ (by kernel_rfl)] at h
  have h1 := Lib.laidMet.reads h (n := "unicode/utf8.first") (d := Rows.laid_unicode_utf8_first) (by simp [laid2])
  have h2 := Lib.laidMet.reads h (n := "unicode/utf8.acceptRanges") (d := Rows.laid_unicode_utf8_acceptRanges) (by simp [laid2])
  rw [first_same] at h1
  rw [accept_same] at h2
  obtain ⟨k1, k2⟩ := utf8Tabs_of_readsT u8types u8extra h1 h2
  exact ⟨fun c hc => ⟨block_lt (k1 c hc), k1 c hc⟩, fun i hi => ⟨⟨block_lt (k2 i hi).1, (k2 i hi).1⟩, block_lt (k2 i hi).2, (k2 i hi).2⟩⟩
theorem g_at {W : World} (h : laidMetH Tryd.prog laid2 W) (hsh : W.ShapedOpen Tryd.prog) : Go.Av.G W (Was W) := by
  obtain ⟨m, hm⟩ := cell_of_shapedOpen_int (P := Tryd.prog) (g := 0) (t := 3) (zero := #[.int .i64 0]) hsh (of_decide_eq_true (by kernel_rfl)) (by kernel_rfl) rfl (by kernel_rfl) (by kernel_rfl) Tryd.underlying3
  refine ⟨m, tabs h, fun g s x hg => ?_⟩
  unfold glm at hg
  split at hg
  · rename_i e
    subst e
    cases hg
    refine .adr _ _ _ [.int .i64 m] rfl ⟨rfl, fun _ => ⟨rfl, fun i v hi => ?_⟩⟩
    match i, hi with
    | 0, hi =>
      simp only [List.getElem?_cons_zero, Option.some.injEq] at hi
      subst hi
      exact ⟨block_lt hm, hm⟩
    | i + 1, hi => simp at hi
  · cases hg
def layRow (cs : List Value) : Obj → Obj
  | .cells _ t frozen => .cells cs.toArray t frozen
  | o => o
noncomputable def laidWorld (os : Os) (inp : Input) : World :=
  { World.holding Tryd.prog os inp with heap := ((World.holding Tryd.prog os inp).heap.modify 1 (layRow (Lib.firstTab.map fun z => Value.int .u8 z))).modify 2 (layRow ((List.range 16).flatMap fun i => [Value.int .u8 (Lib.accLo i), Value.int .u8 (Lib.accHi i)])) }
end Go.Proofs.YtejhjmmdachijaaDoor
