/-
  What the four statements' last steps share.
-/
import Derived.Test.YtopepdfipgfakaaRows
import Derived.WalkKit
import Derived.ProofKit
import Derived.OpenShut
import Derived.Test.YtopepdfipgfakaaAvD
import Derived.Test.YtopepdfipgfakaaEcEv
namespace Go.Proofs.Ytopepdfipgfakaa
open Go.Av Go.ChangeShapes Go.WideShapes Go.ChangeAt Go.RowKit
theorem own : ownKnob Try.prog.godebug = none := by kernel_rfl
noncomputable def E0 : Env := ⟨tiOf tis, fun _ _ => (false, .bad), fun _ => none, [], 0, fun _ => none, fun _ => none, none⟩
theorem hT : TyOk Try.prog E0 := tyOk_of_table rfl tis_ok
theorem i32s_of {t : List Int} (h : InR (.sl (.int .i32)) t) : i32s t = true := by
  unfold i32s
  rw [List.all_eq_true]
  intro c hc
  have := wf_i32 (h c hc)
  simpa using this
end Go.Proofs.Ytopepdfipgfakaa
