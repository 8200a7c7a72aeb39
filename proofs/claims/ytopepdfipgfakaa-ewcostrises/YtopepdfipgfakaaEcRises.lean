/- Proved: the law EwcostRises returns true for every input (no condition). -/
import Derived.Test.YtopepdfipgfakaaEcLaw
namespace Go.Proofs.Ytopepdfipgfakaa.ewcostRises
open Go.Av Go.ChangeShapes Go.WideShapes Go.ChangeAt Go.RowKit
set_option linter.unusedVariables false

/-! ### THE ROW's STEP -/
set_option maxRecDepth 100000 in
theorem lifted (os : Os) (started : os.Started) (H : Type) (enc : TypeId × Value → H) :
    ReturnsInHanded {} Try.checked os 6 .any (Rows.ewcostRisesSpec.pre6 enc Try.prog Try.f6 Rows.ewcostRisesRow.domain false) (Rows.ewcostRisesSpec.post enc Try.prog Try.f6 false true false false) := by
  refine returnsInHanded_of_change (C := Try.checked) own started (by kernel_rfl) Try.func6
    (ChangeSpec.witness6 (enc := enc) (C := Try.checked) false ⟨#[], #[.agg #[.int .i64 0, .int .i64 0, .int .i64 0], .slice none 0 0], []⟩ 8 (by kernel_rfl) (by kernel_rfl) (by kernel_rfl) (by kernel_rfl)) ?_
  intro W base args ds gs before hval0 hW hcnd _
  have hval : ∀ (j : Nat) t v, Try.f6.params[j]? = some t → args[j]? = some v → Value.okWide Try.prog W .any base t v := hval0
  have hW' := hW
  obtain ⟨p, q, hA0, hV, rfl, hfz, hnd⟩ := hW
  have hA : DataW.TrodAll enc Try.prog W 0 (fun _ => true) true Try.f6.params.toList args.toList ds p := hA0
  rw [Try.params6] at hA hval
  obtain ⟨v0, vs0, d0, ds0, p0, q0, hargs, rfl, rfl, h0, r0⟩ := trodAll_cons hA
  obtain ⟨v1, vs1, d1, ds1, p1, q1, rfl, rfl, rfl, h1, r1⟩ := trodAll_cons r0
  obtain ⟨rfl, rfl, rfl⟩ := trodAll_nil r1
  obtain rfl : args = #[v0, v1] := by cases args; simp_all
  obtain ⟨rfl, rfl⟩ := trodVars_none hV
  obtain ⟨y0, k0, i0⟩ := open_arg hT (t := 23) (s := .pair (.int .i64) (.pair (.int .i64) (.pair (.int .i64) .unit))) rfl rfl (hval 0 23 v0 rfl rfl) h0
  obtain ⟨y1, k1, i1⟩ := open_arg hT (t := 24) (s := .sl (.int .i32)) rfl rfl (hval 1 24 v1 rfl rfl) h1
  have hc := law_calls (vals := [v0, v1]) (avs := [.dat (.pair (.int .i64) (.pair (.int .i64) (.pair (.int .i64) .unit))) y0 none, .dat (.sl (.int .i32)) y1 none]) (S := Was W) (law30_EwcostRises_sound W (Was W) trivial) Try.func6 rfl (by kernel_rfl)
    (by
      show (law30_EwcostRises_ok y0 y1, AV.bool true) = _
      rw [show law30_EwcostRises_ok y0 y1 = true from i32s_of i1])
    (fun _ _ h => h) (argsRd_cons k0 (argsRd_cons k1 (argsRd_nil _ _)))
  refine hc.mono fun e W' ⟨he, hg⟩ => ?_
  subst he
  simp only [List.append_nil] at hW'
  exact ⟨_, rfl, Go.Av.post_of_below (pv := []) hW' (fun _ _ _ => (trodAll_cons_mk (shut_bool Try.underlying4 _) trodAll_mk0)) (fun sp hsp => args_again (by kernel_rfl) (by kernel_rfl) (by kernel_rfl) (by decide +kernel) hA0 hg (fun x hx => hsp x (by simpa using hx))) (fun _ _ => rfl) (by simp)
    hg (ok_one (by kernel_rfl) rfl (okWide_bool_mk Try.underlying4 _))⟩

theorem over : Rows.ewcostRisesRow.holds Try.pinned (OpenSpec.ofChange Rows.ewcostRisesSpec) :=
  OpenClaim.holds_of_wide 6 Try.f6 rfl rfl rfl rfl rfl rfl rfl ⟨rfl, rfl, rfl, rfl, rfl⟩ rfl rfl rfl rfl rfl (by kernel_rfl) Try.func6 (by kernel_rfl)
    (of_decide_eq_true (by kernel_rfl)) (by unfold Func.isWrapper; first | (rw [if_pos (by decide +kernel)]; kernel_rfl) | (rw [if_neg (by decide +kernel)]; exact ⟨rfl, rfl⟩))
    (fun os started H enc _ => lifted os started H enc)

end Go.Proofs.Ytopepdfipgfakaa.ewcostRises
namespace Go.Proofs.Ytopepdfipgfakaa
/-- THE STATEMENT. -/
theorem ewcostRisesProved : Rows.EwcostRisesSaid := ewcostRises.over
#print axioms ewcostRisesProved
end Go.Proofs.Ytopepdfipgfakaa
