import Derived.Test.YtejhjmmdachijaaDoorQrEvI
import Derived.Test.YtejhjmmdachijaaDoorQpN
import Derived.Test.YtejhjmmdachijaaDoorProg
import Derived.KernelRfl
namespace Go.Av
set_option linter.unusedSimpArgs false
open Go.Proofs
set_option maxRecDepth 100000
set_option linter.unusedVariables false
noncomputable def E_z9 : EnvP := ⟨⟨tiOf tis, fnsOf [(18, s_z18), (19, s_z19), (24, s_z24), (27, s_z27), (28, s_z28), (29, s_z29), (30, s_z30), (31, s_z31), (32, s_z32)], cnsOf [], [], 58, (fun _ => none), (fun _ => none), some [2]⟩, fun _ => none, fun _ => none, fun _ => [], fun _ => none, fun _ => none, fun _ => none⟩
noncomputable def C_z9 : Code := Tryd.f9.body.getD .skip
noncomputable def R_z9 : Array ResultVar := Tryd.f9.results
theorem z9_ev (n : Nat) (s0 : List UInt8) (o0 : Lab) : evFnP E_z9 n C_z9 R_z9 [.dat (.sl .byte) s0 o0] = z9_sh n s0 := by
  kernel_rfl
theorem z9_sound : SoundG G Tryd.prog 9 s_z9 := by
  refine sound_of_evP' G_stays (E := E_z9) (fn := Tryd.f9) (c := C_z9) (tyOk_of_table rfl tis_ok) (fun w S hg => ⟨⟨(fns_cons (z18_sound w S hg) (fns_cons (z19_sound w S hg) (fns_cons (z24_sound w S hg) (fns_cons (z27_sound w S hg) (fns_cons (z28_sound w S hg) (fns_cons (z29_sound w S hg) (fns_cons (z30_sound w S hg) (fns_cons (z31_sound w S hg) (fns_cons (z32_sound w S hg) fns_nil))))))))), fun f sp h => cns_nil f sp h w S⟩, gl_none w S hg, (fun _ _ h => by cases h), (fun f sp h => rns_nil f sp h), (fun f it h => its_nil f it h)⟩) follows Tryd.func9 (by kernel_rfl) (by kernel_rfl) (by kernel_rfl) ?_
  intro avs r h
  unfold s_z9 at h
  split at h
  · simp only [Prod.mk.injEq, true_and] at h
    subst h
    obtain ⟨n, hn⟩ := z9_math _
    exact ⟨n, _, (z9_ev n _ _).trans hn, .inl rfl⟩
  · cases h
end Go.Av
