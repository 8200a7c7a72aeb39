import Derived.Test.YtejhjmmdachijaaDoorQrEvD
import Derived.Test.YtejhjmmdachijaaDoorQpN
import Derived.Test.YtejhjmmdachijaaDoorProg
import Derived.KernelRfl
namespace Go.Av
set_option linter.unusedSimpArgs false
open Go.Proofs
set_option maxRecDepth 100000
set_option linter.unusedVariables false
noncomputable def E_z99 : EnvP := ⟨⟨tiOf tis, fnsOf [(82, s_z82)], cnsOf [], [], 8, (fun _ => none), (fun _ => none), some [4]⟩, fun _ => none, fun _ => none, fun _ => [], fun _ => none, fun _ => none, fun _ => none⟩
noncomputable def C_z99 : Code := Tryd.f99.body.getD .skip
noncomputable def R_z99 : Array ResultVar := Tryd.f99.results
theorem z99_ev (n : Nat) (s0 : List UInt8) (o0 : Lab) (c1 : UInt8) (o1 : Lab) : evFnP E_z99 n C_z99 R_z99 [.dat .str s0 o0, .dat .byte c1 o1] = z99_sh n s0 c1 := by
  kernel_rfl
theorem z99_sound : SoundG G Tryd.prog 99 s_z99 := by
  refine sound_of_evP' G_stays (E := E_z99) (fn := Tryd.f99) (c := C_z99) (tyOk_of_table rfl tis_ok) (fun w S hg => ⟨⟨(fns_cons (z82_sound w S hg) fns_nil), fun f sp h => cns_nil f sp h w S⟩, gl_none w S hg, (fun _ _ h => by cases h), (fun f sp h => rns_nil f sp h), (fun f it h => its_nil f it h)⟩) follows Tryd.func99 (by kernel_rfl) (by kernel_rfl) (by kernel_rfl) ?_
  intro avs r h
  unfold s_z99 at h
  split at h
  · simp only [Prod.mk.injEq, true_and] at h
    subst h
    obtain ⟨n, hn⟩ := z99_math _ _
    exact ⟨n, _, (z99_ev n _ _ _ _).trans hn, .inl rfl⟩
  · cases h
noncomputable def E_z92 : EnvP := ⟨⟨tiOf tis, fnsOf [(99, s_z99)], cnsOf [], [], 8, (fun _ => none), (fun _ => none), some [4]⟩, fun _ => none, fun _ => none, fun _ => [], fun _ => none, fun _ => none, fun _ => none⟩
noncomputable def C_z92 : Code := Tryd.f92.body.getD .skip
noncomputable def R_z92 : Array ResultVar := Tryd.f92.results
theorem z92_ev (n : Nat) (s0 : List UInt8) (o0 : Lab) (c1 : UInt8) (o1 : Lab) : evFnP E_z92 n C_z92 R_z92 [.dat .str s0 o0, .dat .byte c1 o1] = z92_sh n s0 c1 := by
  kernel_rfl
theorem z92_sound : SoundG G Tryd.prog 92 s_z92 := by
  refine sound_of_evP' G_stays (E := E_z92) (fn := Tryd.f92) (c := C_z92) (tyOk_of_table rfl tis_ok) (fun w S hg => ⟨⟨(fns_cons (z99_sound w S hg) fns_nil), fun f sp h => cns_nil f sp h w S⟩, gl_none w S hg, (fun _ _ h => by cases h), (fun f sp h => rns_nil f sp h), (fun f it h => its_nil f it h)⟩) follows Tryd.func92 (by kernel_rfl) (by kernel_rfl) (by kernel_rfl) ?_
  intro avs r h
  unfold s_z92 at h
  split at h
  · simp only [Prod.mk.injEq, true_and] at h
    subst h
    obtain ⟨n, hn⟩ := z92_math _ _
    exact ⟨n, _, (z92_ev n _ _ _ _).trans hn, .inl rfl⟩
  · cases h
noncomputable def E_z74 : EnvP := ⟨⟨tiOf tis, fnsOf [(92, s_z92)], cnsOf [], [], 9, (fun _ => none), (fun _ => none), some [4]⟩, fun _ => none, fun _ => none, fun _ => [], fun _ => none, fun _ => none, fun _ => none⟩
noncomputable def C_z74 : Code := Tryd.f74.body.getD .skip
noncomputable def R_z74 : Array ResultVar := Tryd.f74.results
theorem z74_ev (n : Nat) (s0 : List UInt8) (o0 : Lab) (c1 : UInt8) (o1 : Lab) : evFnP E_z74 n C_z74 R_z74 [.dat .str s0 o0, .dat .byte c1 o1] = z74_sh n s0 c1 := by
  kernel_rfl
theorem z74_sound : SoundG G Tryd.prog 74 s_z74 := by
  refine sound_of_evP' G_stays (E := E_z74) (fn := Tryd.f74) (c := C_z74) (tyOk_of_table rfl tis_ok) (fun w S hg => ⟨⟨(fns_cons (z92_sound w S hg) fns_nil), fun f sp h => cns_nil f sp h w S⟩, gl_none w S hg, (fun _ _ h => by cases h), (fun f sp h => rns_nil f sp h), (fun f it h => its_nil f it h)⟩) follows Tryd.func74 (by kernel_rfl) (by kernel_rfl) (by kernel_rfl) ?_
  intro avs r h
  unfold s_z74 at h
  split at h
  · simp only [Prod.mk.injEq, true_and] at h
    subst h
    obtain ⟨n, hn⟩ := z74_math _ _
    exact ⟨n, _, (z74_ev n _ _ _ _).trans hn, .inl rfl⟩
  · cases h
noncomputable def E_z54 : EnvP := ⟨⟨tiOf tis, fnsOf [(73, s_z73), (74, s_z74)], cnsOf [], [], 35, (fun _ => none), (fun _ => none), some [2]⟩, fun _ => none, fun _ => none, fun _ => [], fun _ => none, fun _ => none, fun _ => none⟩
noncomputable def C_z54 : Code := Tryd.f54.body.getD .skip
noncomputable def R_z54 : Array ResultVar := Tryd.f54.results
theorem z54_ev (n : Nat) (c0 : UInt8) (o0 : Lab) : evFnP E_z54 n C_z54 R_z54 [.dat .byte c0 o0] = z54_sh n c0 := by
  kernel_rfl
theorem z54_sound : SoundG G Tryd.prog 54 s_z54 := by
  refine sound_of_evP' G_stays (E := E_z54) (fn := Tryd.f54) (c := C_z54) (tyOk_of_table rfl tis_ok) (fun w S hg => ⟨⟨(fns_cons (z73_sound w S hg) (fns_cons (z74_sound w S hg) fns_nil)), fun f sp h => cns_nil f sp h w S⟩, gl_none w S hg, (fun _ _ h => by cases h), (fun f sp h => rns_nil f sp h), (fun f it h => its_nil f it h)⟩) follows Tryd.func54 (by kernel_rfl) (by kernel_rfl) (by kernel_rfl) ?_
  intro avs r h
  unfold s_z54 at h
  split at h
  · simp only [Prod.mk.injEq, true_and] at h
    subst h
    obtain ⟨n, hn⟩ := z54_math _
    exact ⟨n, _, (z54_ev n _ _).trans hn, .inl rfl⟩
  · cases h
noncomputable def E_z41 : EnvP := ⟨⟨tiOf tis, fnsOf [(54, s_z54)], cnsOf [], [], 10, (fun _ => none), (fun _ => none), some [4]⟩, fun _ => none, fun _ => none, fun _ => [], fun _ => none, fun _ => none, fun _ => none⟩
noncomputable def C_z41 : Code := Tryd.f41.body.getD .skip
noncomputable def R_z41 : Array ResultVar := Tryd.f41.results
theorem z41_ev (n : Nat) (c0 : UInt8) (o0 : Lab) (kinds1 : Int) (o1 : Lab) : evFnP E_z41 n C_z41 R_z41 [.dat .byte c0 o0, .dat (.int .i64) kinds1 o1] = z41_sh n c0 kinds1 := by
  kernel_rfl
theorem z41_sound : SoundG G Tryd.prog 41 s_z41 := by
  refine sound_of_evP' G_stays (E := E_z41) (fn := Tryd.f41) (c := C_z41) (tyOk_of_table rfl tis_ok) (fun w S hg => ⟨⟨(fns_cons (z54_sound w S hg) fns_nil), fun f sp h => cns_nil f sp h w S⟩, gl_none w S hg, (fun _ _ h => by cases h), (fun f sp h => rns_nil f sp h), (fun f it h => its_nil f it h)⟩) follows Tryd.func41 (by kernel_rfl) (by kernel_rfl) (by kernel_rfl) ?_
  intro avs r h
  unfold s_z41 at h
  split at h
  · simp only [Prod.mk.injEq, true_and] at h
    subst h
    obtain ⟨n, hn⟩ := z41_math _ _
    exact ⟨n, _, (z41_ev n _ _ _ _).trans hn, .inl rfl⟩
  · cases h
noncomputable def E_z98 : EnvP := ⟨⟨tiOf tis, fnsOf [], cnsOf [], [], 12, (fun _ => none), (fun _ => none), some [2]⟩, fun _ => none, fun _ => none, fun _ => [], fun _ => none, fun _ => none, fun _ => none⟩
noncomputable def C_z98 : Code := Tryd.f98.body.getD .skip
noncomputable def R_z98 : Array ResultVar := Tryd.f98.results
theorem z98_ev (n : Nat) (c0 : UInt8) (o0 : Lab) : evFnP E_z98 n C_z98 R_z98 [.dat .byte c0 o0] = z98_sh n c0 := by
  kernel_rfl
theorem z98_sound : SoundG G Tryd.prog 98 s_z98 := by
  refine sound_of_evP' G_stays (E := E_z98) (fn := Tryd.f98) (c := C_z98) (tyOk_of_table rfl tis_ok) (fun w S hg => ⟨⟨fns_nil, fun f sp h => cns_nil f sp h w S⟩, gl_none w S hg, (fun _ _ h => by cases h), (fun f sp h => rns_nil f sp h), (fun f it h => its_nil f it h)⟩) follows Tryd.func98 (by kernel_rfl) (by kernel_rfl) (by kernel_rfl) ?_
  intro avs r h
  unfold s_z98 at h
  split at h
  · simp only [Prod.mk.injEq, true_and] at h
    subst h
    obtain ⟨n, hn⟩ := z98_math _
    exact ⟨n, _, (z98_ev n _ _).trans hn, .inl rfl⟩
  · cases h
noncomputable def E_z91 : EnvP := ⟨⟨tiOf tis, fnsOf [(41, s_z41), (98, s_z98)], cnsOf [], [], 23, (fun _ => none), (fun x => if x = 0 then some [] else none), some [2, 3]⟩, fun _ => none, fun _ => none, fun _ => [], fun _ => none, fun _ => none, fun _ => none⟩
noncomputable def C_z91 : Code := Tryd.f91.body.getD .skip
noncomputable def R_z91 : Array ResultVar := Tryd.f91.results
theorem z91_ev (n : Nat) (c0 : UInt8) (o0 : Lab) : evFnP E_z91 n C_z91 R_z91 [.dat .byte c0 o0] = z91_sh n c0 := by
  kernel_rfl
theorem z91_sound : SoundG G Tryd.prog 91 s_z91 := by
  refine sound_of_evP' G_stays (E := E_z91) (fn := Tryd.f91) (c := C_z91) (tyOk_of_table rfl tis_ok) (fun w S hg => ⟨⟨(fns_cons (z41_sound w S hg) (fns_cons (z98_sound w S hg) fns_nil)), fun f sp h => cns_nil f sp h w S⟩, gl_none w S hg, (fun _ _ h => by cases h), (fun f sp h => rns_nil f sp h), (fun f it h => its_nil f it h)⟩) follows Tryd.func91 (by kernel_rfl) (by kernel_rfl) (by kernel_rfl) ?_
  intro avs r h
  unfold s_z91 at h
  split at h
  · simp only [Prod.mk.injEq, true_and] at h
    subst h
    obtain ⟨n, hn⟩ := z91_math _
    exact ⟨n, _, (z91_ev n _ _).trans hn, .inl rfl⟩
  · cases h
noncomputable def E_z70 : EnvP := ⟨⟨tiOf tis, fnsOf [(91, s_z91)], cnsOf [], [], 31, (fun _ => none), (fun _ => none), some [4, 5]⟩, fun _ => none, fun _ => none, fun _ => [], fun _ => none, fun _ => none, fun _ => none⟩
noncomputable def C_z70 : Code := Tryd.f70.body.getD .skip
noncomputable def R_z70 : Array ResultVar := Tryd.f70.results
theorem z70_ev (n : Nat) (a0 : UInt8) (o0 : Lab) (b1 : UInt8) (o1 : Lab) : evFnP E_z70 n C_z70 R_z70 [.dat .byte a0 o0, .dat .byte b1 o1] = z70_sh n a0 b1 := by
  kernel_rfl
theorem z70_sound : SoundG G Tryd.prog 70 s_z70 := by
  refine sound_of_evP' G_stays (E := E_z70) (fn := Tryd.f70) (c := C_z70) (tyOk_of_table rfl tis_ok) (fun w S hg => ⟨⟨(fns_cons (z91_sound w S hg) fns_nil), fun f sp h => cns_nil f sp h w S⟩, gl_none w S hg, (fun _ _ h => by cases h), (fun f sp h => rns_nil f sp h), (fun f it h => its_nil f it h)⟩) follows Tryd.func70 (by kernel_rfl) (by kernel_rfl) (by kernel_rfl) ?_
  intro avs r h
  unfold s_z70 at h
  split at h
  · simp only [Prod.mk.injEq, true_and] at h
    subst h
    obtain ⟨n, hn⟩ := z70_math _ _
    exact ⟨n, _, (z70_ev n _ _ _ _).trans hn, .inl rfl⟩
  · cases h
noncomputable def E_z50 : EnvP := ⟨⟨tiOf tis, fnsOf [(70, s_z70)], cnsOf [], [], 38, (fun _ => none), (fun _ => none), some [6, 7]⟩, fun _ => none, fun _ => none, fun _ => [], fun _ => none, fun _ => none, fun _ => none⟩
noncomputable def C_z50 : Code := Tryd.f50.body.getD .skip
noncomputable def R_z50 : Array ResultVar := Tryd.f50.results
theorem z50_ev (n : Nat) (s0 : List UInt8) (o0 : Lab) (at1 : Int) (o1 : Lab) (sign2 : UInt8) (o2 : Lab) : evFnP E_z50 n C_z50 R_z50 [.dat (.sl .byte) s0 o0, .dat (.int .i64) at1 o1, .dat .byte sign2 o2] = z50_sh n s0 at1 sign2 := by
  kernel_rfl
theorem z50_sound : SoundG G Tryd.prog 50 s_z50 := by
  refine sound_of_evP' G_stays (E := E_z50) (fn := Tryd.f50) (c := C_z50) (tyOk_of_table rfl tis_ok) (fun w S hg => ⟨⟨(fns_cons (z70_sound w S hg) fns_nil), fun f sp h => cns_nil f sp h w S⟩, gl_none w S hg, (fun _ _ h => by cases h), (fun f sp h => rns_nil f sp h), (fun f it h => its_nil f it h)⟩) follows Tryd.func50 (by kernel_rfl) (by kernel_rfl) (by kernel_rfl) ?_
  intro avs r h
  unfold s_z50 at h
  split at h
  · simp only [Prod.mk.injEq] at h
    obtain ⟨hp, rfl⟩ := h
    obtain ⟨n, hn⟩ := z50_math _ _ _ hp
    exact ⟨n, _, (z50_ev n _ _ _ _ _ _).trans hn, .inl rfl⟩
  · cases h
end Go.Av
