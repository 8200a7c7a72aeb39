import Derived.Test.YtejhjmmdachijaaDoorQrEvC
import Derived.Test.YtejhjmmdachijaaDoorQpN
import Derived.Test.YtejhjmmdachijaaDoorProg
import Derived.KernelRfl
namespace Go.Av
set_option linter.unusedSimpArgs false
open Go.Proofs
set_option maxRecDepth 100000
set_option linter.unusedVariables false
noncomputable def E_z85 : EnvP := ⟨⟨tiOf tis, fnsOf [], cnsOf [], [], 10, (fun _ => none), (fun _ => none), some [4]⟩, fun _ => none, fun _ => none, fun _ => [], fun _ => none, fun _ => none, fun _ => none⟩
noncomputable def C_z85 : Code := Tryd.f85.body.getD .skip
noncomputable def R_z85 : Array ResultVar := Tryd.f85.results
theorem z85_ev (n : Nat) (as0 : List Bool) (c1 : UInt8) (o1 : Lab) : evFnP E_z85 n C_z85 R_z85 [.adr (.arr 256 .bool) as0, .dat .byte c1 o1] = z85_sh n as0 c1 := by
  kernel_rfl
theorem z85_sound : SoundG G Tryd.prog 85 s_z85 := by
  refine sound_of_evP' G_stays (E := E_z85) (fn := Tryd.f85) (c := C_z85) (tyOk_of_table rfl tis_ok) (fun w S hg => ⟨⟨fns_nil, fun f sp h => cns_nil f sp h w S⟩, gl_none w S hg, (fun _ _ h => by cases h), (fun f sp h => rns_nil f sp h), (fun f it h => its_nil f it h)⟩) follows Tryd.func85 (by kernel_rfl) (by kernel_rfl) (by kernel_rfl) ?_
  intro avs r h
  unfold s_z85 at h
  split at h
  · simp only [Prod.mk.injEq, true_and] at h
    subst h
    obtain ⟨n, hn⟩ := z85_math _ _
    exact ⟨n, _, (z85_ev n _ _ _).trans hn, .inl rfl⟩
  · cases h
noncomputable def E_z79 : EnvP := ⟨⟨tiOf tis, fnsOf [(85, s_z85)], cnsOf [], [], 23, (fun x => if x = 1 then some [0, 1] else none), (fun x => if x = 0 then some [0] else if x = 1 then some [0, 1] else none), some [4]⟩, fun _ => none, fun _ => none, fun _ => [], fun _ => none, fun _ => none, fun _ => none⟩
noncomputable def C_z79 : Code := Tryd.f79.body.getD .skip
noncomputable def R_z79 : Array ResultVar := Tryd.f79.results
theorem z79_l1_ok (K : Ex → Fr → Option AV) : ∀ (n : Nat) (s0 : List UInt8) (as1 : List Bool), evLP E_z79 n (sub C_z79 [1, 0, 0, 0]) K (frOf [(0, (.dat (.sl .byte) s0 none)), (1, (.adr (.arr 256 .bool) as1))]) = z79_l1 (fun s0 => K (.exit 0) (frOf [(0, (.dat (.sl .byte) s0 none))])) n s0 as1 := by
  intro n
  induction n with
  | zero => intros; rfl
  | succ n IH =>
  intro s0 as1
  have ih : (fun s0 as1 => evLP E_z79 n (sub C_z79 [1, 0, 0, 0]) K (frOf [(0, (.dat (.sl .byte) s0 none)), (1, (.adr (.arr 256 .bool) as1))])) = z79_l1 (fun s0 => K (.exit 0) (frOf [(0, (.dat (.sl .byte) s0 none))])) n := by
    funext s0 as1
    exact IH s0 as1
  show _ = z79_l1_b (fun s0 => K (.exit 0) (frOf [(0, (.dat (.sl .byte) s0 none))])) (z79_l1 (fun s0 => K (.exit 0) (frOf [(0, (.dat (.sl .byte) s0 none))])) n) n s0 as1
  rw [← ih]
  kernel_rfl
theorem z79_k1_0_ok (n : Nat) (s0 : List UInt8) : (kBlockP 0 (E_z79.cutb 0) (kSeq (evCP E_z79 (evLP E_z79 n) (sub C_z79 [1, 1])) (kFnP E_z79 R_z79))) (.exit 0) (frOf [(0, (.dat (.sl .byte) s0 none))]) = z79_k1_0 n s0 := by
  kernel_rfl
theorem z79_ev (n : Nat) (s0 : List UInt8) (o0 : Lab) (as1 : List Bool) : evFnP E_z79 n C_z79 R_z79 [.dat (.sl .byte) s0 o0, .adr (.arr 256 .bool) as1] = z79_sh n s0 as1 := by
  unfold z79_sh
  rw [show z79_l1 (z79_k1_0 n) n = (fun s0 as1 => evLP E_z79 n (sub C_z79 [1, 0, 0, 0]) (kBlockP 0 (E_z79.cutb 0) (kSeq (evCP E_z79 (evLP E_z79 n) (sub C_z79 [1, 1])) (kFnP E_z79 R_z79))) (frOf [(0, (.dat (.sl .byte) s0 none)), (1, (.adr (.arr 256 .bool) as1))])) from by
    funext s0 as1
    refine Eq.trans ?_ (z79_l1_ok (kBlockP 0 (E_z79.cutb 0) (kSeq (evCP E_z79 (evLP E_z79 n) (sub C_z79 [1, 1])) (kFnP E_z79 R_z79))) n s0 as1).symm
    rw [show (fun s0 => (kBlockP 0 (E_z79.cutb 0) (kSeq (evCP E_z79 (evLP E_z79 n) (sub C_z79 [1, 1])) (kFnP E_z79 R_z79))) (.exit 0) (frOf [(0, (.dat (.sl .byte) s0 none))])) = (z79_k1_0 n) from by
      funext s0
      exact z79_k1_0_ok n s0]
    all_goals kernel_rfl]
  kernel_rfl
theorem z79_sound : SoundG G Tryd.prog 79 s_z79 := by
  refine sound_of_evP' G_stays (E := E_z79) (fn := Tryd.f79) (c := C_z79) (tyOk_of_table rfl tis_ok) (fun w S hg => ⟨⟨(fns_cons (z85_sound w S hg) fns_nil), fun f sp h => cns_nil f sp h w S⟩, gl_none w S hg, (fun _ _ h => by cases h), (fun f sp h => rns_nil f sp h), (fun f it h => its_nil f it h)⟩) follows Tryd.func79 (by kernel_rfl) (by kernel_rfl) (by kernel_rfl) ?_
  intro avs r h
  unfold s_z79 at h
  split at h
  · simp only [Prod.mk.injEq] at h
    obtain ⟨hp, rfl⟩ := h
    obtain ⟨n, hn⟩ := z79_math _ _ hp
    exact ⟨n, _, (z79_ev n _ _ _).trans hn, .inl rfl⟩
  · cases h
noncomputable def E_z59 : EnvP := ⟨⟨tiOf tis, fnsOf [(77, s_z77), (78, s_z78), (79, s_z79), (80, s_z80)], cnsOf [], [], 38, (fun _ => none), (fun _ => none), some [4]⟩, fun _ => none, fun _ => none, (fun x => if x = 500007 then [5] else []), fun _ => none, fun _ => none, fun _ => none⟩
noncomputable def C_z59 : Code := Tryd.f59.body.getD .skip
noncomputable def R_z59 : Array ResultVar := Tryd.f59.results
theorem z59_ev (n : Nat) (s0 : List UInt8) (o0 : Lab) (cutset1 : List UInt8) (o1 : Lab) : evFnP E_z59 n C_z59 R_z59 [.dat (.sl .byte) s0 o0, .dat .str cutset1 o1] = z59_sh n s0 cutset1 := by
  kernel_rfl
theorem z59_sound : SoundG G Tryd.prog 59 s_z59 := by
  refine sound_of_evP' G_stays (E := E_z59) (fn := Tryd.f59) (c := C_z59) (tyOk_of_table rfl tis_ok) (fun w S hg => ⟨⟨(fns_cons (z77_sound w S hg) (fns_cons (z78_sound w S hg) (fns_cons (z79_sound w S hg) (fns_cons (z80_sound w S hg) fns_nil)))), fun f sp h => cns_nil f sp h w S⟩, gl_none w S hg, (fun _ _ h => by cases h), (fun f sp h => rns_nil f sp h), (fun f it h => its_nil f it h)⟩) follows Tryd.func59 (by kernel_rfl) (by kernel_rfl) (by kernel_rfl) ?_
  intro avs r h
  unfold s_z59 at h
  split at h
  · simp only [Prod.mk.injEq] at h
    obtain ⟨hp, rfl⟩ := h
    obtain ⟨n, hn⟩ := z59_math _ _ hp
    exact ⟨n, _, (z59_ev n _ _ _ _).trans hn, .inl rfl⟩
  · cases h
noncomputable def E_z66 : EnvP := ⟨⟨tiOf tis, fnsOf [], cnsOf [], [], 10, (fun _ => none), (fun _ => none), some [4]⟩, fun _ => none, fun _ => none, fun _ => [], fun _ => none, fun _ => none, fun _ => none⟩
noncomputable def C_z66 : Code := Tryd.f66.body.getD .skip
noncomputable def R_z66 : Array ResultVar := Tryd.f66.results
theorem z66_ev (n : Nat) (a0 : List UInt8) (o0 : Lab) (b1 : List UInt8) (o1 : Lab) : evFnP E_z66 n C_z66 R_z66 [.dat (.sl .byte) a0 o0, .dat (.sl .byte) b1 o1] = z66_sh n a0 b1 := by
  kernel_rfl
theorem z66_sound : SoundG G Tryd.prog 66 s_z66 := by
  refine sound_of_evP' G_stays (E := E_z66) (fn := Tryd.f66) (c := C_z66) (tyOk_of_table rfl tis_ok) (fun w S hg => ⟨⟨fns_nil, fun f sp h => cns_nil f sp h w S⟩, gl_none w S hg, (fun _ _ h => by cases h), (fun f sp h => rns_nil f sp h), (fun f it h => its_nil f it h)⟩) follows Tryd.func66 (by kernel_rfl) (by kernel_rfl) (by kernel_rfl) ?_
  intro avs r h
  unfold s_z66 at h
  split at h
  · simp only [Prod.mk.injEq, true_and] at h
    subst h
    obtain ⟨n, hn⟩ := z66_math _ _
    exact ⟨n, _, (z66_ev n _ _ _ _).trans hn, .inl rfl⟩
  · cases h
noncomputable def E_z81 : EnvP := ⟨⟨tiOf tis, fnsOf [(66, s_z66)], cnsOf [], [], 21, (fun _ => none), (fun _ => none), some [4]⟩, fun _ => none, fun _ => none, fun _ => [], fun _ => none, fun _ => none, fun _ => none⟩
noncomputable def C_z81 : Code := Tryd.f81.body.getD .skip
noncomputable def R_z81 : Array ResultVar := Tryd.f81.results
theorem z81_ev (n : Nat) (s0 : List UInt8) (o0 : Lab) (suffix1 : List UInt8) (o1 : Lab) : evFnP E_z81 n C_z81 R_z81 [.dat (.sl .byte) s0 o0, .dat (.sl .byte) suffix1 o1] = z81_sh n s0 suffix1 := by
  kernel_rfl
theorem z81_sound : SoundG G Tryd.prog 81 s_z81 := by
  refine sound_of_evP' G_stays (E := E_z81) (fn := Tryd.f81) (c := C_z81) (tyOk_of_table rfl tis_ok) (fun w S hg => ⟨⟨(fns_cons (z66_sound w S hg) fns_nil), fun f sp h => cns_nil f sp h w S⟩, gl_none w S hg, (fun _ _ h => by cases h), (fun f sp h => rns_nil f sp h), (fun f it h => its_nil f it h)⟩) follows Tryd.func81 (by kernel_rfl) (by kernel_rfl) (by kernel_rfl) ?_
  intro avs r h
  unfold s_z81 at h
  split at h
  · simp only [Prod.mk.injEq] at h
    obtain ⟨hp, rfl⟩ := h
    obtain ⟨n, hn⟩ := z81_math _ _ hp
    exact ⟨n, _, (z81_ev n _ _ _ _).trans hn, .inl rfl⟩
  · cases h
noncomputable def E_z60 : EnvP := ⟨⟨tiOf tis, fnsOf [(81, s_z81)], cnsOf [], [], 18, (fun _ => none), (fun _ => none), some [4, 5]⟩, fun _ => none, fun _ => none, fun _ => [], fun _ => none, fun _ => none, fun _ => none⟩
noncomputable def C_z60 : Code := Tryd.f60.body.getD .skip
noncomputable def R_z60 : Array ResultVar := Tryd.f60.results
theorem z60_ev (n : Nat) (s0 : List UInt8) (o0 : Lab) (suffix1 : List UInt8) (o1 : Lab) : evFnP E_z60 n C_z60 R_z60 [.dat (.sl .byte) s0 o0, .dat (.sl .byte) suffix1 o1] = z60_sh n s0 suffix1 := by
  kernel_rfl
theorem z60_sound : SoundG G Tryd.prog 60 s_z60 := by
  refine sound_of_evP' G_stays (E := E_z60) (fn := Tryd.f60) (c := C_z60) (tyOk_of_table rfl tis_ok) (fun w S hg => ⟨⟨(fns_cons (z81_sound w S hg) fns_nil), fun f sp h => cns_nil f sp h w S⟩, gl_none w S hg, (fun _ _ h => by cases h), (fun f sp h => rns_nil f sp h), (fun f it h => its_nil f it h)⟩) follows Tryd.func60 (by kernel_rfl) (by kernel_rfl) (by kernel_rfl) ?_
  intro avs r h
  unfold s_z60 at h
  split at h
  · simp only [Prod.mk.injEq] at h
    obtain ⟨hp, rfl⟩ := h
    obtain ⟨n, hn⟩ := z60_math _ _ hp
    exact ⟨n, _, (z60_ev n _ _ _ _).trans hn, .inl rfl⟩
  · cases h
noncomputable def E_z45 : EnvP := ⟨⟨tiOf tis, fnsOf [(59, s_z59), (60, s_z60)], cnsOf [], [], 11, (fun _ => none), (fun _ => none), some [2, 3]⟩, fun _ => none, fun _ => none, fun _ => [], fun _ => none, fun _ => none, fun _ => none⟩
noncomputable def C_z45 : Code := Tryd.f45.body.getD .skip
noncomputable def R_z45 : Array ResultVar := Tryd.f45.results
theorem z45_ev (n : Nat) (l0 : List UInt8) (o0 : Lab) : evFnP E_z45 n C_z45 R_z45 [.dat (.sl .byte) l0 o0] = z45_sh n l0 := by
  kernel_rfl
theorem z45_sound : SoundG G Tryd.prog 45 s_z45 := by
  refine sound_of_evP' G_stays (E := E_z45) (fn := Tryd.f45) (c := C_z45) (tyOk_of_table rfl tis_ok) (fun w S hg => ⟨⟨(fns_cons (z59_sound w S hg) (fns_cons (z60_sound w S hg) fns_nil)), fun f sp h => cns_nil f sp h w S⟩, gl_none w S hg, (fun _ _ h => by cases h), (fun f sp h => rns_nil f sp h), (fun f it h => its_nil f it h)⟩) follows Tryd.func45 (by kernel_rfl) (by kernel_rfl) (by kernel_rfl) ?_
  intro avs r h
  unfold s_z45 at h
  split at h
  · simp only [Prod.mk.injEq] at h
    obtain ⟨hp, rfl⟩ := h
    obtain ⟨n, hn⟩ := z45_math _ hp
    exact ⟨n, _, (z45_ev n _ _).trans hn, .inl rfl⟩
  · cases h
noncomputable def E_z73 : EnvP := ⟨⟨tiOf tis, fnsOf [], cnsOf [], [], 46, (fun _ => none), (fun x => if x = 0 then some [3] else none), some [2]⟩, fun _ => none, fun _ => none, fun _ => [], fun _ => none, fun _ => none, fun _ => none⟩
noncomputable def C_z73 : Code := Tryd.f73.body.getD .skip
noncomputable def R_z73 : Array ResultVar := Tryd.f73.results
theorem z73_ev (n : Nat) (c0 : UInt8) (o0 : Lab) : evFnP E_z73 n C_z73 R_z73 [.dat .byte c0 o0] = z73_sh n c0 := by
  kernel_rfl
theorem z73_sound : SoundG G Tryd.prog 73 s_z73 := by
  refine sound_of_evP' G_stays (E := E_z73) (fn := Tryd.f73) (c := C_z73) (tyOk_of_table rfl tis_ok) (fun w S hg => ⟨⟨fns_nil, fun f sp h => cns_nil f sp h w S⟩, gl_none w S hg, (fun _ _ h => by cases h), (fun f sp h => rns_nil f sp h), (fun f it h => its_nil f it h)⟩) follows Tryd.func73 (by kernel_rfl) (by kernel_rfl) (by kernel_rfl) ?_
  intro avs r h
  unfold s_z73 at h
  split at h
  · simp only [Prod.mk.injEq, true_and] at h
    subst h
    obtain ⟨n, hn⟩ := z73_math _
    exact ⟨n, _, (z73_ev n _ _).trans hn, .inl rfl⟩
  · cases h
end Go.Av
