import Derived.Test.YtejhjmmdachijaaDoorQrEvF
import Derived.Test.YtejhjmmdachijaaDoorQpN
import Derived.Test.YtejhjmmdachijaaDoorProg
import Derived.KernelRfl
namespace Go.Av
set_option linter.unusedSimpArgs false
open Go.Proofs
set_option maxRecDepth 100000
set_option linter.unusedVariables false
noncomputable def E_z88 : EnvP := ⟨⟨tiOf tis, fnsOf [(66, s_z66)], cnsOf [], [], 18, (fun _ => none), (fun _ => none), some [4]⟩, fun _ => none, fun _ => none, fun _ => [], fun _ => none, fun _ => none, fun _ => none⟩
noncomputable def C_z88 : Code := Tryd.f88.body.getD .skip
noncomputable def R_z88 : Array ResultVar := Tryd.f88.results
theorem z88_ev (n : Nat) (s0 : List UInt8) (o0 : Lab) (prefix1 : List UInt8) (o1 : Lab) : evFnP E_z88 n C_z88 R_z88 [.dat (.sl .byte) s0 o0, .dat (.sl .byte) prefix1 o1] = z88_sh n s0 prefix1 := by
  kernel_rfl
theorem z88_sound : SoundG G Tryd.prog 88 s_z88 := by
  refine sound_of_evP' G_stays (E := E_z88) (fn := Tryd.f88) (c := C_z88) (tyOk_of_table rfl tis_ok) (fun w S hg => ⟨⟨(fns_cons (z66_sound w S hg) fns_nil), fun f sp h => cns_nil f sp h w S⟩, gl_none w S hg, (fun _ _ h => by cases h), (fun f sp h => rns_nil f sp h), (fun f it h => its_nil f it h)⟩) follows Tryd.func88 (by kernel_rfl) (by kernel_rfl) (by kernel_rfl) ?_
  intro avs r h
  unfold s_z88 at h
  split at h
  · simp only [Prod.mk.injEq, true_and] at h
    subst h
    obtain ⟨n, hn⟩ := z88_math _ _
    exact ⟨n, _, (z88_ev n _ _ _ _).trans hn, .inl rfl⟩
  · cases h
noncomputable def E_z64 : EnvP := ⟨⟨tiOf tis, fnsOf [(88, s_z88)], cnsOf [], [], 12, (fun _ => none), (fun x => if x = 0 then some [] else none), some [2]⟩, fun _ => none, fun _ => none, fun _ => [], fun _ => none, fun _ => none, fun _ => none⟩
noncomputable def C_z64 : Code := Tryd.f64.body.getD .skip
noncomputable def R_z64 : Array ResultVar := Tryd.f64.results
theorem z64_ev (n : Nat) (s0 : List UInt8) (o0 : Lab) : evFnP E_z64 n C_z64 R_z64 [.dat (.sl .byte) s0 o0] = z64_sh n s0 := by
  kernel_rfl
theorem z64_sound : SoundG G Tryd.prog 64 s_z64 := by
  refine sound_of_evP' G_stays (E := E_z64) (fn := Tryd.f64) (c := C_z64) (tyOk_of_table rfl tis_ok) (fun w S hg => ⟨⟨(fns_cons (z88_sound w S hg) fns_nil), fun f sp h => cns_nil f sp h w S⟩, gl_none w S hg, (fun _ _ h => by cases h), (fun f sp h => rns_nil f sp h), (fun f it h => its_nil f it h)⟩) follows Tryd.func64 (by kernel_rfl) (by kernel_rfl) (by kernel_rfl) ?_
  intro avs r h
  unfold s_z64 at h
  split at h
  · simp only [Prod.mk.injEq, true_and] at h
    subst h
    obtain ⟨n, hn⟩ := z64_math _
    exact ⟨n, _, (z64_ev n _ _).trans hn, .inl rfl⟩
  · cases h
noncomputable def E_z62 : EnvP := ⟨⟨tiOf tis, fnsOf [(63, s_z63), (64, s_z64)], cnsOf [], [], 35, (fun x => if x = 0 then some [0, 1, 35, 36] else none), (fun x => if x = 0 then some [35, 36] else if x = 1 then some [0, 1, 35, 36] else none), some [35, 36]⟩, fun _ => none, fun _ => none, fun _ => [], fun _ => none, fun _ => none, fun _ => none⟩
noncomputable def C_z62 : Code := Tryd.f62.body.getD .skip
noncomputable def R_z62 : Array ResultVar := Tryd.f62.results
theorem z62_l0_ok (V : Sigma Inv) (K : Ex → Fr → Option AV) : ∀ (n : Nat) (xv : Den V.1) (s36 : List UInt8), evLP E_z62 n (sub C_z62 [0, 0]) K (frOf [(0, (.padr 35 [])), (1, (.padr 36 [])), (35, (.abs V.1 V.2 xv)), (36, (.pbox (.leaf (.sl .byte)) s36 none))]) = (z62_l0 V) (fun xv s36 => K .ret (frOf [(35, (.abs V.1 V.2 xv)), (36, (.pbox (.leaf (.sl .byte)) s36 none))])) (fun xv s36 => K (.exit 0) (frOf [(35, (.abs V.1 V.2 xv)), (36, (.pbox (.leaf (.sl .byte)) s36 none))])) n xv s36 := by
  intro n
  induction n with
  | zero => intros; rfl
  | succ n IH =>
  intro xv s36
  have ih : (fun xv s36 => evLP E_z62 n (sub C_z62 [0, 0]) K (frOf [(0, (.padr 35 [])), (1, (.padr 36 [])), (35, (.abs V.1 V.2 xv)), (36, (.pbox (.leaf (.sl .byte)) s36 none))])) = (z62_l0 V) (fun xv s36 => K .ret (frOf [(35, (.abs V.1 V.2 xv)), (36, (.pbox (.leaf (.sl .byte)) s36 none))])) (fun xv s36 => K (.exit 0) (frOf [(35, (.abs V.1 V.2 xv)), (36, (.pbox (.leaf (.sl .byte)) s36 none))])) n := by
    funext xv s36
    exact IH xv s36
  show _ = (z62_l0_b V) (fun xv s36 => K .ret (frOf [(35, (.abs V.1 V.2 xv)), (36, (.pbox (.leaf (.sl .byte)) s36 none))])) (fun xv s36 => K (.exit 0) (frOf [(35, (.abs V.1 V.2 xv)), (36, (.pbox (.leaf (.sl .byte)) s36 none))])) ((z62_l0 V) (fun xv s36 => K .ret (frOf [(35, (.abs V.1 V.2 xv)), (36, (.pbox (.leaf (.sl .byte)) s36 none))])) (fun xv s36 => K (.exit 0) (frOf [(35, (.abs V.1 V.2 xv)), (36, (.pbox (.leaf (.sl .byte)) s36 none))])) n) n xv s36
  rw [← ih]
  kernel_rfl
theorem z62_k0_0_ok (V : Sigma Inv) (x0 : Den V.1) (x1 : List UInt8) (n : Nat) (xv : Den V.1) (s36 : List UInt8) : (kBlockP 0 (E_z62.cutb 0) (kFnM E_z62 R_z62 [.abs V.1 V.2 x0, .pbox (.leaf (.sl .byte)) x1 none])) (.exit 0) (frOf [(35, (.abs V.1 V.2 xv)), (36, (.pbox (.leaf (.sl .byte)) s36 none))]) = (z62_k0_0 V) n xv s36 := by
  kernel_rfl
theorem z62_ev (V : Sigma Inv) (n : Nat) (x0 : Den V.1) (x1 : List UInt8) : evFnM E_z62 n C_z62 R_z62 [.abs V.1 V.2 x0, .pbox (.leaf (.sl .byte)) x1 none] = (z62_sh V) n x0 x1 := by
  unfold z62_sh
  rw [show (z62_l0 V) (z62_ret V) ((z62_k0_0 V) n) n = (fun xv s36 => evLP E_z62 n (sub C_z62 [0, 0]) (kBlockP 0 (E_z62.cutb 0) (kFnM E_z62 R_z62 [.abs V.1 V.2 x0, .pbox (.leaf (.sl .byte)) x1 none])) (frOf [(0, (.padr 35 [])), (1, (.padr 36 [])), (35, (.abs V.1 V.2 xv)), (36, (.pbox (.leaf (.sl .byte)) s36 none))])) from by
    funext xv s36
    refine Eq.trans ?_ ((z62_l0_ok V) (kBlockP 0 (E_z62.cutb 0) (kFnM E_z62 R_z62 [.abs V.1 V.2 x0, .pbox (.leaf (.sl .byte)) x1 none])) n xv s36).symm
    rw [show (fun xv s36 => (kBlockP 0 (E_z62.cutb 0) (kFnM E_z62 R_z62 [.abs V.1 V.2 x0, .pbox (.leaf (.sl .byte)) x1 none])) (.exit 0) (frOf [(35, (.abs V.1 V.2 xv)), (36, (.pbox (.leaf (.sl .byte)) s36 none))])) = ((z62_k0_0 V) n) from by
      funext xv s36
      exact (z62_k0_0_ok V) x0 x1 n xv s36]
    all_goals kernel_rfl]
  kernel_rfl
theorem z62_soundm : SoundM G Tryd.prog 62 s_z62 := by
  refine soundM_of_ev G_stays (E := E_z62) (fn := Tryd.f62) (c := C_z62) (tyOk_of_table rfl tis_ok) (fun w S hg => ⟨⟨(fns_cons (z63_sound w S hg) (fns_cons (z64_sound w S hg) fns_nil)), fun f sp h => cns_nil f sp h w S⟩, gl_none w S hg, (fun _ _ h => by cases h), (fun f sp h => rns_nil f sp h), (fun f it h => its_nil f it h)⟩) follows Tryd.func62 (by kernel_rfl) (by kernel_rfl) (by kernel_rfl) ?_
  intro avs r h
  unfold s_z62 at h
  split at h
  · rename_i s V x _
    simp only [Prod.mk.injEq] at h
    obtain ⟨hp, rfl⟩ := h
    obtain ⟨n, hn⟩ := z62_math ⟨s, V⟩ _ _ hp
    exact ⟨n, (z62_ev ⟨s, V⟩ n _ _).trans hn⟩
  · cases h
theorem z62_sound : SoundI G Tryd.prog 62 it_z62 := soundI_of_M z62_soundm (enters_of Tryd.func62 (by kernel_rfl) rfl) (fun s V x x' y h => by
  obtain ⟨h1, h2⟩ := Prod.mk.inj h
  subst h2
  refine ⟨_, _, Prod.ext h1 rfl⟩)
noncomputable def E_z48 : EnvP := ⟨⟨tiOf tis, fnsOf [], cnsOf [], [], 4, (fun _ => none), (fun _ => none), none⟩, (fun x => if x = 1 then some (.leaf (.sl .byte)) else none), fun _ => none, fun _ => [], fun _ => none, fun _ => none, fun _ => none⟩
noncomputable def C_z48 : Code := Tryd.f48.body.getD .skip
noncomputable def R_z48 : Array ResultVar := Tryd.f48.results
theorem z48_ev (n : Nat) (s0 : List UInt8) (o0 : Lab) : evFnR E_z48 n C_z48 R_z48 [.dat (.sl .byte) s0 o0] = z48_sh n s0 := by
  kernel_rfl
theorem z48_sound : SoundR G Tryd.prog 48 s_z48 := by
  refine soundR_of_ev G_stays (E := E_z48) (fn := Tryd.f48) (c := C_z48) (tyOk_of_table rfl tis_ok) (fun w S hg => ⟨⟨fns_nil, fun f sp h => cns_nil f sp h w S⟩, gl_none w S hg, (fun _ _ h => by cases h), (fun f sp h => rns_nil f sp h), (fun f it h => its_nil f it h)⟩) follows Tryd.func48 (by kernel_rfl) (by kernel_rfl) (by kernel_rfl) ?_
  intro avs r h
  unfold s_z48 at h
  split at h
  · simp only [Prod.mk.injEq, true_and] at h
    subst h
    exact ⟨0, z48_ev 0 _ _⟩
  · cases h
noncomputable def E_z27 : EnvP := ⟨⟨tiOf tis, fnsOf [(25, s_z25)], cnsOf [], [], 26, (fun x => if x = 2000005 then some [3] else none), (fun x => if x = 0 then some [3] else if x = 1 then some [1029] else none), some [1000002]⟩, (fun x => if x = 3 then some (.osl 5 .byte) else if x = 19 then some (.osl 5 .byte) else if x = 24 then some (.osl 5 .byte) else none), fun _ => none, fun _ => [], fun _ => none, (fun x => if x = 48 then some s_z48 else none), (fun x => if x = 62 then some it_z62 else none)⟩
noncomputable def C_z27 : Code := Tryd.f27.body.getD .skip
noncomputable def R_z27 : Array ResultVar := Tryd.f27.results
theorem z27_ev (n : Nat) (s0 : List UInt8) (o0 : Lab) : evFnP E_z27 n C_z27 R_z27 [.dat (.sl .byte) s0 o0] = z27_sh n s0 := by
  kernel_rfl
theorem z27_sound : SoundG G Tryd.prog 27 s_z27 := by
  refine sound_of_evP' G_stays (E := E_z27) (fn := Tryd.f27) (c := C_z27) (tyOk_of_table rfl tis_ok) (fun w S hg => ⟨⟨(fns_cons (z25_sound w S hg) fns_nil), fun f sp h => cns_nil f sp h w S⟩, gl_none w S hg, (fun _ _ h => by cases h), (fun f sp h => (rns_cons (z48_sound w S hg) rns_nil) f sp h), (fun f it h => (its_cons (z62_sound w S hg) its_nil) f it h)⟩) follows Tryd.func27 (by kernel_rfl) (by kernel_rfl) (by kernel_rfl) ?_
  intro avs r h
  unfold s_z27 at h
  split at h
  · simp only [Prod.mk.injEq] at h
    obtain ⟨hp, rfl⟩ := h
    obtain ⟨n, hn⟩ := z27_math _ hp
    exact ⟨n, _, (z27_ev n _ _).trans hn, .inl rfl⟩
  · cases h
noncomputable def E_z31 : EnvP := ⟨⟨tiOf tis, fnsOf [(45, s_z45), (46, s_z46)], cnsOf [], [], 27, (fun x => if x = 2000004 then some [3] else none), (fun x => if x = 0 then some [3] else if x = 1 then some [1030] else none), some [2]⟩, (fun x => if x = 3 then some (.leaf (.int .i64)) else none), fun _ => none, fun _ => [], fun _ => none, (fun x => if x = 48 then some s_z48 else none), (fun x => if x = 62 then some it_z62 else none)⟩
noncomputable def C_z31 : Code := Tryd.f31.body.getD .skip
noncomputable def R_z31 : Array ResultVar := Tryd.f31.results
theorem z31_ev (n : Nat) (s0 : List UInt8) (o0 : Lab) : evFnP E_z31 n C_z31 R_z31 [.dat (.sl .byte) s0 o0] = z31_sh n s0 := by
  kernel_rfl
theorem z31_sound : SoundG G Tryd.prog 31 s_z31 := by
  refine sound_of_evP' G_stays (E := E_z31) (fn := Tryd.f31) (c := C_z31) (tyOk_of_table rfl tis_ok) (fun w S hg => ⟨⟨(fns_cons (z45_sound w S hg) (fns_cons (z46_sound w S hg) fns_nil)), fun f sp h => cns_nil f sp h w S⟩, gl_none w S hg, (fun _ _ h => by cases h), (fun f sp h => (rns_cons (z48_sound w S hg) rns_nil) f sp h), (fun f it h => (its_cons (z62_sound w S hg) its_nil) f it h)⟩) follows Tryd.func31 (by kernel_rfl) (by kernel_rfl) (by kernel_rfl) ?_
  intro avs r h
  unfold s_z31 at h
  split at h
  · simp only [Prod.mk.injEq] at h
    obtain ⟨hp, rfl⟩ := h
    obtain ⟨n, hn⟩ := z31_math _ hp
    exact ⟨n, _, (z31_ev n _ _).trans hn, .inl rfl⟩
  · cases h
noncomputable def E_z24 : EnvP := ⟨⟨tiOf tis, fnsOf [(25, s_z25), (27, s_z27), (31, s_z31)], cnsOf [], [], 30, (fun _ => none), (fun _ => none), some [0]⟩, fun _ => none, fun _ => none, fun _ => [], fun _ => none, fun _ => none, fun _ => none⟩
noncomputable def C_z24 : Code := Tryd.f24.body.getD .skip
noncomputable def R_z24 : Array ResultVar := Tryd.f24.results
theorem z24_ev (n : Nat)  : evFnP E_z24 n C_z24 R_z24 [] = z24_sh n  := by
  kernel_rfl
theorem z24_sound : SoundG G Tryd.prog 24 s_z24 := by
  refine sound_of_evP' G_stays (E := E_z24) (fn := Tryd.f24) (c := C_z24) (tyOk_of_table rfl tis_ok) (fun w S hg => ⟨⟨(fns_cons (z25_sound w S hg) (fns_cons (z27_sound w S hg) (fns_cons (z31_sound w S hg) fns_nil))), fun f sp h => cns_nil f sp h w S⟩, gl_none w S hg, (fun _ _ h => by cases h), (fun f sp h => rns_nil f sp h), (fun f it h => its_nil f it h)⟩) follows Tryd.func24 (by kernel_rfl) (by kernel_rfl) (by kernel_rfl) ?_
  intro avs r h
  unfold s_z24 at h
  split at h
  · simp only [Prod.mk.injEq, true_and] at h
    subst h
    obtain ⟨n, hn⟩ := z24_math
    exact ⟨n, _, (z24_ev n ).trans hn, .inl rfl⟩
  · cases h
noncomputable def E_z33 : EnvP := ⟨⟨tiOf tis, fnsOf [(49, s_z49)], cnsOf [], [], 23, (fun _ => none), (fun _ => none), some [4, 1000005, 6]⟩, fun _ => none, fun _ => none, fun _ => [], fun _ => none, fun _ => none, fun _ => none⟩
noncomputable def C_z33 : Code := Tryd.f33.body.getD .skip
noncomputable def R_z33 : Array ResultVar := Tryd.f33.results
theorem z33_ev (n : Nat) (s0 : List UInt8) (o0 : Lab) (sep1 : List UInt8) (o1 : Lab) : evFnP E_z33 n C_z33 R_z33 [.dat (.sl .byte) s0 o0, .dat (.sl .byte) sep1 o1] = z33_sh n s0 sep1 := by
  kernel_rfl
theorem z33_sound : SoundG G Tryd.prog 33 s_z33 := by
  refine sound_of_evP' G_stays (E := E_z33) (fn := Tryd.f33) (c := C_z33) (tyOk_of_table rfl tis_ok) (fun w S hg => ⟨⟨(fns_cons (z49_sound w S hg) fns_nil), fun f sp h => cns_nil f sp h w S⟩, gl_none w S hg, (fun _ _ h => by cases h), (fun f sp h => rns_nil f sp h), (fun f it h => its_nil f it h)⟩) follows Tryd.func33 (by kernel_rfl) (by kernel_rfl) (by kernel_rfl) ?_
  intro avs r h
  unfold s_z33 at h
  split at h
  · simp only [Prod.mk.injEq] at h
    obtain ⟨hp, rfl⟩ := h
    obtain ⟨n, hn⟩ := z33_math _ _ hp
    exact ⟨n, _, (z33_ev n _ _ _ _).trans hn, .inl rfl⟩
  · cases h
end Go.Av
