import Derived.Test.YtejhjmmdachijaaDoorQrEvH
import Derived.Test.YtejhjmmdachijaaDoorQpN
import Derived.Test.YtejhjmmdachijaaDoorProg
import Derived.KernelRfl
namespace Go.Av
set_option linter.unusedSimpArgs false
open Go.Proofs
set_option maxRecDepth 100000
set_option linter.unusedVariables false
noncomputable def E_z42 : EnvP := ⟨⟨tiOf tis, fnsOf [(55, s_z55), (56, s_z56)], cnsOf [], [], 15, (fun _ => none), (fun _ => none), some [6]⟩, fun _ => none, fun _ => none, fun _ => [], fun _ => none, fun _ => none, fun _ => none⟩
noncomputable def C_z42 : Code := Tryd.f42.body.getD .skip
noncomputable def R_z42 : Array ResultVar := Tryd.f42.results
theorem z42_ev (n : Nat) (b0 : List UInt8) (o0 : Lab) (sign1 : UInt8) (o1 : Lab) (c2 : UInt8) (o2 : Lab) : evFnP E_z42 n C_z42 R_z42 [.dat (.sl .byte) b0 o0, .dat .byte sign1 o1, .dat .byte c2 o2] = z42_sh n b0 sign1 c2 := by
  kernel_rfl
theorem z42_sound : SoundG G Tryd.prog 42 s_z42 := by
  refine sound_of_evP' G_stays (E := E_z42) (fn := Tryd.f42) (c := C_z42) (tyOk_of_table rfl tis_ok) (fun w S hg => ⟨⟨(fns_cons (z55_sound w S hg) (fns_cons (z56_sound w S hg) fns_nil)), fun f sp h => cns_nil f sp h w S⟩, gl_none w S hg, (fun _ _ h => by cases h), (fun f sp h => rns_nil f sp h), (fun f it h => its_nil f it h)⟩) follows Tryd.func42 (by kernel_rfl) (by kernel_rfl) (by kernel_rfl) ?_
  intro avs r h
  unfold s_z42 at h
  split at h
  · simp only [Prod.mk.injEq] at h
    obtain ⟨hp, rfl⟩ := h
    obtain ⟨n, hn⟩ := z42_math _ _ _ hp
    exact ⟨n, _, (z42_ev n _ _ _ _ _ _).trans hn, .inl rfl⟩
  · cases h
noncomputable def E_z22 : EnvP := ⟨⟨tiOf tis, fnsOf [(41, s_z41), (42, s_z42)], cnsOf [], [], 23, (fun _ => none), (fun _ => none), some [4]⟩, fun _ => none, fun _ => none, fun _ => [], fun _ => none, fun _ => none, fun _ => none⟩
noncomputable def C_z22 : Code := Tryd.f22.body.getD .skip
noncomputable def R_z22 : Array ResultVar := Tryd.f22.results
theorem z22_ev (n : Nat) (c0 : UInt8) (o0 : Lab) (ends1 : Bool) (o1 : Lab) : evFnP E_z22 n C_z22 R_z22 [.dat .byte c0 o0, .dat .bool ends1 o1] = z22_sh n c0 ends1 := by
  kernel_rfl
theorem z22_sound : SoundG G Tryd.prog 22 s_z22 := by
  refine sound_of_evP' G_stays (E := E_z22) (fn := Tryd.f22) (c := C_z22) (tyOk_of_table rfl tis_ok) (fun w S hg => ⟨⟨(fns_cons (z41_sound w S hg) (fns_cons (z42_sound w S hg) fns_nil)), fun f sp h => cns_nil f sp h w S⟩, gl_none w S hg, (fun _ _ h => by cases h), (fun f sp h => rns_nil f sp h), (fun f it h => its_nil f it h)⟩) follows Tryd.func22 (by kernel_rfl) (by kernel_rfl) (by kernel_rfl) ?_
  intro avs r h
  unfold s_z22 at h
  split at h
  · simp only [Prod.mk.injEq, true_and] at h
    subst h
    obtain ⟨n, hn⟩ := z22_math _ _
    exact ⟨n, _, (z22_ev n _ _ _ _).trans hn, .inl rfl⟩
  · cases h
noncomputable def E_z40 : EnvP := ⟨⟨tiOf tis, fnsOf [], cnsOf [], [], 25, (fun _ => none), (fun _ => none), some [25]⟩, (fun x => if x = 11 then some (.osl 5 .byte) else if x = 19 then some (.osl 5 .byte) else none), fun _ => none, fun _ => [], fun _ => none, fun _ => none, fun _ => none⟩
noncomputable def C_z40 : Code := Tryd.f40.body.getD .skip
noncomputable def R_z40 : Array ResultVar := Tryd.f40.results
theorem z40_ev (n : Nat) (p0 : (List UInt8) × (Int × Unit)) (soft1 : Bool) (o1 : Lab) : evFnM E_z40 n C_z40 R_z40 [.pbox (.ppair (.osl 5 .byte) (.ppair (.leaf (.int .i64)) (.leaf .unit))) p0 none, .dat .bool soft1 o1] = z40_sh n p0 soft1 := by
  kernel_rfl
theorem z40_sound : SoundM G Tryd.prog 40 s_z40 := by
  refine soundM_of_ev G_stays (E := E_z40) (fn := Tryd.f40) (c := C_z40) (tyOk_of_table rfl tis_ok) (fun w S hg => ⟨⟨fns_nil, fun f sp h => cns_nil f sp h w S⟩, gl_none w S hg, (fun _ _ h => by cases h), (fun f sp h => rns_nil f sp h), (fun f it h => its_nil f it h)⟩) follows Tryd.func40 (by kernel_rfl) (by kernel_rfl) (by kernel_rfl) ?_
  intro avs r h
  unfold s_z40 at h
  split at h
  · simp only [Prod.mk.injEq] at h
    obtain ⟨hp, rfl⟩ := h
    obtain ⟨n, hn⟩ := z40_math _ _ hp
    exact ⟨n, (z40_ev n _ _ _).trans hn⟩
  · cases h
noncomputable def E_z38 : EnvP := ⟨⟨tiOf tis, fnsOf [], cnsOf [], [], 32, (fun _ => none), (fun _ => none), some [32]⟩, (fun x => if x = 20 then some (.osl 5 .byte) else none), fun _ => none, fun _ => [], (fun x => if x = 40 then some s_z40 else none), fun _ => none, fun _ => none⟩
noncomputable def C_z38 : Code := Tryd.f38.body.getD .skip
noncomputable def R_z38 : Array ResultVar := Tryd.f38.results
theorem z38_ev (n : Nat) (p0 : (List UInt8) × (Int × Unit)) (u1 : List UInt8) (o1 : Lab) : evFnM E_z38 n C_z38 R_z38 [.pbox (.ppair (.osl 5 .byte) (.ppair (.leaf (.int .i64)) (.leaf .unit))) p0 none, .dat (.sl .byte) u1 o1] = z38_sh n p0 u1 := by
  kernel_rfl
theorem z38_sound : SoundM G Tryd.prog 38 s_z38 := by
  refine soundM_of_ev G_stays (E := E_z38) (fn := Tryd.f38) (c := C_z38) (tyOk_of_table rfl tis_ok) (fun w S hg => ⟨⟨fns_nil, fun f sp h => cns_nil f sp h w S⟩, gl_none w S hg, (fun f sp h => (mns_cons (z40_sound w S hg) mns_nil) f sp h), (fun f sp h => rns_nil f sp h), (fun f it h => its_nil f it h)⟩) follows Tryd.func38 (by kernel_rfl) (by kernel_rfl) (by kernel_rfl) ?_
  intro avs r h
  unfold s_z38 at h
  split at h
  · simp only [Prod.mk.injEq] at h
    obtain ⟨hp, rfl⟩ := h
    obtain ⟨n, hn⟩ := z38_math _ _ hp
    exact ⟨n, (z38_ev n _ _ _).trans hn⟩
  · cases h
noncomputable def E_z39 : EnvP := ⟨⟨tiOf tis, fnsOf [], cnsOf [], [], 45, (fun _ => none), (fun x => if x = 0 then some [] else none), some [4]⟩, fun _ => none, fun _ => none, fun _ => [], fun _ => none, fun _ => none, fun _ => none⟩
noncomputable def C_z39 : Code := Tryd.f39.body.getD .skip
noncomputable def R_z39 : Array ResultVar := Tryd.f39.results
theorem z39_ev (n : Nat) (s0 : List UInt8) (o0 : Lab) (at1 : Int) (o1 : Lab) : evFnP E_z39 n C_z39 R_z39 [.dat (.sl .byte) s0 o0, .dat (.int .i64) at1 o1] = z39_sh n s0 at1 := by
  kernel_rfl
theorem z39_sound : SoundG G Tryd.prog 39 s_z39 := by
  refine sound_of_evP' G_stays (E := E_z39) (fn := Tryd.f39) (c := C_z39) (tyOk_of_table rfl tis_ok) (fun w S hg => ⟨⟨fns_nil, fun f sp h => cns_nil f sp h w S⟩, gl_none w S hg, (fun _ _ h => by cases h), (fun f sp h => rns_nil f sp h), (fun f it h => its_nil f it h)⟩) follows Tryd.func39 (by kernel_rfl) (by kernel_rfl) (by kernel_rfl) ?_
  intro avs r h
  unfold s_z39 at h
  split at h
  · simp only [Prod.mk.injEq] at h
    obtain ⟨hp, rfl⟩ := h
    obtain ⟨n, hn⟩ := z39_math _ _ hp
    exact ⟨n, _, (z39_ev n _ _ _ _).trans hn, .inl rfl⟩
  · cases h
noncomputable def E_z16 : EnvP := ⟨⟨tiOf tis, fnsOf [(22, s_z22), (39, s_z39)], cnsOf [], [], 50, (fun x => if x = 4 then some [0, 3, 4, 5] else none), (fun x => if x = 0 then some [3] else if x = 1 then some [0, 3, 4, 5] else none), some [2]⟩, (fun x => if x = 7 then some (.ppair (.osl 5 .byte) (.ppair (.leaf (.int .i64)) (.leaf .unit))) else if x = 8 then some (.ppair (.osl 5 .byte) (.ppair (.leaf (.int .i64)) (.leaf .unit))) else none), fun _ => none, fun _ => [], (fun x => if x = 38 then some s_z38 else if x = 40 then some s_z40 else none), fun _ => none, fun _ => none⟩
noncomputable def C_z16 : Code := Tryd.f16.body.getD .skip
noncomputable def R_z16 : Array ResultVar := Tryd.f16.results
theorem z16_l4_ok (K : Ex → Fr → Option AV) : ∀ (n : Nat) (s0 : List UInt8) (p3 : (List UInt8) × (Int × Unit)) (at5 : Int), evLP E_z16 n (sub C_z16 [1, 1, 1, 0, 1, 0, 0]) K (frOf [(0, (.dat (.sl .byte) s0 none)), (3, (.pbox (.ppair (.osl 5 .byte) (.ppair (.leaf (.int .i64)) (.leaf .unit))) p3 none)), (4, (.padr 3 [.clo 38 true])), (5, (.dat (.int .i64) at5 none))]) = z16_l4 (fun p3 => K (.exit 0) (frOf [(3, (.pbox (.ppair (.osl 5 .byte) (.ppair (.leaf (.int .i64)) (.leaf .unit))) p3 none))])) n s0 p3 at5 := by
  intro n
  induction n with
  | zero => intros; rfl
  | succ n IH =>
  intro s0 p3 at5
  have ih : (fun s0 p3 at5 => evLP E_z16 n (sub C_z16 [1, 1, 1, 0, 1, 0, 0]) K (frOf [(0, (.dat (.sl .byte) s0 none)), (3, (.pbox (.ppair (.osl 5 .byte) (.ppair (.leaf (.int .i64)) (.leaf .unit))) p3 none)), (4, (.padr 3 [.clo 38 true])), (5, (.dat (.int .i64) at5 none))])) = z16_l4 (fun p3 => K (.exit 0) (frOf [(3, (.pbox (.ppair (.osl 5 .byte) (.ppair (.leaf (.int .i64)) (.leaf .unit))) p3 none))])) n := by
    funext s0 p3 at5
    exact IH s0 p3 at5
  show _ = z16_l4_b (fun p3 => K (.exit 0) (frOf [(3, (.pbox (.ppair (.osl 5 .byte) (.ppair (.leaf (.int .i64)) (.leaf .unit))) p3 none))])) (z16_l4 (fun p3 => K (.exit 0) (frOf [(3, (.pbox (.ppair (.osl 5 .byte) (.ppair (.leaf (.int .i64)) (.leaf .unit))) p3 none))])) n) n s0 p3 at5
  rw [← ih]
  kernel_rfl
theorem z16_k4_0_ok (n : Nat) (p3 : (List UInt8) × (Int × Unit)) : (kBlockP 0 (E_z16.cutb 0) (kSeq (evCP E_z16 (evLP E_z16 n) (sub C_z16 [1, 1, 1, 1])) (kFnP E_z16 R_z16))) (.exit 0) (frOf [(3, (.pbox (.ppair (.osl 5 .byte) (.ppair (.leaf (.int .i64)) (.leaf .unit))) p3 none))]) = z16_k4_0 n p3 := by
  kernel_rfl
theorem z16_ev (n : Nat) (s0 : List UInt8) (o0 : Lab) : evFnP E_z16 n C_z16 R_z16 [.dat (.sl .byte) s0 o0] = z16_sh n s0 := by
  unfold z16_sh
  rw [show z16_l4 (z16_k4_0 n) n = (fun s0 p3 at5 => evLP E_z16 n (sub C_z16 [1, 1, 1, 0, 1, 0, 0]) (kBlockP 0 (E_z16.cutb 0) (kSeq (evCP E_z16 (evLP E_z16 n) (sub C_z16 [1, 1, 1, 1])) (kFnP E_z16 R_z16))) (frOf [(0, (.dat (.sl .byte) s0 none)), (3, (.pbox (.ppair (.osl 5 .byte) (.ppair (.leaf (.int .i64)) (.leaf .unit))) p3 none)), (4, (.padr 3 [.clo 38 true])), (5, (.dat (.int .i64) at5 none))])) from by
    funext s0 p3 at5
    refine Eq.trans ?_ (z16_l4_ok (kBlockP 0 (E_z16.cutb 0) (kSeq (evCP E_z16 (evLP E_z16 n) (sub C_z16 [1, 1, 1, 1])) (kFnP E_z16 R_z16))) n s0 p3 at5).symm
    rw [show (fun p3 => (kBlockP 0 (E_z16.cutb 0) (kSeq (evCP E_z16 (evLP E_z16 n) (sub C_z16 [1, 1, 1, 1])) (kFnP E_z16 R_z16))) (.exit 0) (frOf [(3, (.pbox (.ppair (.osl 5 .byte) (.ppair (.leaf (.int .i64)) (.leaf .unit))) p3 none))])) = (z16_k4_0 n) from by
      funext p3
      exact z16_k4_0_ok n p3]
    all_goals kernel_rfl]
  kernel_rfl
theorem z16_sound : SoundG G Tryd.prog 16 s_z16 := by
  refine sound_of_evP' G_stays (E := E_z16) (fn := Tryd.f16) (c := C_z16) (tyOk_of_table rfl tis_ok) (fun w S hg => ⟨⟨(fns_cons (z22_sound w S hg) (fns_cons (z39_sound w S hg) fns_nil)), fun f sp h => cns_nil f sp h w S⟩, gl_none w S hg, (fun f sp h => (mns_cons (z38_sound w S hg) (mns_cons (z40_sound w S hg) mns_nil)) f sp h), (fun f sp h => rns_nil f sp h), (fun f it h => its_nil f it h)⟩) follows Tryd.func16 (by kernel_rfl) (by kernel_rfl) (by kernel_rfl) ?_
  intro avs r h
  unfold s_z16 at h
  split at h
  · simp only [Prod.mk.injEq] at h
    obtain ⟨hp, rfl⟩ := h
    obtain ⟨n, hn⟩ := z16_math _ hp
    exact ⟨n, _, (z16_ev n _ _).trans hn, .inl rfl⟩
  · cases h
noncomputable def E_z32 : EnvP := ⟨⟨tiOf tis, fnsOf [(16, s_z16), (27, s_z27)], cnsOf [], [], 6, (fun _ => none), (fun _ => none), some [2]⟩, fun _ => none, fun _ => none, fun _ => [], fun _ => none, fun _ => none, fun _ => none⟩
noncomputable def C_z32 : Code := Tryd.f32.body.getD .skip
noncomputable def R_z32 : Array ResultVar := Tryd.f32.results
theorem z32_ev (n : Nat) (s0 : List UInt8) (o0 : Lab) : evFnP E_z32 n C_z32 R_z32 [.dat (.sl .byte) s0 o0] = z32_sh n s0 := by
  kernel_rfl
theorem z32_sound : SoundG G Tryd.prog 32 s_z32 := by
  refine sound_of_evP' G_stays (E := E_z32) (fn := Tryd.f32) (c := C_z32) (tyOk_of_table rfl tis_ok) (fun w S hg => ⟨⟨(fns_cons (z16_sound w S hg) (fns_cons (z27_sound w S hg) fns_nil)), fun f sp h => cns_nil f sp h w S⟩, gl_none w S hg, (fun _ _ h => by cases h), (fun f sp h => rns_nil f sp h), (fun f it h => its_nil f it h)⟩) follows Tryd.func32 (by kernel_rfl) (by kernel_rfl) (by kernel_rfl) ?_
  intro avs r h
  unfold s_z32 at h
  split at h
  · simp only [Prod.mk.injEq] at h
    obtain ⟨hp, rfl⟩ := h
    obtain ⟨n, hn⟩ := z32_math _ hp
    exact ⟨n, _, (z32_ev n _ _).trans hn, .inl rfl⟩
  · cases h
noncomputable def E_z10 : EnvP := ⟨⟨tiOf tis, fnsOf [(18, s_z18), (19, s_z19), (21, s_z21), (24, s_z24), (27, s_z27), (29, s_z29), (31, s_z31), (32, s_z32)], cnsOf [], [], 45, (fun _ => none), (fun _ => none), some [2]⟩, fun _ => none, fun _ => none, fun _ => [], fun _ => none, fun _ => none, fun _ => none⟩
noncomputable def C_z10 : Code := Tryd.f10.body.getD .skip
noncomputable def R_z10 : Array ResultVar := Tryd.f10.results
theorem z10_ev (n : Nat) (s0 : List UInt8) (o0 : Lab) : evFnP E_z10 n C_z10 R_z10 [.dat (.sl .byte) s0 o0] = z10_sh n s0 := by
  kernel_rfl
theorem z10_sound : SoundG G Tryd.prog 10 s_z10 := by
  refine sound_of_evP' G_stays (E := E_z10) (fn := Tryd.f10) (c := C_z10) (tyOk_of_table rfl tis_ok) (fun w S hg => ⟨⟨(fns_cons (z18_sound w S hg) (fns_cons (z19_sound w S hg) (fns_cons (z21_sound w S hg) (fns_cons (z24_sound w S hg) (fns_cons (z27_sound w S hg) (fns_cons (z29_sound w S hg) (fns_cons (z31_sound w S hg) (fns_cons (z32_sound w S hg) fns_nil)))))))), fun f sp h => cns_nil f sp h w S⟩, gl_none w S hg, (fun _ _ h => by cases h), (fun f sp h => rns_nil f sp h), (fun f it h => its_nil f it h)⟩) follows Tryd.func10 (by kernel_rfl) (by kernel_rfl) (by kernel_rfl) ?_
  intro avs r h
  unfold s_z10 at h
  split at h
  · simp only [Prod.mk.injEq, true_and] at h
    subst h
    obtain ⟨n, hn⟩ := z10_math _
    exact ⟨n, _, (z10_ev n _ _).trans hn, .inl rfl⟩
  · cases h
end Go.Av
