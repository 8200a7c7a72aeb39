import Derived.Test.YtopepdfipgfakaaEcEvH
import Derived.Test.YtopepdfipgfakaaEcN
import Derived.Test.YtopepdfipgfakaaProg
import Derived.KernelRfl
namespace Go.Av
open Go.Proofs
set_option maxRecDepth 100000
set_option linter.unusedVariables false
/-! sheave/sheaveref13.octets -/

noncomputable def E_ref13_octets : EnvP := ⟨⟨tiOf tis, fnsOf [(35, s_ref12_Has), (36, s_ref08_Put), (37, s_ref09_Put), (38, s_ref10_Put), (39, s_ref04_Octets)], cnsOf [], [], 40, (fun _ => none), (fun x => if x = 0 then some [5] else none), some [4]⟩, fun _ => none, fun _ => none, fun _ => [], fun _ => none⟩
noncomputable def C_ref13_octets : Code := Try.f26.body.getD .skip
noncomputable def R_ref13_octets : Array ResultVar := Try.f26.results
theorem ref13_octets_ev (n : Nat) (charset0 : Int) (o0 : Lab) (c1 : Int) (o1 : Lab) : evFnP E_ref13_octets n C_ref13_octets R_ref13_octets [.dat (.int .i64) charset0 o0, .dat (.int .i32) c1 o1] = ref13_octets_sh n charset0 c1 := by
  kernel_rfl
theorem ref13_octets_sound : SoundG G Try.prog 26 s_ref13_octets := by
  refine sound_of_evP' G_stays (E := E_ref13_octets) (fn := Try.f26) (c := C_ref13_octets) (tyOk_of_table rfl tis_ok) (fun w S hg => ⟨⟨(fns_cons (ref12_Has_sound w S hg) (fns_cons (ref08_Put_sound w S hg) (fns_cons (ref09_Put_sound w S hg) (fns_cons (ref10_Put_sound w S hg) (fns_cons (ref04_Octets_sound w S hg) fns_nil))))), fun f sp h => cns_nil f sp h w S⟩, gl_none w S hg, fun _ _ h => by cases h⟩) follows Try.func26 (by kernel_rfl) (by kernel_rfl) (by kernel_rfl) ?_
  intro avs r h
  unfold s_ref13_octets at h
  split at h
  · simp only [Prod.mk.injEq, true_and] at h
    subst h
    obtain ⟨n, hn⟩ := ref13_octets_math _ _
    exact ⟨n, _, (ref13_octets_ev n _ _ _ _).trans hn, .inl rfl⟩
  · cases h

/-! sheave/sheaveref11.Names -/

noncomputable def E_ref11_Names : EnvP := ⟨⟨tiOf tis, fnsOf [], cnsOf [], [], 19, (fun _ => none), (fun x => if x = 0 then some [] else none), some [2]⟩, fun _ => none, fun _ => none, fun _ => [], fun _ => none⟩
noncomputable def C_ref11_Names : Code := Try.f40.body.getD .skip
noncomputable def R_ref11_Names : Array ResultVar := Try.f40.results
theorem ref11_Names_ev (n : Nat) (n0 : Int) (o0 : Lab) : evFnP E_ref11_Names n C_ref11_Names R_ref11_Names [.dat (.int .i64) n0 o0] = ref11_Names_sh n n0 := by
  kernel_rfl
theorem ref11_Names_sound : SoundG G Try.prog 40 s_ref11_Names := by
  refine sound_of_evP' G_stays (E := E_ref11_Names) (fn := Try.f40) (c := C_ref11_Names) (tyOk_of_table rfl tis_ok) (fun w S hg => ⟨⟨fns_nil, fun f sp h => cns_nil f sp h w S⟩, gl_none w S hg, fun _ _ h => by cases h⟩) follows Try.func40 (by kernel_rfl) (by kernel_rfl) (by kernel_rfl) ?_
  intro avs r h
  unfold s_ref11_Names at h
  split at h
  · simp only [Prod.mk.injEq, true_and] at h
    subst h
    obtain ⟨n, hn⟩ := ref11_Names_math _
    exact ⟨n, _, (ref11_Names_ev n _ _).trans hn, .inl rfl⟩
  · cases h

/-! sheave/sheaveref11.Name -/

noncomputable def E_ref11_Name : EnvP := ⟨⟨tiOf tis, fnsOf [(40, s_ref11_Names)], cnsOf [], [], 12, (fun _ => none), (fun _ => none), some [2]⟩, fun _ => none, fun _ => none, fun _ => [], fun _ => none⟩
noncomputable def C_ref11_Name : Code := Try.f27.body.getD .skip
noncomputable def R_ref11_Name : Array ResultVar := Try.f27.results
theorem ref11_Name_ev (n : Nat) (n0 : Int) (o0 : Lab) : evFnP E_ref11_Name n C_ref11_Name R_ref11_Name [.dat (.int .i64) n0 o0] = ref11_Name_sh n n0 := by
  kernel_rfl
theorem ref11_Name_sound : SoundG G Try.prog 27 s_ref11_Name := by
  refine sound_of_evP' G_stays (E := E_ref11_Name) (fn := Try.f27) (c := C_ref11_Name) (tyOk_of_table rfl tis_ok) (fun w S hg => ⟨⟨(fns_cons (ref11_Names_sound w S hg) fns_nil), fun f sp h => cns_nil f sp h w S⟩, gl_none w S hg, fun _ _ h => by cases h⟩) follows Try.func27 (by kernel_rfl) (by kernel_rfl) (by kernel_rfl) ?_
  intro avs r h
  unfold s_ref11_Name at h
  split at h
  · simp only [Prod.mk.injEq, true_and] at h
    subst h
    obtain ⟨n, hn⟩ := ref11_Name_math _
    exact ⟨n, _, (ref11_Name_ev n _ _).trans hn, .inl rfl⟩
  · cases h

/-! sheave/sheaveref29.Over -/

noncomputable def E_ref29_Over : EnvP := ⟨⟨tiOf tis, fnsOf [(27, s_ref11_Name)], cnsOf [], [], 13, (fun _ => none), (fun _ => none), some [2]⟩, fun _ => none, fun _ => none, fun _ => [], fun _ => none⟩
noncomputable def C_ref29_Over : Code := Try.f23.body.getD .skip
noncomputable def R_ref29_Over : Array ResultVar := Try.f23.results
theorem ref29_Over_ev (n : Nat) (charset0 : Int) (o0 : Lab) : evFnP E_ref29_Over n C_ref29_Over R_ref29_Over [.dat (.int .i64) charset0 o0] = ref29_Over_sh n charset0 := by
  kernel_rfl
theorem ref29_Over_sound : SoundG G Try.prog 23 s_ref29_Over := by
  refine sound_of_evP' G_stays (E := E_ref29_Over) (fn := Try.f23) (c := C_ref29_Over) (tyOk_of_table rfl tis_ok) (fun w S hg => ⟨⟨(fns_cons (ref11_Name_sound w S hg) fns_nil), fun f sp h => cns_nil f sp h w S⟩, gl_none w S hg, fun _ _ h => by cases h⟩) follows Try.func23 (by kernel_rfl) (by kernel_rfl) (by kernel_rfl) ?_
  intro avs r h
  unfold s_ref29_Over at h
  split at h
  · simp only [Prod.mk.injEq, true_and] at h
    subst h
    obtain ⟨n, hn⟩ := ref29_Over_math _
    exact ⟨n, _, (ref29_Over_ev n _ _).trans hn, .inl rfl⟩
  · cases h

/-! sheave/sheaveref13.Lay -/

noncomputable def E_ref13_Lay : EnvP := ⟨⟨tiOf tis, fnsOf [(26, s_ref13_octets)], cnsOf [], [], 34, (fun x => if x = 5 then some [0, 1, 6, 7] else none), (fun x => if x = 0 then some [6] else if x = 1 then some [0, 1, 6, 7] else none), some [4, 5]⟩, fun _ => none, fun _ => none, fun _ => [], fun _ => none⟩
noncomputable def C_ref13_Lay : Code := Try.f19.body.getD .skip
noncomputable def R_ref13_Lay : Array ResultVar := Try.f19.results
theorem ref13_Lay_l5_ok (K : Ex → Fr → Option AV) : ∀ (n : Nat) (charset0 : Int) (t1 : List Int) (out6 : List UInt8) (i7 : Int), evLP E_ref13_Lay n (sub C_ref13_Lay [1, 1, 1, 0, 1, 0, 0]) K (frOf [(0, (.dat (.int .i64) charset0 none)), (1, (.dat (.sl (.int .i32)) t1 none)), (6, (.dat (.sl .byte) out6 (some (6, 5)))), (7, (.dat (.int .i64) i7 none))]) = ref13_Lay_l5 (fun s4 s5 => K .ret (frOf [(4, (.dat (.sl .byte) s4 (some (4, 5)))), (5, (.dat (.int .i64) s5 none))])) (fun out6 => K (.exit 0) (frOf [(6, (.dat (.sl .byte) out6 (some (6, 5))))])) n charset0 t1 out6 i7 := by
  intro n
  induction n with
  | zero => intros; rfl
  | succ n IH =>
  intro charset0 t1 out6 i7
  have ih : (fun charset0 t1 out6 i7 => evLP E_ref13_Lay n (sub C_ref13_Lay [1, 1, 1, 0, 1, 0, 0]) K (frOf [(0, (.dat (.int .i64) charset0 none)), (1, (.dat (.sl (.int .i32)) t1 none)), (6, (.dat (.sl .byte) out6 (some (6, 5)))), (7, (.dat (.int .i64) i7 none))])) = ref13_Lay_l5 (fun s4 s5 => K .ret (frOf [(4, (.dat (.sl .byte) s4 (some (4, 5)))), (5, (.dat (.int .i64) s5 none))])) (fun out6 => K (.exit 0) (frOf [(6, (.dat (.sl .byte) out6 (some (6, 5))))])) n := by
    funext charset0 t1 out6 i7
    exact IH charset0 t1 out6 i7
  show _ = ref13_Lay_l5_b (fun s4 s5 => K .ret (frOf [(4, (.dat (.sl .byte) s4 (some (4, 5)))), (5, (.dat (.int .i64) s5 none))])) (fun out6 => K (.exit 0) (frOf [(6, (.dat (.sl .byte) out6 (some (6, 5))))])) (ref13_Lay_l5 (fun s4 s5 => K .ret (frOf [(4, (.dat (.sl .byte) s4 (some (4, 5)))), (5, (.dat (.int .i64) s5 none))])) (fun out6 => K (.exit 0) (frOf [(6, (.dat (.sl .byte) out6 (some (6, 5))))])) n) n charset0 t1 out6 i7
  rw [← ih]
  kernel_rfl
theorem ref13_Lay_k5_0_ok (n : Nat) (out6 : List UInt8) : (kBlockP 0 (E_ref13_Lay.cutb 0) (kSeq (evCP E_ref13_Lay (evLP E_ref13_Lay n) (sub C_ref13_Lay [1, 1, 1, 1])) (kFnP E_ref13_Lay R_ref13_Lay))) (.exit 0) (frOf [(6, (.dat (.sl .byte) out6 (some (6, 5))))]) = ref13_Lay_k5_0 n out6 := by
  kernel_rfl
theorem ref13_Lay_ev (n : Nat) (charset0 : Int) (o0 : Lab) (t1 : List Int) (o1 : Lab) : evFnP E_ref13_Lay n C_ref13_Lay R_ref13_Lay [.dat (.int .i64) charset0 o0, .dat (.sl (.int .i32)) t1 o1] = ref13_Lay_sh n charset0 t1 := by
  unfold ref13_Lay_sh
  rw [show ref13_Lay_l5 ref13_Lay_ret (ref13_Lay_k5_0 n) n = (fun charset0 t1 out6 i7 => evLP E_ref13_Lay n (sub C_ref13_Lay [1, 1, 1, 0, 1, 0, 0]) (kBlockP 0 (E_ref13_Lay.cutb 0) (kSeq (evCP E_ref13_Lay (evLP E_ref13_Lay n) (sub C_ref13_Lay [1, 1, 1, 1])) (kFnP E_ref13_Lay R_ref13_Lay))) (frOf [(0, (.dat (.int .i64) charset0 none)), (1, (.dat (.sl (.int .i32)) t1 none)), (6, (.dat (.sl .byte) out6 (some (6, 5)))), (7, (.dat (.int .i64) i7 none))])) from by
    funext charset0 t1 out6 i7
    refine Eq.trans ?_ (ref13_Lay_l5_ok (kBlockP 0 (E_ref13_Lay.cutb 0) (kSeq (evCP E_ref13_Lay (evLP E_ref13_Lay n) (sub C_ref13_Lay [1, 1, 1, 1])) (kFnP E_ref13_Lay R_ref13_Lay))) n charset0 t1 out6 i7).symm
    rw [show (fun out6 => (kBlockP 0 (E_ref13_Lay.cutb 0) (kSeq (evCP E_ref13_Lay (evLP E_ref13_Lay n) (sub C_ref13_Lay [1, 1, 1, 1])) (kFnP E_ref13_Lay R_ref13_Lay))) (.exit 0) (frOf [(6, (.dat (.sl .byte) out6 (some (6, 5))))])) = (ref13_Lay_k5_0 n) from by
      funext out6
      exact ref13_Lay_k5_0_ok n out6]
    all_goals kernel_rfl]
  kernel_rfl
theorem ref13_Lay_sound : SoundG G Try.prog 19 s_ref13_Lay := by
  refine sound_of_evP' G_stays (E := E_ref13_Lay) (fn := Try.f19) (c := C_ref13_Lay) (tyOk_of_table rfl tis_ok) (fun w S hg => ⟨⟨(fns_cons (ref13_octets_sound w S hg) fns_nil), fun f sp h => cns_nil f sp h w S⟩, gl_none w S hg, fun _ _ h => by cases h⟩) follows Try.func19 (by kernel_rfl) (by kernel_rfl) (by kernel_rfl) ?_
  intro avs r h
  unfold s_ref13_Lay at h
  split at h
  · simp only [Prod.mk.injEq] at h
    obtain ⟨hp, rfl⟩ := h
    obtain ⟨n, hn⟩ := ref13_Lay_math _ _ hp
    exact ⟨n, _, (ref13_Lay_ev n _ _ _ _).trans hn, .inl rfl⟩
  · cases h

/-! sheave/sheaveref29.Lay -/

noncomputable def E_ref29_Lay : EnvP := ⟨⟨tiOf tis, fnsOf [(24, s_ref14_Lay), (25, s_ref20_Lay), (27, s_ref11_Name)], cnsOf [], [], 49, (fun _ => none), (fun _ => none), some [1000006, 7]⟩, (fun x => if x = 39 then some (.osl 5 .byte) else if x = 41 then some (.osl 5 .byte) else if x = 44 then some (.osl 5 .byte) else none), fun _ => none, fun _ => [], fun _ => none⟩
noncomputable def C_ref29_Lay : Code := Try.f20.body.getD .skip
noncomputable def R_ref29_Lay : Array ResultVar := Try.f20.results
theorem ref29_Lay_ev (n : Nat) (charset0 : Int) (o0 : Lab) (code1 : Int) (o1 : Lab) (s2 : List UInt8) (o2 : Lab) : evFnP E_ref29_Lay n C_ref29_Lay R_ref29_Lay [.dat (.int .i64) charset0 o0, .dat (.int .i64) code1 o1, .dat (.sl .byte) s2 o2] = ref29_Lay_sh n charset0 code1 s2 := by
  kernel_rfl
theorem ref29_Lay_sound : SoundG G Try.prog 20 s_ref29_Lay := by
  refine sound_of_evP' G_stays (E := E_ref29_Lay) (fn := Try.f20) (c := C_ref29_Lay) (tyOk_of_table rfl tis_ok) (fun w S hg => ⟨⟨(fns_cons (ref14_Lay_sound w S hg) (fns_cons (ref20_Lay_sound w S hg) (fns_cons (ref11_Name_sound w S hg) fns_nil))), fun f sp h => cns_nil f sp h w S⟩, gl_none w S hg, fun _ _ h => by cases h⟩) follows Try.func20 (by kernel_rfl) (by kernel_rfl) (by kernel_rfl) ?_
  intro avs r h
  unfold s_ref29_Lay at h
  split at h
  · simp only [Prod.mk.injEq] at h
    obtain ⟨hp, rfl⟩ := h
    obtain ⟨n, hn⟩ := ref29_Lay_math _ _ _ hp
    exact ⟨n, _, (ref29_Lay_ev n _ _ _ _ _ _).trans hn, .inl rfl⟩
  · cases h

/-! sheave/sheaveref30.Len -/

noncomputable def E_ref30_Len : EnvP := ⟨⟨tiOf tis, fnsOf [(19, s_ref13_Lay), (23, s_ref29_Over), (24, s_ref14_Lay), (25, s_ref20_Lay)], cnsOf [], [], 42, (fun _ => none), (fun _ => none), some [6, 7]⟩, fun _ => none, fun _ => none, fun _ => [], fun _ => none⟩
noncomputable def C_ref30_Len : Code := Try.f9.body.getD .skip
noncomputable def R_ref30_Len : Array ResultVar := Try.f9.results
theorem ref30_Len_ev (n : Nat) (charset0 : Int) (o0 : Lab) (code1 : Int) (o1 : Lab) (t2 : List Int) (o2 : Lab) : evFnP E_ref30_Len n C_ref30_Len R_ref30_Len [.dat (.int .i64) charset0 o0, .dat (.int .i64) code1 o1, .dat (.sl (.int .i32)) t2 o2] = ref30_Len_sh n charset0 code1 t2 := by
  kernel_rfl
theorem ref30_Len_sound : SoundG G Try.prog 9 s_ref30_Len := by
  refine sound_of_evP' G_stays (E := E_ref30_Len) (fn := Try.f9) (c := C_ref30_Len) (tyOk_of_table rfl tis_ok) (fun w S hg => ⟨⟨(fns_cons (ref13_Lay_sound w S hg) (fns_cons (ref29_Over_sound w S hg) (fns_cons (ref14_Lay_sound w S hg) (fns_cons (ref20_Lay_sound w S hg) fns_nil)))), fun f sp h => cns_nil f sp h w S⟩, gl_none w S hg, fun _ _ h => by cases h⟩) follows Try.func9 (by kernel_rfl) (by kernel_rfl) (by kernel_rfl) ?_
  intro avs r h
  unfold s_ref30_Len at h
  split at h
  · simp only [Prod.mk.injEq] at h
    obtain ⟨hp, rfl⟩ := h
    obtain ⟨n, hn⟩ := ref30_Len_math _ _ _ hp
    exact ⟨n, _, (ref30_Len_ev n _ _ _ _ _ _).trans hn, .inl rfl⟩
  · cases h

/-! sheave/sheaveref30.Better -/

noncomputable def E_ref30_Better : EnvP := ⟨⟨tiOf tis, fnsOf [(9, s_ref30_Len)], cnsOf [], [], 28, (fun _ => none), (fun _ => none), some [4, 5]⟩, fun _ => none, fun _ => none, fun _ => [], fun _ => none⟩
noncomputable def C_ref30_Better : Code := Try.f11.body.getD .skip
noncomputable def R_ref30_Better : Array ResultVar := Try.f11.results
theorem ref30_Better_ev (n : Nat) (charset0 : Int) (o0 : Lab) (t1 : List Int) (o1 : Lab) : evFnP E_ref30_Better n C_ref30_Better R_ref30_Better [.dat (.int .i64) charset0 o0, .dat (.sl (.int .i32)) t1 o1] = ref30_Better_sh n charset0 t1 := by
  kernel_rfl
theorem ref30_Better_sound : SoundG G Try.prog 11 s_ref30_Better := by
  refine sound_of_evP' G_stays (E := E_ref30_Better) (fn := Try.f11) (c := C_ref30_Better) (tyOk_of_table rfl tis_ok) (fun w S hg => ⟨⟨(fns_cons (ref30_Len_sound w S hg) fns_nil), fun f sp h => cns_nil f sp h w S⟩, gl_none w S hg, fun _ _ h => by cases h⟩) follows Try.func11 (by kernel_rfl) (by kernel_rfl) (by kernel_rfl) ?_
  intro avs r h
  unfold s_ref30_Better at h
  split at h
  · simp only [Prod.mk.injEq] at h
    obtain ⟨hp, rfl⟩ := h
    obtain ⟨n, hn⟩ := ref30_Better_math _ _ hp
    exact ⟨n, _, (ref30_Better_ev n _ _ _ _).trans hn, .inl rfl⟩
  · cases h

/-! sheave/sheaveref30.Text -/

noncomputable def E_ref30_Text : EnvP := ⟨⟨tiOf tis, fnsOf [(9, s_ref30_Len), (23, s_ref29_Over)], cnsOf [], [], 22, (fun _ => none), (fun _ => none), some [6]⟩, fun _ => none, fun _ => none, fun _ => [], fun _ => none⟩
noncomputable def C_ref30_Text : Code := Try.f13.body.getD .skip
noncomputable def R_ref30_Text : Array ResultVar := Try.f13.results
theorem ref30_Text_ev (n : Nat) (charset0 : Int) (o0 : Lab) (code1 : Int) (o1 : Lab) (t2 : List Int) (o2 : Lab) : evFnP E_ref30_Text n C_ref30_Text R_ref30_Text [.dat (.int .i64) charset0 o0, .dat (.int .i64) code1 o1, .dat (.sl (.int .i32)) t2 o2] = ref30_Text_sh n charset0 code1 t2 := by
  kernel_rfl
theorem ref30_Text_sound : SoundG G Try.prog 13 s_ref30_Text := by
  refine sound_of_evP' G_stays (E := E_ref30_Text) (fn := Try.f13) (c := C_ref30_Text) (tyOk_of_table rfl tis_ok) (fun w S hg => ⟨⟨(fns_cons (ref30_Len_sound w S hg) (fns_cons (ref29_Over_sound w S hg) fns_nil)), fun f sp h => cns_nil f sp h w S⟩, gl_none w S hg, fun _ _ h => by cases h⟩) follows Try.func13 (by kernel_rfl) (by kernel_rfl) (by kernel_rfl) ?_
  intro avs r h
  unfold s_ref30_Text at h
  split at h
  · simp only [Prod.mk.injEq] at h
    obtain ⟨hp, rfl⟩ := h
    obtain ⟨n, hn⟩ := ref30_Text_math _ _ _ hp
    exact ⟨n, _, (ref30_Text_ev n _ _ _ _ _ _).trans hn, .inl rfl⟩
  · cases h

/-! sheave/sheaveref30.Fits -/

noncomputable def E_ref30_Fits : EnvP := ⟨⟨tiOf tis, fnsOf [(9, s_ref30_Len)], cnsOf [], [], 34, (fun _ => none), (fun _ => none), some [8]⟩, fun _ => none, fun _ => none, fun _ => [], fun _ => none⟩
noncomputable def C_ref30_Fits : Code := Try.f16.body.getD .skip
noncomputable def R_ref30_Fits : Array ResultVar := Try.f16.results
theorem ref30_Fits_ev (n : Nat) (charset0 : Int) (o0 : Lab) (code1 : Int) (o1 : Lab) (t2 : List Int) (o2 : Lab) (room3 : Int) (o3 : Lab) : evFnP E_ref30_Fits n C_ref30_Fits R_ref30_Fits [.dat (.int .i64) charset0 o0, .dat (.int .i64) code1 o1, .dat (.sl (.int .i32)) t2 o2, .dat (.int .i64) room3 o3] = ref30_Fits_sh n charset0 code1 t2 room3 := by
  kernel_rfl
theorem ref30_Fits_sound : SoundG G Try.prog 16 s_ref30_Fits := by
  refine sound_of_evP' G_stays (E := E_ref30_Fits) (fn := Try.f16) (c := C_ref30_Fits) (tyOk_of_table rfl tis_ok) (fun w S hg => ⟨⟨(fns_cons (ref30_Len_sound w S hg) fns_nil), fun f sp h => cns_nil f sp h w S⟩, gl_none w S hg, fun _ _ h => by cases h⟩) follows Try.func16 (by kernel_rfl) (by kernel_rfl) (by kernel_rfl) ?_
  intro avs r h
  unfold s_ref30_Fits at h
  split at h
  · simp only [Prod.mk.injEq] at h
    obtain ⟨hp, rfl⟩ := h
    obtain ⟨n, hn⟩ := ref30_Fits_math _ _ _ _ hp
    exact ⟨n, _, (ref30_Fits_ev n _ _ _ _ _ _ _ _).trans hn, .inl rfl⟩
  · cases h

/-! sheave/sheaveref30.Prefix -/

noncomputable def E_ref30_Prefix : EnvP := ⟨⟨tiOf tis, fnsOf [(16, s_ref30_Fits)], cnsOf [], [], 28, (fun x => if x = 2 then some [0, 1, 2, 3, 9] else none), (fun x => if x = 0 then some [2] else if x = 1 then some [0, 1, 2, 3, 9] else none), some [8]⟩, fun _ => none, fun _ => none, fun _ => [], fun _ => none⟩
noncomputable def C_ref30_Prefix : Code := Try.f18.body.getD .skip
noncomputable def R_ref30_Prefix : Array ResultVar := Try.f18.results
theorem ref30_Prefix_l2_ok (K : Ex → Fr → Option AV) : ∀ (n : Nat) (charset0 : Int) (code1 : Int) (t2 : List Int) (room3 : Int) (n9 : Int), evLP E_ref30_Prefix n (sub C_ref30_Prefix [1, 0, 1, 0, 0]) K (frOf [(0, (.dat (.int .i64) charset0 none)), (1, (.dat (.int .i64) code1 none)), (2, (.dat (.sl (.int .i32)) t2 none)), (3, (.dat (.int .i64) room3 none)), (9, (.dat (.int .i64) n9 none))]) = ref30_Prefix_l2 (fun s8 => K .ret (frOf [(8, (.dat (.int .i64) s8 none))])) (fun t2 => K (.exit 0) (frOf [(2, (.dat (.sl (.int .i32)) t2 none))])) n charset0 code1 t2 room3 n9 := by
  intro n
  induction n with
  | zero => intros; rfl
  | succ n IH =>
  intro charset0 code1 t2 room3 n9
  have ih : (fun charset0 code1 t2 room3 n9 => evLP E_ref30_Prefix n (sub C_ref30_Prefix [1, 0, 1, 0, 0]) K (frOf [(0, (.dat (.int .i64) charset0 none)), (1, (.dat (.int .i64) code1 none)), (2, (.dat (.sl (.int .i32)) t2 none)), (3, (.dat (.int .i64) room3 none)), (9, (.dat (.int .i64) n9 none))])) = ref30_Prefix_l2 (fun s8 => K .ret (frOf [(8, (.dat (.int .i64) s8 none))])) (fun t2 => K (.exit 0) (frOf [(2, (.dat (.sl (.int .i32)) t2 none))])) n := by
    funext charset0 code1 t2 room3 n9
    exact IH charset0 code1 t2 room3 n9
  show _ = ref30_Prefix_l2_b (fun s8 => K .ret (frOf [(8, (.dat (.int .i64) s8 none))])) (fun t2 => K (.exit 0) (frOf [(2, (.dat (.sl (.int .i32)) t2 none))])) (ref30_Prefix_l2 (fun s8 => K .ret (frOf [(8, (.dat (.int .i64) s8 none))])) (fun t2 => K (.exit 0) (frOf [(2, (.dat (.sl (.int .i32)) t2 none))])) n) n charset0 code1 t2 room3 n9
  rw [← ih]
  kernel_rfl
theorem ref30_Prefix_k2_0_ok (n : Nat) (t2 : List Int) : (kBlockP 0 (E_ref30_Prefix.cutb 0) (kSeq (evCP E_ref30_Prefix (evLP E_ref30_Prefix n) (sub C_ref30_Prefix [1, 1])) (kFnP E_ref30_Prefix R_ref30_Prefix))) (.exit 0) (frOf [(2, (.dat (.sl (.int .i32)) t2 none))]) = ref30_Prefix_k2_0 n t2 := by
  kernel_rfl
theorem ref30_Prefix_ev (n : Nat) (charset0 : Int) (o0 : Lab) (code1 : Int) (o1 : Lab) (t2 : List Int) (o2 : Lab) (room3 : Int) (o3 : Lab) : evFnP E_ref30_Prefix n C_ref30_Prefix R_ref30_Prefix [.dat (.int .i64) charset0 o0, .dat (.int .i64) code1 o1, .dat (.sl (.int .i32)) t2 o2, .dat (.int .i64) room3 o3] = ref30_Prefix_sh n charset0 code1 t2 room3 := by
  unfold ref30_Prefix_sh
  rw [show ref30_Prefix_l2 ref30_Prefix_ret (ref30_Prefix_k2_0 n) n = (fun charset0 code1 t2 room3 n9 => evLP E_ref30_Prefix n (sub C_ref30_Prefix [1, 0, 1, 0, 0]) (kBlockP 0 (E_ref30_Prefix.cutb 0) (kSeq (evCP E_ref30_Prefix (evLP E_ref30_Prefix n) (sub C_ref30_Prefix [1, 1])) (kFnP E_ref30_Prefix R_ref30_Prefix))) (frOf [(0, (.dat (.int .i64) charset0 none)), (1, (.dat (.int .i64) code1 none)), (2, (.dat (.sl (.int .i32)) t2 none)), (3, (.dat (.int .i64) room3 none)), (9, (.dat (.int .i64) n9 none))])) from by
    funext charset0 code1 t2 room3 n9
    refine Eq.trans ?_ (ref30_Prefix_l2_ok (kBlockP 0 (E_ref30_Prefix.cutb 0) (kSeq (evCP E_ref30_Prefix (evLP E_ref30_Prefix n) (sub C_ref30_Prefix [1, 1])) (kFnP E_ref30_Prefix R_ref30_Prefix))) n charset0 code1 t2 room3 n9).symm
    rw [show (fun t2 => (kBlockP 0 (E_ref30_Prefix.cutb 0) (kSeq (evCP E_ref30_Prefix (evLP E_ref30_Prefix n) (sub C_ref30_Prefix [1, 1])) (kFnP E_ref30_Prefix R_ref30_Prefix))) (.exit 0) (frOf [(2, (.dat (.sl (.int .i32)) t2 none))])) = (ref30_Prefix_k2_0 n) from by
      funext t2
      exact ref30_Prefix_k2_0_ok n t2]
    all_goals kernel_rfl]
  kernel_rfl
theorem ref30_Prefix_sound : SoundG G Try.prog 18 s_ref30_Prefix := by
  refine sound_of_evP' G_stays (E := E_ref30_Prefix) (fn := Try.f18) (c := C_ref30_Prefix) (tyOk_of_table rfl tis_ok) (fun w S hg => ⟨⟨(fns_cons (ref30_Fits_sound w S hg) fns_nil), fun f sp h => cns_nil f sp h w S⟩, gl_none w S hg, fun _ _ h => by cases h⟩) follows Try.func18 (by kernel_rfl) (by kernel_rfl) (by kernel_rfl) ?_
  intro avs r h
  unfold s_ref30_Prefix at h
  split at h
  · simp only [Prod.mk.injEq] at h
    obtain ⟨hp, rfl⟩ := h
    obtain ⟨n, hn⟩ := ref30_Prefix_math _ _ _ _ hp
    exact ⟨n, _, (ref30_Prefix_ev n _ _ _ _ _ _ _ _).trans hn, .inl rfl⟩
  · cases h

end Go.Av
