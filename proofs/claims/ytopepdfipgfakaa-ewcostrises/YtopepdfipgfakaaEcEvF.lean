import Derived.Test.YtopepdfipgfakaaEcEvE
import Derived.Test.YtopepdfipgfakaaEcN
import Derived.Test.YtopepdfipgfakaaProg
import Derived.KernelRfl
namespace Go.Av
open Go.Proofs
set_option maxRecDepth 100000
set_option linter.unusedVariables false
/-! sheave/ewcost.measure -/

noncomputable def E_ewcost_measure_v2 : EnvP := ⟨⟨tiOf tis, fnsOf [], cnsOf [], [], 18, (fun _ => none), (fun x => if x = 0 then some [] else none), some [4, 5]⟩, fun _ => none, fun _ => none, fun _ => [], fun _ => none⟩
noncomputable def C_ewcost_measure_v2 : Code := Try.f29.body.getD .skip
noncomputable def R_ewcost_measure_v2 : Array ResultVar := Try.f29.results
theorem ewcost_measure_v2_ev (n : Nat) (s1 : List UInt8) (o0 : Lab) : evFnP E_ewcost_measure_v2 n C_ewcost_measure_v2 R_ewcost_measure_v2 [.nilIface, .dat (.sl .byte) s1 o0] = ewcost_measure_v2_sh n s1 := by
  kernel_rfl

/-! sheave/ewcost.measure -/

theorem ewcost_measure_sound : SoundG G Try.prog 29 s_ewcost_measure := fun w S hg => by
  have h0 : SoundG G Try.prog 29 s_ewcost_measure_v0 := by
    refine sound_of_evP' G_stays (E := E_ewcost_measure_v0) (fn := Try.f29) (c := C_ewcost_measure_v0) (tyOk_of_table rfl tis_ok) (fun w S hg => ⟨⟨(fns_cons (bcode_Len_sound w S hg) fns_nil), fun f sp h => cns_nil f sp h w S⟩, gl_none w S hg, fun _ _ h => by cases h⟩) follows Try.func29 (by kernel_rfl) (by kernel_rfl) (by kernel_rfl) ?_
    intro avs r h
    unfold s_ewcost_measure_v0 at h
    split at h
    · simp only [Prod.mk.injEq, true_and] at h
      subst h
      obtain ⟨n, hn⟩ := ewcost_measure_v0_math _
      exact ⟨n, _, (ewcost_measure_v0_ev n _ _).trans hn, .inl rfl⟩
    · cases h
  have h1 : SoundG G Try.prog 29 s_ewcost_measure_v1 := by
    refine sound_of_evP' G_stays (E := E_ewcost_measure_v1) (fn := Try.f29) (c := C_ewcost_measure_v1) (tyOk_of_table rfl tis_ok) (fun w S hg => ⟨⟨(fns_cons (qword_Len_sound w S hg) fns_nil), fun f sp h => cns_nil f sp h w S⟩, gl_none w S hg, fun _ _ h => by cases h⟩) follows Try.func29 (by kernel_rfl) (by kernel_rfl) (by kernel_rfl) ?_
    intro avs r h
    unfold s_ewcost_measure_v1 at h
    split at h
    · simp only [Prod.mk.injEq] at h
      obtain ⟨hp, rfl⟩ := h
      obtain ⟨n, hn⟩ := ewcost_measure_v1_math _ hp
      exact ⟨n, _, (ewcost_measure_v1_ev n _ _).trans hn, .inl rfl⟩
    · cases h
  have h2 : SoundG G Try.prog 29 s_ewcost_measure_v2 := by
    refine sound_of_evP' G_stays (E := E_ewcost_measure_v2) (fn := Try.f29) (c := C_ewcost_measure_v2) (tyOk_of_table rfl tis_ok) (fun w S hg => ⟨⟨fns_nil, fun f sp h => cns_nil f sp h w S⟩, gl_none w S hg, fun _ _ h => by cases h⟩) follows Try.func29 (by kernel_rfl) (by kernel_rfl) (by kernel_rfl) ?_
    intro avs r h
    unfold s_ewcost_measure_v2 at h
    split at h
    · simp only [Prod.mk.injEq, true_and] at h
      subst h
      obtain ⟨n, hn⟩ := ewcost_measure_v2_math _
      exact ⟨n, _, (ewcost_measure_v2_ev n _ _).trans hn, .inl rfl⟩
    · cases h
  intro vals avs r h hS ha
  unfold s_ewcost_measure at h
  split at h
  · exact h0 w S hg vals _ r (by simp only [Prod.mk.injEq] at h; exact congrArg _ h.2) hS ha
  · exact h1 w S hg vals _ r (by exact h) hS ha
  · exact h2 w S hg vals _ r (by exact h) hS ha
  · cases h

/-! sheave/label.Names -/

noncomputable def E_label_Names : EnvP := ⟨⟨tiOf tis, fnsOf [], cnsOf [], [], 19, (fun _ => none), (fun x => if x = 0 then some [] else none), some [2]⟩, fun _ => none, fun _ => none, fun _ => [], fun _ => none⟩
noncomputable def C_label_Names : Code := Try.f70.body.getD .skip
noncomputable def R_label_Names : Array ResultVar := Try.f70.results
theorem label_Names_ev (n : Nat) (charset0 : Int) (o0 : Lab) : evFnP E_label_Names n C_label_Names R_label_Names [.dat (.int .i64) charset0 o0] = label_Names_sh n charset0 := by
  kernel_rfl
theorem label_Names_sound : SoundG G Try.prog 70 s_label_Names := by
  refine sound_of_evP' G_stays (E := E_label_Names) (fn := Try.f70) (c := C_label_Names) (tyOk_of_table rfl tis_ok) (fun w S hg => ⟨⟨fns_nil, fun f sp h => cns_nil f sp h w S⟩, gl_none w S hg, fun _ _ h => by cases h⟩) follows Try.func70 (by kernel_rfl) (by kernel_rfl) (by kernel_rfl) ?_
  intro avs r h
  unfold s_label_Names at h
  split at h
  · simp only [Prod.mk.injEq, true_and] at h
    subst h
    obtain ⟨n, hn⟩ := label_Names_math _
    exact ⟨n, _, (label_Names_ev n _ _).trans hn, .inl rfl⟩
  · cases h

/-! sheave/label.Name -/

noncomputable def E_label_Name : EnvP := ⟨⟨tiOf tis, fnsOf [(70, s_label_Names)], cnsOf [], [], 12, (fun _ => none), (fun _ => none), some [2]⟩, fun _ => none, fun _ => none, fun _ => [], fun _ => none⟩
noncomputable def C_label_Name : Code := Try.f51.body.getD .skip
noncomputable def R_label_Name : Array ResultVar := Try.f51.results
theorem label_Name_ev (n : Nat) (charset0 : Int) (o0 : Lab) : evFnP E_label_Name n C_label_Name R_label_Name [.dat (.int .i64) charset0 o0] = label_Name_sh n charset0 := by
  kernel_rfl
theorem label_Name_sound : SoundG G Try.prog 51 s_label_Name := by
  refine sound_of_evP' G_stays (E := E_label_Name) (fn := Try.f51) (c := C_label_Name) (tyOk_of_table rfl tis_ok) (fun w S hg => ⟨⟨(fns_cons (label_Names_sound w S hg) fns_nil), fun f sp h => cns_nil f sp h w S⟩, gl_none w S hg, fun _ _ h => by cases h⟩) follows Try.func51 (by kernel_rfl) (by kernel_rfl) (by kernel_rfl) ?_
  intro avs r h
  unfold s_label_Name at h
  split at h
  · simp only [Prod.mk.injEq, true_and] at h
    subst h
    obtain ⟨n, hn⟩ := label_Name_math _
    exact ⟨n, _, (label_Name_ev n _ _).trans hn, .inl rfl⟩
  · cases h

/-! sheave/label.IsCharset -/

noncomputable def E_label_IsCharset : EnvP := ⟨⟨tiOf tis, fnsOf [], cnsOf [], [], 9, (fun _ => none), (fun _ => none), some [2]⟩, fun _ => none, fun _ => none, fun _ => [], fun _ => none⟩
noncomputable def C_label_IsCharset : Code := Try.f31.body.getD .skip
noncomputable def R_label_IsCharset : Array ResultVar := Try.f31.results
theorem label_IsCharset_ev (n : Nat) (n0 : Int) (o0 : Lab) : evFnP E_label_IsCharset n C_label_IsCharset R_label_IsCharset [.dat (.int .i64) n0 o0] = label_IsCharset_sh n n0 := by
  kernel_rfl
theorem label_IsCharset_sound : SoundG G Try.prog 31 s_label_IsCharset := by
  refine sound_of_evP' G_stays (E := E_label_IsCharset) (fn := Try.f31) (c := C_label_IsCharset) (tyOk_of_table rfl tis_ok) (fun w S hg => ⟨⟨fns_nil, fun f sp h => cns_nil f sp h w S⟩, gl_none w S hg, fun _ _ h => by cases h⟩) follows Try.func31 (by kernel_rfl) (by kernel_rfl) (by kernel_rfl) ?_
  intro avs r h
  unfold s_label_IsCharset at h
  split at h
  · simp only [Prod.mk.injEq, true_and] at h
    subst h
    obtain ⟨n, hn⟩ := label_IsCharset_math _
    exact ⟨n, _, (label_IsCharset_ev n _ _).trans hn, .inl rfl⟩
  · cases h

/-! sheave/ewform.letter -/

noncomputable def E_ewform_letter : EnvP := ⟨⟨tiOf tis, fnsOf [], cnsOf [], [], 8, (fun _ => none), (fun x => if x = 0 then some [] else none), some [2]⟩, fun _ => none, fun _ => none, fun _ => [], fun _ => none⟩
noncomputable def C_ewform_letter : Code := Try.f52.body.getD .skip
noncomputable def R_ewform_letter : Array ResultVar := Try.f52.results
theorem ewform_letter_ev (n : Nat) (n0 : Int) (o0 : Lab) : evFnP E_ewform_letter n C_ewform_letter R_ewform_letter [.dat (.int .i64) n0 o0] = ewform_letter_sh n n0 := by
  kernel_rfl
theorem ewform_letter_sound : SoundG G Try.prog 52 s_ewform_letter := by
  refine sound_of_evP' G_stays (E := E_ewform_letter) (fn := Try.f52) (c := C_ewform_letter) (tyOk_of_table rfl tis_ok) (fun w S hg => ⟨⟨fns_nil, fun f sp h => cns_nil f sp h w S⟩, gl_none w S hg, fun _ _ h => by cases h⟩) follows Try.func52 (by kernel_rfl) (by kernel_rfl) (by kernel_rfl) ?_
  intro avs r h
  unfold s_ewform_letter at h
  split at h
  · simp only [Prod.mk.injEq, true_and] at h
    subst h
    obtain ⟨n, hn⟩ := ewform_letter_math _
    exact ⟨n, _, (ewform_letter_ev n _ _).trans hn, .inl rfl⟩
  · cases h

/-! sheave/ewform.frame -/

noncomputable def E_ewform_frame : EnvP := ⟨⟨tiOf tis, fnsOf [(51, s_label_Name), (52, s_ewform_letter)], cnsOf [], [], 13, (fun _ => none), (fun _ => none), some [4]⟩, fun _ => none, fun _ => none, fun _ => [], fun _ => none⟩
noncomputable def C_ewform_frame : Code := Try.f32.body.getD .skip
noncomputable def R_ewform_frame : Array ResultVar := Try.f32.results
theorem ewform_frame_ev (n : Nat) (charset0 : Int) (o0 : Lab) (code1 : Int) (o1 : Lab) : evFnP E_ewform_frame n C_ewform_frame R_ewform_frame [.dat (.int .i64) charset0 o0, .dat (.int .i64) code1 o1] = ewform_frame_sh n charset0 code1 := by
  kernel_rfl
theorem ewform_frame_sound : SoundG G Try.prog 32 s_ewform_frame := by
  refine sound_of_evP' G_stays (E := E_ewform_frame) (fn := Try.f32) (c := C_ewform_frame) (tyOk_of_table rfl tis_ok) (fun w S hg => ⟨⟨(fns_cons (label_Name_sound w S hg) (fns_cons (ewform_letter_sound w S hg) fns_nil)), fun f sp h => cns_nil f sp h w S⟩, gl_none w S hg, fun _ _ h => by cases h⟩) follows Try.func32 (by kernel_rfl) (by kernel_rfl) (by kernel_rfl) ?_
  intro avs r h
  unfold s_ewform_frame at h
  split at h
  · simp only [Prod.mk.injEq, true_and] at h
    subst h
    obtain ⟨n, hn⟩ := ewform_frame_math _ _
    exact ⟨n, _, (ewform_frame_ev n _ _ _ _).trans hn, .inl rfl⟩
  · cases h

/-! sheave/ewform.Over -/

noncomputable def E_ewform_Over : EnvP := ⟨⟨tiOf tis, fnsOf [(31, s_label_IsCharset), (32, s_ewform_frame)], cnsOf [], [], 11, (fun _ => none), (fun _ => none), some [2]⟩, fun _ => none, fun _ => none, fun _ => [], fun _ => none⟩
noncomputable def C_ewform_Over : Code := Try.f22.body.getD .skip
noncomputable def R_ewform_Over : Array ResultVar := Try.f22.results
theorem ewform_Over_ev (n : Nat) (charset0 : Int) (o0 : Lab) : evFnP E_ewform_Over n C_ewform_Over R_ewform_Over [.dat (.int .i64) charset0 o0] = ewform_Over_sh n charset0 := by
  kernel_rfl
theorem ewform_Over_sound : SoundG G Try.prog 22 s_ewform_Over := by
  refine sound_of_evP' G_stays (E := E_ewform_Over) (fn := Try.f22) (c := C_ewform_Over) (tyOk_of_table rfl tis_ok) (fun w S hg => ⟨⟨(fns_cons (label_IsCharset_sound w S hg) (fns_cons (ewform_frame_sound w S hg) fns_nil)), fun f sp h => cns_nil f sp h w S⟩, gl_none w S hg, fun _ _ h => by cases h⟩) follows Try.func22 (by kernel_rfl) (by kernel_rfl) (by kernel_rfl) ?_
  intro avs r h
  unfold s_ewform_Over at h
  split at h
  · simp only [Prod.mk.injEq, true_and] at h
    subst h
    obtain ⟨n, hn⟩ := ewform_Over_math _
    exact ⟨n, _, (ewform_Over_ev n _ _).trans hn, .inl rfl⟩
  · cases h

/-! sheave/ewcost.text -/

noncomputable def E_ewcost_text : EnvP := ⟨⟨tiOf tis, fnsOf [(28, s_codec_Lay), (29, s_ewcost_measure), (30, s_ewcost_of)], cnsOf [], [], 36, (fun _ => none), (fun x => if x = 0 then some [10] else none), some [6, 7]⟩, fun _ => none, fun _ => none, fun _ => [], fun _ => none⟩
noncomputable def C_ewcost_text : Code := Try.f21.body.getD .skip
noncomputable def R_ewcost_text : Array ResultVar := Try.f21.results
theorem ewcost_text_ev (n : Nat) (charset0 : Int) (o0 : Lab) (code1 : Int) (o1 : Lab) (t2 : List Int) (o2 : Lab) : evFnP E_ewcost_text n C_ewcost_text R_ewcost_text [.dat (.int .i64) charset0 o0, .dat (.int .i64) code1 o1, .dat (.sl (.int .i32)) t2 o2] = ewcost_text_sh n charset0 code1 t2 := by
  kernel_rfl
theorem ewcost_text_sound : SoundG G Try.prog 21 s_ewcost_text := by
  refine sound_of_evP' G_stays (E := E_ewcost_text) (fn := Try.f21) (c := C_ewcost_text) (tyOk_of_table rfl tis_ok) (fun w S hg => ⟨⟨(fns_cons (codec_Lay_sound w S hg) (fns_cons (ewcost_measure_sound w S hg) (fns_cons (ewcost_of_sound w S hg) fns_nil))), fun f sp h => cns_nil f sp h w S⟩, gl_none w S hg, fun _ _ h => by cases h⟩) follows Try.func21 (by kernel_rfl) (by kernel_rfl) (by kernel_rfl) ?_
  intro avs r h
  unfold s_ewcost_text at h
  split at h
  · simp only [Prod.mk.injEq] at h
    obtain ⟨hp, rfl⟩ := h
    obtain ⟨n, hn⟩ := ewcost_text_math _ _ _ hp
    exact ⟨n, _, (ewcost_text_ev n _ _ _ _ _ _).trans hn, .inl rfl⟩
  · cases h

/-! sheave/ewcost.Len -/

noncomputable def E_ewcost_Len : EnvP := ⟨⟨tiOf tis, fnsOf [(21, s_ewcost_text), (22, s_ewform_Over)], cnsOf [], [], 24, (fun _ => none), (fun _ => none), some [6, 7]⟩, fun _ => none, fun _ => none, fun _ => [], fun _ => none⟩
noncomputable def C_ewcost_Len : Code := Try.f8.body.getD .skip
noncomputable def R_ewcost_Len : Array ResultVar := Try.f8.results
theorem ewcost_Len_ev (n : Nat) (charset0 : Int) (o0 : Lab) (code1 : Int) (o1 : Lab) (t2 : List Int) (o2 : Lab) : evFnP E_ewcost_Len n C_ewcost_Len R_ewcost_Len [.dat (.int .i64) charset0 o0, .dat (.int .i64) code1 o1, .dat (.sl (.int .i32)) t2 o2] = ewcost_Len_sh n charset0 code1 t2 := by
  kernel_rfl
theorem ewcost_Len_sound : SoundG G Try.prog 8 s_ewcost_Len := by
  refine sound_of_evP' G_stays (E := E_ewcost_Len) (fn := Try.f8) (c := C_ewcost_Len) (tyOk_of_table rfl tis_ok) (fun w S hg => ⟨⟨(fns_cons (ewcost_text_sound w S hg) (fns_cons (ewform_Over_sound w S hg) fns_nil)), fun f sp h => cns_nil f sp h w S⟩, gl_none w S hg, fun _ _ h => by cases h⟩) follows Try.func8 (by kernel_rfl) (by kernel_rfl) (by kernel_rfl) ?_
  intro avs r h
  unfold s_ewcost_Len at h
  split at h
  · simp only [Prod.mk.injEq] at h
    obtain ⟨hp, rfl⟩ := h
    obtain ⟨n, hn⟩ := ewcost_Len_math _ _ _ hp
    exact ⟨n, _, (ewcost_Len_ev n _ _ _ _ _ _).trans hn, .inl rfl⟩
  · cases h

/-! sheave/ewcost.Text -/

noncomputable def E_ewcost_Text : EnvP := ⟨⟨tiOf tis, fnsOf [(21, s_ewcost_text)], cnsOf [], [], 17, (fun _ => none), (fun _ => none), some [6]⟩, fun _ => none, fun _ => none, fun _ => [], fun _ => none⟩
noncomputable def C_ewcost_Text : Code := Try.f12.body.getD .skip
noncomputable def R_ewcost_Text : Array ResultVar := Try.f12.results
theorem ewcost_Text_ev (n : Nat) (charset0 : Int) (o0 : Lab) (code1 : Int) (o1 : Lab) (t2 : List Int) (o2 : Lab) : evFnP E_ewcost_Text n C_ewcost_Text R_ewcost_Text [.dat (.int .i64) charset0 o0, .dat (.int .i64) code1 o1, .dat (.sl (.int .i32)) t2 o2] = ewcost_Text_sh n charset0 code1 t2 := by
  kernel_rfl
theorem ewcost_Text_sound : SoundG G Try.prog 12 s_ewcost_Text := by
  refine sound_of_evP' G_stays (E := E_ewcost_Text) (fn := Try.f12) (c := C_ewcost_Text) (tyOk_of_table rfl tis_ok) (fun w S hg => ⟨⟨(fns_cons (ewcost_text_sound w S hg) fns_nil), fun f sp h => cns_nil f sp h w S⟩, gl_none w S hg, fun _ _ h => by cases h⟩) follows Try.func12 (by kernel_rfl) (by kernel_rfl) (by kernel_rfl) ?_
  intro avs r h
  unfold s_ewcost_Text at h
  split at h
  · simp only [Prod.mk.injEq] at h
    obtain ⟨hp, rfl⟩ := h
    obtain ⟨n, hn⟩ := ewcost_Text_math _ _ _ hp
    exact ⟨n, _, (ewcost_Text_ev n _ _ _ _ _ _).trans hn, .inl rfl⟩
  · cases h

/-! sheave/ewcost.Saved -/

noncomputable def E_ewcost_Saved : EnvP := ⟨⟨tiOf tis, fnsOf [(12, s_ewcost_Text)], cnsOf [], [], 12, (fun _ => none), (fun _ => none), some [4]⟩, fun _ => none, fun _ => none, fun _ => [], fun _ => none⟩
noncomputable def C_ewcost_Saved : Code := Try.f14.body.getD .skip
noncomputable def R_ewcost_Saved : Array ResultVar := Try.f14.results
theorem ewcost_Saved_ev (n : Nat) (charset0 : Int) (o0 : Lab) (t1 : List Int) (o1 : Lab) : evFnP E_ewcost_Saved n C_ewcost_Saved R_ewcost_Saved [.dat (.int .i64) charset0 o0, .dat (.sl (.int .i32)) t1 o1] = ewcost_Saved_sh n charset0 t1 := by
  kernel_rfl
theorem ewcost_Saved_sound : SoundG G Try.prog 14 s_ewcost_Saved := by
  refine sound_of_evP' G_stays (E := E_ewcost_Saved) (fn := Try.f14) (c := C_ewcost_Saved) (tyOk_of_table rfl tis_ok) (fun w S hg => ⟨⟨(fns_cons (ewcost_Text_sound w S hg) fns_nil), fun f sp h => cns_nil f sp h w S⟩, gl_none w S hg, fun _ _ h => by cases h⟩) follows Try.func14 (by kernel_rfl) (by kernel_rfl) (by kernel_rfl) ?_
  intro avs r h
  unfold s_ewcost_Saved at h
  split at h
  · simp only [Prod.mk.injEq] at h
    obtain ⟨hp, rfl⟩ := h
    obtain ⟨n, hn⟩ := ewcost_Saved_math _ _ hp
    exact ⟨n, _, (ewcost_Saved_ev n _ _ _ _).trans hn, .inl rfl⟩
  · cases h

/-! sheave/ewcost.Better -/

noncomputable def E_ewcost_Better : EnvP := ⟨⟨tiOf tis, fnsOf [(14, s_ewcost_Saved), (21, s_ewcost_text)], cnsOf [], [], 21, (fun _ => none), (fun _ => none), some [4, 5]⟩, fun _ => none, fun _ => none, fun _ => [], fun _ => none⟩
noncomputable def C_ewcost_Better : Code := Try.f10.body.getD .skip
noncomputable def R_ewcost_Better : Array ResultVar := Try.f10.results
theorem ewcost_Better_ev (n : Nat) (charset0 : Int) (o0 : Lab) (t1 : List Int) (o1 : Lab) : evFnP E_ewcost_Better n C_ewcost_Better R_ewcost_Better [.dat (.int .i64) charset0 o0, .dat (.sl (.int .i32)) t1 o1] = ewcost_Better_sh n charset0 t1 := by
  kernel_rfl
theorem ewcost_Better_sound : SoundG G Try.prog 10 s_ewcost_Better := by
  refine sound_of_evP' G_stays (E := E_ewcost_Better) (fn := Try.f10) (c := C_ewcost_Better) (tyOk_of_table rfl tis_ok) (fun w S hg => ⟨⟨(fns_cons (ewcost_Saved_sound w S hg) (fns_cons (ewcost_text_sound w S hg) fns_nil)), fun f sp h => cns_nil f sp h w S⟩, gl_none w S hg, fun _ _ h => by cases h⟩) follows Try.func10 (by kernel_rfl) (by kernel_rfl) (by kernel_rfl) ?_
  intro avs r h
  unfold s_ewcost_Better at h
  split at h
  · simp only [Prod.mk.injEq] at h
    obtain ⟨hp, rfl⟩ := h
    obtain ⟨n, hn⟩ := ewcost_Better_math _ _ hp
    exact ⟨n, _, (ewcost_Better_ev n _ _ _ _).trans hn, .inl rfl⟩
  · cases h

end Go.Av
