import Derived.Test.YtejhjmmdachijaaDoorQpEvC
import Derived.Test.YtejhjmmdachijaaDoorQpN
import Derived.Test.YtejhjmmdachijaaDoorProg
import Derived.KernelRfl
namespace Go.Av
open Go.Proofs
set_option maxRecDepth 100000
set_option linter.unusedVariables false
/-! sheave/qpage.Check -/

noncomputable def E_qpage_Check : EnvP := ⟨⟨tiOf tis, fnsOf [(33, s_bytes_Cut), (34, s_qpage_right)], cnsOf [], [], 29, (fun x => if x = 1 then some [0] else none), (fun x => if x = 0 then some [] else if x = 1 then some [0] else if x = 2 then some [4] else none), some [2]⟩, fun _ => none, fun _ => none, fun _ => [], fun _ => none⟩
noncomputable def C_qpage_Check : Code := Tryd.f12.body.getD .skip
noncomputable def R_qpage_Check : Array ResultVar := Tryd.f12.results
theorem qpage_Check_l1_ok (K : Ex → Fr → Option AV) : ∀ (n : Nat) (s0 : List UInt8), evLP E_qpage_Check n (sub C_qpage_Check [1, 0, 0, 0]) K (frOf [(0, (.dat (.sl .byte) s0 none))]) = qpage_Check_l1 (fun s2 => K .ret (frOf [(2, (.dat (.int .i64) s2 none))])) (K (.exit 0) (frOf [])) n s0 := by
  intro n
  induction n with
  | zero => intros; rfl
  | succ n IH =>
  intro s0
  have ih : (fun s0 => evLP E_qpage_Check n (sub C_qpage_Check [1, 0, 0, 0]) K (frOf [(0, (.dat (.sl .byte) s0 none))])) = qpage_Check_l1 (fun s2 => K .ret (frOf [(2, (.dat (.int .i64) s2 none))])) (K (.exit 0) (frOf [])) n := by
    funext s0
    exact IH s0
  show _ = qpage_Check_l1_b (fun s2 => K .ret (frOf [(2, (.dat (.int .i64) s2 none))])) (K (.exit 0) (frOf [])) (qpage_Check_l1 (fun s2 => K .ret (frOf [(2, (.dat (.int .i64) s2 none))])) (K (.exit 0) (frOf [])) n) n s0
  rw [← ih]
  kernel_rfl
theorem qpage_Check_k1_0_ok (n : Nat)  : (kBlockP 0 (E_qpage_Check.cutb 0) (kSeq (evCP E_qpage_Check (evLP E_qpage_Check n) (sub C_qpage_Check [1, 1])) (kFnP E_qpage_Check R_qpage_Check))) (.exit 0) (frOf []) = qpage_Check_k1_0 n  := by
  kernel_rfl
theorem qpage_Check_ev (n : Nat) (s0 : List UInt8) (o0 : Lab) : evFnP E_qpage_Check n C_qpage_Check R_qpage_Check [.dat (.sl .byte) s0 o0] = qpage_Check_sh n s0 := by
  unfold qpage_Check_sh
  rw [show qpage_Check_l1 qpage_Check_ret (qpage_Check_k1_0 n) n = (fun s0 => evLP E_qpage_Check n (sub C_qpage_Check [1, 0, 0, 0]) (kBlockP 0 (E_qpage_Check.cutb 0) (kSeq (evCP E_qpage_Check (evLP E_qpage_Check n) (sub C_qpage_Check [1, 1])) (kFnP E_qpage_Check R_qpage_Check))) (frOf [(0, (.dat (.sl .byte) s0 none))])) from by
    funext s0
    refine Eq.trans ?_ (qpage_Check_l1_ok (kBlockP 0 (E_qpage_Check.cutb 0) (kSeq (evCP E_qpage_Check (evLP E_qpage_Check n) (sub C_qpage_Check [1, 1])) (kFnP E_qpage_Check R_qpage_Check))) n s0).symm
    rw [show ((kBlockP 0 (E_qpage_Check.cutb 0) (kSeq (evCP E_qpage_Check (evLP E_qpage_Check n) (sub C_qpage_Check [1, 1])) (kFnP E_qpage_Check R_qpage_Check))) (.exit 0) (frOf [])) = (qpage_Check_k1_0 n) from by
      exact qpage_Check_k1_0_ok n ]
    all_goals kernel_rfl]
  kernel_rfl
theorem qpage_Check_sound : SoundG G Tryd.prog 12 s_qpage_Check := by
  refine sound_of_evP' G_stays (E := E_qpage_Check) (fn := Tryd.f12) (c := C_qpage_Check) (tyOk_of_table rfl tis_ok) (fun w S hg => ⟨⟨(fns_cons (bytes_Cut_sound w S hg) (fns_cons (qpage_right_sound w S hg) fns_nil)), fun f sp h => cns_nil f sp h w S⟩, gl_none w S hg, fun _ _ h => by cases h⟩) follows Tryd.func12 (by kernel_rfl) (by kernel_rfl) (by kernel_rfl) ?_
  intro avs r h
  unfold s_qpage_Check at h
  split at h
  · simp only [Prod.mk.injEq] at h
    obtain ⟨hp, rfl⟩ := h
    obtain ⟨n, hn⟩ := qpage_Check_math _ hp
    exact ⟨n, _, (qpage_Check_ev n _ _).trans hn, .inl rfl⟩
  · cases h

/-! bytes.Count -/

noncomputable def E_bytes_Count : EnvP := ⟨⟨tiOf tis, fnsOf [(49, s_bytes_Index), (52, s_unicode_utf8_RuneCount), (53, s_internal_bytealg_Count)], cnsOf [], [], 35, (fun x => if x = 6 then some [0, 1, 5] else none), (fun x => if x = 0 then some [4] else if x = 1 then some [0, 1, 5] else none), some [4]⟩, fun _ => none, fun _ => none, fun _ => [], fun _ => none⟩
noncomputable def C_bytes_Count : Code := Tryd.f37.body.getD .skip
noncomputable def R_bytes_Count : Array ResultVar := Tryd.f37.results
theorem bytes_Count_l6_ok (K : Ex → Fr → Option AV) : ∀ (n : Nat) (s0 : List UInt8) (sep1 : List UInt8) (n5 : Int), evLP E_bytes_Count n (sub C_bytes_Count [1, 1, 1, 1, 0, 0]) K (frOf [(0, (.dat (.sl .byte) s0 none)), (1, (.dat (.sl .byte) sep1 none)), (5, (.dat (.int .i64) n5 none))]) = bytes_Count_l6 (fun s4 => K .ret (frOf [(4, (.dat (.int .i64) s4 none))])) n s0 sep1 n5 := by
  intro n
  induction n with
  | zero => intros; rfl
  | succ n IH =>
  intro s0 sep1 n5
  have ih : (fun s0 sep1 n5 => evLP E_bytes_Count n (sub C_bytes_Count [1, 1, 1, 1, 0, 0]) K (frOf [(0, (.dat (.sl .byte) s0 none)), (1, (.dat (.sl .byte) sep1 none)), (5, (.dat (.int .i64) n5 none))])) = bytes_Count_l6 (fun s4 => K .ret (frOf [(4, (.dat (.int .i64) s4 none))])) n := by
    funext s0 sep1 n5
    exact IH s0 sep1 n5
  show _ = bytes_Count_l6_b (fun s4 => K .ret (frOf [(4, (.dat (.int .i64) s4 none))])) (bytes_Count_l6 (fun s4 => K .ret (frOf [(4, (.dat (.int .i64) s4 none))])) n) n s0 sep1 n5
  rw [← ih]
  kernel_rfl
theorem bytes_Count_ev (n : Nat) (s0 : List UInt8) (o0 : Lab) (sep1 : List UInt8) (o1 : Lab) : evFnP E_bytes_Count n C_bytes_Count R_bytes_Count [.dat (.sl .byte) s0 o0, .dat (.sl .byte) sep1 o1] = bytes_Count_sh n s0 sep1 := by
  unfold bytes_Count_sh
  rw [show bytes_Count_l6 bytes_Count_ret n = (fun s0 sep1 n5 => evLP E_bytes_Count n (sub C_bytes_Count [1, 1, 1, 1, 0, 0]) (kBlockP 0 (E_bytes_Count.cutb 0) (kFnP E_bytes_Count R_bytes_Count)) (frOf [(0, (.dat (.sl .byte) s0 none)), (1, (.dat (.sl .byte) sep1 none)), (5, (.dat (.int .i64) n5 none))])) from by
    funext s0 sep1 n5
    refine Eq.trans ?_ (bytes_Count_l6_ok (kBlockP 0 (E_bytes_Count.cutb 0) (kFnP E_bytes_Count R_bytes_Count)) n s0 sep1 n5).symm
    all_goals kernel_rfl]
  kernel_rfl
theorem bytes_Count_sound : SoundG G Tryd.prog 37 s_bytes_Count := by
  refine sound_of_evP' G_stays (E := E_bytes_Count) (fn := Tryd.f37) (c := C_bytes_Count) (tyOk_of_table rfl tis_ok) (fun w S hg => ⟨⟨(fns_cons (bytes_Index_sound w S hg) (fns_cons (unicode_utf8_RuneCount_sound w S hg) (fns_cons (internal_bytealg_Count_sound w S hg) fns_nil))), fun f sp h => cns_nil f sp h w S⟩, gl_none w S hg, fun _ _ h => by cases h⟩) follows Tryd.func37 (by kernel_rfl) (by kernel_rfl) (by kernel_rfl) ?_
  intro avs r h
  unfold s_bytes_Count at h
  split at h
  · simp only [Prod.mk.injEq] at h
    obtain ⟨hp, rfl⟩ := h
    obtain ⟨n, hn⟩ := bytes_Count_math _ _ hp
    exact ⟨n, _, (bytes_Count_ev n _ _ _ _).trans hn, .inl rfl⟩
  · cases h

/-! sheave/qpage.Soft -/

noncomputable def E_qpage_Soft : EnvP := ⟨⟨tiOf tis, fnsOf [(37, s_bytes_Count)], cnsOf [], [], 7, (fun _ => none), (fun _ => none), some [2]⟩, fun _ => none, fun _ => none, fun _ => [], fun _ => none⟩
noncomputable def C_qpage_Soft : Code := Tryd.f14.body.getD .skip
noncomputable def R_qpage_Soft : Array ResultVar := Tryd.f14.results
theorem qpage_Soft_ev (n : Nat) (s0 : List UInt8) (o0 : Lab) : evFnP E_qpage_Soft n C_qpage_Soft R_qpage_Soft [.dat (.sl .byte) s0 o0] = qpage_Soft_sh n s0 := by
  kernel_rfl
theorem qpage_Soft_sound : SoundG G Tryd.prog 14 s_qpage_Soft := by
  refine sound_of_evP' G_stays (E := E_qpage_Soft) (fn := Tryd.f14) (c := C_qpage_Soft) (tyOk_of_table rfl tis_ok) (fun w S hg => ⟨⟨(fns_cons (bytes_Count_sound w S hg) fns_nil), fun f sp h => cns_nil f sp h w S⟩, gl_none w S hg, fun _ _ h => by cases h⟩) follows Tryd.func14 (by kernel_rfl) (by kernel_rfl) (by kernel_rfl) ?_
  intro avs r h
  unfold s_qpage_Soft at h
  split at h
  · simp only [Prod.mk.injEq] at h
    obtain ⟨hp, rfl⟩ := h
    obtain ⟨n, hn⟩ := qpage_Soft_math _ hp
    exact ⟨n, _, (qpage_Soft_ev n _ _).trans hn, .inl rfl⟩
  · cases h

/-! sheave/hexa.Digit -/

noncomputable def E_hexa_Digit : EnvP := ⟨⟨tiOf tis, fnsOf [], cnsOf [], [], 6, (fun _ => none), (fun _ => none), some [2]⟩, fun _ => none, fun _ => none, fun _ => [], fun _ => none⟩
noncomputable def C_hexa_Digit : Code := Tryd.f75.body.getD .skip
noncomputable def R_hexa_Digit : Array ResultVar := Tryd.f75.results
theorem hexa_Digit_ev (n : Nat) (n0 : Int) (o0 : Lab) : evFnP E_hexa_Digit n C_hexa_Digit R_hexa_Digit [.dat (.int .i64) n0 o0] = hexa_Digit_sh n n0 := by
  kernel_rfl
theorem hexa_Digit_sound : SoundG G Tryd.prog 75 s_hexa_Digit := by
  refine sound_of_evP' G_stays (E := E_hexa_Digit) (fn := Tryd.f75) (c := C_hexa_Digit) (tyOk_of_table rfl tis_ok) (fun w S hg => ⟨⟨fns_nil, fun f sp h => cns_nil f sp h w S⟩, gl_none w S hg, fun _ _ h => by cases h⟩) follows Tryd.func75 (by kernel_rfl) (by kernel_rfl) (by kernel_rfl) ?_
  intro avs r h
  unfold s_hexa_Digit at h
  split at h
  · simp only [Prod.mk.injEq] at h
    obtain ⟨hp, rfl⟩ := h
    obtain ⟨n, hn⟩ := hexa_Digit_math _ hp
    exact ⟨n, _, (hexa_Digit_ev n _ _).trans hn, .inl rfl⟩
  · cases h

/-! sheave/hexa.both -/

noncomputable def E_hexa_both : EnvP := ⟨⟨tiOf tis, fnsOf [(75, s_hexa_Digit)], cnsOf [], [], 11, (fun _ => none), (fun _ => none), some [2]⟩, fun _ => none, fun _ => none, fun _ => [], fun _ => none⟩
noncomputable def C_hexa_both : Code := Tryd.f56.body.getD .skip
noncomputable def R_hexa_both : Array ResultVar := Tryd.f56.results
theorem hexa_both_ev (n : Nat) (c0 : UInt8) (o0 : Lab) : evFnP E_hexa_both n C_hexa_both R_hexa_both [.dat .byte c0 o0] = hexa_both_sh n c0 := by
  kernel_rfl
theorem hexa_both_sound : SoundG G Tryd.prog 56 s_hexa_both := by
  refine sound_of_evP' G_stays (E := E_hexa_both) (fn := Tryd.f56) (c := C_hexa_both) (tyOk_of_table rfl tis_ok) (fun w S hg => ⟨⟨(fns_cons (hexa_Digit_sound w S hg) fns_nil), fun f sp h => cns_nil f sp h w S⟩, gl_none w S hg, fun _ _ h => by cases h⟩) follows Tryd.func56 (by kernel_rfl) (by kernel_rfl) (by kernel_rfl) ?_
  intro avs r h
  unfold s_hexa_both at h
  split at h
  · simp only [Prod.mk.injEq, true_and] at h
    subst h
    obtain ⟨n, hn⟩ := hexa_both_math _
    exact ⟨n, _, (hexa_both_ev n _ _).trans hn, .inl rfl⟩
  · cases h

/-! sheave/hexa.Put -/

noncomputable def E_hexa_Put : EnvP := ⟨⟨tiOf tis, fnsOf [(55, s_bytes_Clone), (56, s_hexa_both)], cnsOf [], [], 15, (fun _ => none), (fun _ => none), some [6]⟩, fun _ => none, fun _ => none, fun _ => [], fun _ => none⟩
noncomputable def C_hexa_Put : Code := Tryd.f42.body.getD .skip
noncomputable def R_hexa_Put : Array ResultVar := Tryd.f42.results
theorem hexa_Put_ev (n : Nat) (b0 : List UInt8) (o0 : Lab) (sign1 : UInt8) (o1 : Lab) (c2 : UInt8) (o2 : Lab) : evFnP E_hexa_Put n C_hexa_Put R_hexa_Put [.dat (.sl .byte) b0 o0, .dat .byte sign1 o1, .dat .byte c2 o2] = hexa_Put_sh n b0 sign1 c2 := by
  kernel_rfl
theorem hexa_Put_sound : SoundG G Tryd.prog 42 s_hexa_Put := by
  refine sound_of_evP' G_stays (E := E_hexa_Put) (fn := Tryd.f42) (c := C_hexa_Put) (tyOk_of_table rfl tis_ok) (fun w S hg => ⟨⟨(fns_cons (bytes_Clone_sound w S hg) (fns_cons (hexa_both_sound w S hg) fns_nil)), fun f sp h => cns_nil f sp h w S⟩, gl_none w S hg, fun _ _ h => by cases h⟩) follows Tryd.func42 (by kernel_rfl) (by kernel_rfl) (by kernel_rfl) ?_
  intro avs r h
  unfold s_hexa_Put at h
  split at h
  · simp only [Prod.mk.injEq] at h
    obtain ⟨hp, rfl⟩ := h
    obtain ⟨n, hn⟩ := hexa_Put_math _ _ _ hp
    exact ⟨n, _, (hexa_Put_ev n _ _ _ _ _ _).trans hn, .inl rfl⟩
  · cases h

/-! sheave/qpage.Unit -/

noncomputable def E_qpage_Unit : EnvP := ⟨⟨tiOf tis, fnsOf [(41, s_octet_Is), (42, s_hexa_Put)], cnsOf [], [], 23, (fun _ => none), (fun _ => none), some [4]⟩, fun _ => none, fun _ => none, fun _ => [], fun _ => none⟩
noncomputable def C_qpage_Unit : Code := Tryd.f22.body.getD .skip
noncomputable def R_qpage_Unit : Array ResultVar := Tryd.f22.results
theorem qpage_Unit_ev (n : Nat) (c0 : UInt8) (o0 : Lab) (ends1 : Bool) (o1 : Lab) : evFnP E_qpage_Unit n C_qpage_Unit R_qpage_Unit [.dat .byte c0 o0, .dat .bool ends1 o1] = qpage_Unit_sh n c0 ends1 := by
  kernel_rfl
theorem qpage_Unit_sound : SoundG G Tryd.prog 22 s_qpage_Unit := by
  refine sound_of_evP' G_stays (E := E_qpage_Unit) (fn := Tryd.f22) (c := C_qpage_Unit) (tyOk_of_table rfl tis_ok) (fun w S hg => ⟨⟨(fns_cons (octet_Is_sound w S hg) (fns_cons (hexa_Put_sound w S hg) fns_nil)), fun f sp h => cns_nil f sp h w S⟩, gl_none w S hg, fun _ _ h => by cases h⟩) follows Tryd.func22 (by kernel_rfl) (by kernel_rfl) (by kernel_rfl) ?_
  intro avs r h
  unfold s_qpage_Unit at h
  split at h
  · simp only [Prod.mk.injEq, true_and] at h
    subst h
    obtain ⟨n, hn⟩ := qpage_Unit_math _ _
    exact ⟨n, _, (qpage_Unit_ev n _ _ _ _).trans hn, .inl rfl⟩
  · cases h

end Go.Av
