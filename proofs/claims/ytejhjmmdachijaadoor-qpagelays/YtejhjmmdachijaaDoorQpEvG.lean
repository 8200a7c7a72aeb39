import Derived.Test.YtejhjmmdachijaaDoorQpEvF
import Derived.Test.YtejhjmmdachijaaDoorQpN
import Derived.Test.YtejhjmmdachijaaDoorProg
import Derived.KernelRfl
namespace Go.Av
open Go.Proofs
set_option maxRecDepth 100000
set_option linter.unusedVariables false
/-! sheave/sheaveref01.Is -/

noncomputable def E_ref01_Is : EnvP := ⟨⟨tiOf tis, fnsOf [(57, s_ref01_Kinds)], cnsOf [], [], 10, (fun _ => none), (fun _ => none), some [4]⟩, fun _ => none, fun _ => none, fun _ => [], fun _ => none⟩
noncomputable def C_ref01_Is : Code := Tryd.f43.body.getD .skip
noncomputable def R_ref01_Is : Array ResultVar := Tryd.f43.results
theorem ref01_Is_ev (n : Nat) (c0 : UInt8) (o0 : Lab) (kinds1 : Int) (o1 : Lab) : evFnP E_ref01_Is n C_ref01_Is R_ref01_Is [.dat .byte c0 o0, .dat (.int .i64) kinds1 o1] = ref01_Is_sh n c0 kinds1 := by
  kernel_rfl
theorem ref01_Is_sound : SoundG G Tryd.prog 43 s_ref01_Is := by
  refine sound_of_evP' G_stays (E := E_ref01_Is) (fn := Tryd.f43) (c := C_ref01_Is) (tyOk_of_table rfl tis_ok) (fun w S hg => ⟨⟨(fns_cons (ref01_Kinds_sound w S hg) fns_nil), fun f sp h => cns_nil f sp h w S⟩, gl_none w S hg, fun _ _ h => by cases h⟩) follows Tryd.func43 (by kernel_rfl) (by kernel_rfl) (by kernel_rfl) ?_
  intro avs r h
  unfold s_ref01_Is at h
  split at h
  · simp only [Prod.mk.injEq, true_and] at h
    subst h
    obtain ⟨n, hn⟩ := ref01_Is_math _ _
    exact ⟨n, _, (ref01_Is_ev n _ _ _ _).trans hn, .inl rfl⟩
  · cases h

/-! sheave/sheaveref02.Digit -/

noncomputable def E_ref02_Digit : EnvP := ⟨⟨tiOf tis, fnsOf [], cnsOf [], [], 17, (fun _ => none), (fun _ => none), some [2]⟩, fun _ => none, fun _ => none, fun _ => [], fun _ => none⟩
noncomputable def C_ref02_Digit : Code := Tryd.f58.body.getD .skip
noncomputable def R_ref02_Digit : Array ResultVar := Tryd.f58.results
theorem ref02_Digit_ev (n : Nat) (n0 : Int) (o0 : Lab) : evFnP E_ref02_Digit n C_ref02_Digit R_ref02_Digit [.dat (.int .i64) n0 o0] = ref02_Digit_sh n n0 := by
  kernel_rfl
theorem ref02_Digit_sound : SoundG G Tryd.prog 58 s_ref02_Digit := by
  refine sound_of_evP' G_stays (E := E_ref02_Digit) (fn := Tryd.f58) (c := C_ref02_Digit) (tyOk_of_table rfl tis_ok) (fun w S hg => ⟨⟨fns_nil, fun f sp h => cns_nil f sp h w S⟩, gl_none w S hg, fun _ _ h => by cases h⟩) follows Tryd.func58 (by kernel_rfl) (by kernel_rfl) (by kernel_rfl) ?_
  intro avs r h
  unfold s_ref02_Digit at h
  split at h
  · simp only [Prod.mk.injEq] at h
    obtain ⟨hp, rfl⟩ := h
    obtain ⟨n, hn⟩ := ref02_Digit_math _ hp
    exact ⟨n, _, (ref02_Digit_ev n _ _).trans hn, .inl rfl⟩
  · cases h

/-! sheave/sheaveref02.Put -/

noncomputable def E_ref02_Put : EnvP := ⟨⟨tiOf tis, fnsOf [(58, s_ref02_Digit)], cnsOf [], [], 20, (fun _ => none), (fun _ => none), some [6]⟩, fun _ => none, fun _ => none, fun _ => [], fun _ => none⟩
noncomputable def C_ref02_Put : Code := Tryd.f44.body.getD .skip
noncomputable def R_ref02_Put : Array ResultVar := Tryd.f44.results
theorem ref02_Put_ev (n : Nat) (b0 : List UInt8) (o0 : Lab) (sign1 : UInt8) (o1 : Lab) (c2 : UInt8) (o2 : Lab) : evFnP E_ref02_Put n C_ref02_Put R_ref02_Put [.dat (.sl .byte) b0 o0, .dat .byte sign1 o1, .dat .byte c2 o2] = ref02_Put_sh n b0 sign1 c2 := by
  kernel_rfl
theorem ref02_Put_sound : SoundG G Tryd.prog 44 s_ref02_Put := by
  refine sound_of_evP' G_stays (E := E_ref02_Put) (fn := Tryd.f44) (c := C_ref02_Put) (tyOk_of_table rfl tis_ok) (fun w S hg => ⟨⟨(fns_cons (ref02_Digit_sound w S hg) fns_nil), fun f sp h => cns_nil f sp h w S⟩, gl_none w S hg, fun _ _ h => by cases h⟩) follows Tryd.func44 (by kernel_rfl) (by kernel_rfl) (by kernel_rfl) ?_
  intro avs r h
  unfold s_ref02_Put at h
  split at h
  · simp only [Prod.mk.injEq] at h
    obtain ⟨hp, rfl⟩ := h
    obtain ⟨n, hn⟩ := ref02_Put_math _ _ _ hp
    exact ⟨n, _, (ref02_Put_ev n _ _ _ _ _ _).trans hn, .inl rfl⟩
  · cases h

/-! sheave/sheaveref02.Value -/

noncomputable def E_ref02_Value : EnvP := ⟨⟨tiOf tis, fnsOf [(58, s_ref02_Digit)], cnsOf [], [], 25, (fun x => if x = 2 then some [0, 4] else none), (fun x => if x = 0 then some [] else if x = 1 then some [0, 4] else none), some [2, 3]⟩, fun _ => none, fun _ => none, fun _ => [], fun _ => none⟩
noncomputable def C_ref02_Value : Code := Tryd.f61.body.getD .skip
noncomputable def R_ref02_Value : Array ResultVar := Tryd.f61.results
theorem ref02_Value_l2_ok (K : Ex → Fr → Option AV) : ∀ (n : Nat) (c0 : UInt8) (n4 : Int), evLP E_ref02_Value n (sub C_ref02_Value [1, 0, 1, 0, 0]) K (frOf [(0, (.dat .byte c0 none)), (4, (.dat (.int .i64) n4 none))]) = ref02_Value_l2 (fun s2 s3 => K .ret (frOf [(2, (.dat (.int .i64) s2 none)), (3, (.dat .bool s3 none))])) (K (.exit 0) (frOf [])) n c0 n4 := by
  intro n
  induction n with
  | zero => intros; rfl
  | succ n IH =>
  intro c0 n4
  have ih : (fun c0 n4 => evLP E_ref02_Value n (sub C_ref02_Value [1, 0, 1, 0, 0]) K (frOf [(0, (.dat .byte c0 none)), (4, (.dat (.int .i64) n4 none))])) = ref02_Value_l2 (fun s2 s3 => K .ret (frOf [(2, (.dat (.int .i64) s2 none)), (3, (.dat .bool s3 none))])) (K (.exit 0) (frOf [])) n := by
    funext c0 n4
    exact IH c0 n4
  show _ = ref02_Value_l2_b (fun s2 s3 => K .ret (frOf [(2, (.dat (.int .i64) s2 none)), (3, (.dat .bool s3 none))])) (K (.exit 0) (frOf [])) (ref02_Value_l2 (fun s2 s3 => K .ret (frOf [(2, (.dat (.int .i64) s2 none)), (3, (.dat .bool s3 none))])) (K (.exit 0) (frOf [])) n) n c0 n4
  rw [← ih]
  kernel_rfl
theorem ref02_Value_k2_0_ok (n : Nat)  : (kBlockP 0 (E_ref02_Value.cutb 0) (kSeq (evCP E_ref02_Value (evLP E_ref02_Value n) (sub C_ref02_Value [1, 1])) (kFnP E_ref02_Value R_ref02_Value))) (.exit 0) (frOf []) = ref02_Value_k2_0 n  := by
  kernel_rfl
theorem ref02_Value_ev (n : Nat) (c0 : UInt8) (o0 : Lab) : evFnP E_ref02_Value n C_ref02_Value R_ref02_Value [.dat .byte c0 o0] = ref02_Value_sh n c0 := by
  unfold ref02_Value_sh
  rw [show ref02_Value_l2 ref02_Value_ret (ref02_Value_k2_0 n) n = (fun c0 n4 => evLP E_ref02_Value n (sub C_ref02_Value [1, 0, 1, 0, 0]) (kBlockP 0 (E_ref02_Value.cutb 0) (kSeq (evCP E_ref02_Value (evLP E_ref02_Value n) (sub C_ref02_Value [1, 1])) (kFnP E_ref02_Value R_ref02_Value))) (frOf [(0, (.dat .byte c0 none)), (4, (.dat (.int .i64) n4 none))])) from by
    funext c0 n4
    refine Eq.trans ?_ (ref02_Value_l2_ok (kBlockP 0 (E_ref02_Value.cutb 0) (kSeq (evCP E_ref02_Value (evLP E_ref02_Value n) (sub C_ref02_Value [1, 1])) (kFnP E_ref02_Value R_ref02_Value))) n c0 n4).symm
    rw [show ((kBlockP 0 (E_ref02_Value.cutb 0) (kSeq (evCP E_ref02_Value (evLP E_ref02_Value n) (sub C_ref02_Value [1, 1])) (kFnP E_ref02_Value R_ref02_Value))) (.exit 0) (frOf [])) = (ref02_Value_k2_0 n) from by
      exact ref02_Value_k2_0_ok n ]
    all_goals kernel_rfl]
  kernel_rfl
theorem ref02_Value_sound : SoundG G Tryd.prog 61 s_ref02_Value := by
  refine sound_of_evP' G_stays (E := E_ref02_Value) (fn := Tryd.f61) (c := C_ref02_Value) (tyOk_of_table rfl tis_ok) (fun w S hg => ⟨⟨(fns_cons (ref02_Digit_sound w S hg) fns_nil), fun f sp h => cns_nil f sp h w S⟩, gl_none w S hg, fun _ _ h => by cases h⟩) follows Tryd.func61 (by kernel_rfl) (by kernel_rfl) (by kernel_rfl) ?_
  intro avs r h
  unfold s_ref02_Value at h
  split at h
  · simp only [Prod.mk.injEq, true_and] at h
    subst h
    obtain ⟨n, hn⟩ := ref02_Value_math _
    exact ⟨n, _, (ref02_Value_ev n _ _).trans hn, .inl rfl⟩
  · cases h

/-! sheave/sheaveref02.Take -/

noncomputable def E_ref02_Take : EnvP := ⟨⟨tiOf tis, fnsOf [(61, s_ref02_Value)], cnsOf [], [], 58, (fun _ => none), (fun _ => none), some [6, 7]⟩, fun _ => none, fun _ => none, fun _ => [], fun _ => none⟩
noncomputable def C_ref02_Take : Code := Tryd.f47.body.getD .skip
noncomputable def R_ref02_Take : Array ResultVar := Tryd.f47.results
theorem ref02_Take_ev (n : Nat) (s0 : List UInt8) (o0 : Lab) (at1 : Int) (o1 : Lab) (sign2 : UInt8) (o2 : Lab) : evFnP E_ref02_Take n C_ref02_Take R_ref02_Take [.dat (.sl .byte) s0 o0, .dat (.int .i64) at1 o1, .dat .byte sign2 o2] = ref02_Take_sh n s0 at1 sign2 := by
  kernel_rfl
theorem ref02_Take_sound : SoundG G Tryd.prog 47 s_ref02_Take := by
  refine sound_of_evP' G_stays (E := E_ref02_Take) (fn := Tryd.f47) (c := C_ref02_Take) (tyOk_of_table rfl tis_ok) (fun w S hg => ⟨⟨(fns_cons (ref02_Value_sound w S hg) fns_nil), fun f sp h => cns_nil f sp h w S⟩, gl_none w S hg, fun _ _ h => by cases h⟩) follows Tryd.func47 (by kernel_rfl) (by kernel_rfl) (by kernel_rfl) ?_
  intro avs r h
  unfold s_ref02_Take at h
  split at h
  · simp only [Prod.mk.injEq] at h
    obtain ⟨hp, rfl⟩ := h
    obtain ⟨n, hn⟩ := ref02_Take_math _ _ _ hp
    exact ⟨n, _, (ref02_Take_ev n _ _ _ _ _ _).trans hn, .inl rfl⟩
  · cases h

/-! sheave/sheaveref18.right -/

noncomputable def E_ref18_right : EnvP := ⟨⟨tiOf tis, fnsOf [(18, s_ref01_Like), (43, s_ref01_Is), (44, s_ref02_Put), (47, s_ref02_Take)], cnsOf [], [], 70, (fun x => if x = 2 then some [0, 3] else none), (fun x => if x = 0 then some [0] else if x = 1 then some [0, 3] else none), some [2]⟩, fun _ => none, fun _ => none, fun _ => [], fun _ => none⟩
noncomputable def C_ref18_right : Code := Tryd.f36.body.getD .skip
noncomputable def R_ref18_right : Array ResultVar := Tryd.f36.results
theorem ref18_right_l2_ok (K : Ex → Fr → Option AV) : ∀ (n : Nat) (l0 : List UInt8) (i3 : Int), evLP E_ref18_right n (sub C_ref18_right [1, 0, 1, 0, 0]) K (frOf [(0, (.dat (.sl .byte) l0 none)), (3, (.dat (.int .i64) i3 none))]) = ref18_right_l2 (fun s2 => K .ret (frOf [(2, (.dat .bool s2 none))])) (fun l0 => K (.exit 0) (frOf [(0, (.dat (.sl .byte) l0 none))])) n l0 i3 := by
  intro n
  induction n with
  | zero => intros; rfl
  | succ n IH =>
  intro l0 i3
  have ih : (fun l0 i3 => evLP E_ref18_right n (sub C_ref18_right [1, 0, 1, 0, 0]) K (frOf [(0, (.dat (.sl .byte) l0 none)), (3, (.dat (.int .i64) i3 none))])) = ref18_right_l2 (fun s2 => K .ret (frOf [(2, (.dat .bool s2 none))])) (fun l0 => K (.exit 0) (frOf [(0, (.dat (.sl .byte) l0 none))])) n := by
    funext l0 i3
    exact IH l0 i3
  show _ = ref18_right_l2_b (fun s2 => K .ret (frOf [(2, (.dat .bool s2 none))])) (fun l0 => K (.exit 0) (frOf [(0, (.dat (.sl .byte) l0 none))])) (ref18_right_l2 (fun s2 => K .ret (frOf [(2, (.dat .bool s2 none))])) (fun l0 => K (.exit 0) (frOf [(0, (.dat (.sl .byte) l0 none))])) n) n l0 i3
  rw [← ih]
  kernel_rfl
theorem ref18_right_k2_0_ok (n : Nat) (l0 : List UInt8) : (kBlockP 0 (E_ref18_right.cutb 0) (kSeq (evCP E_ref18_right (evLP E_ref18_right n) (sub C_ref18_right [1, 1])) (kFnP E_ref18_right R_ref18_right))) (.exit 0) (frOf [(0, (.dat (.sl .byte) l0 none))]) = ref18_right_k2_0 n l0 := by
  kernel_rfl
theorem ref18_right_ev (n : Nat) (l0 : List UInt8) (o0 : Lab) : evFnP E_ref18_right n C_ref18_right R_ref18_right [.dat (.sl .byte) l0 o0] = ref18_right_sh n l0 := by
  unfold ref18_right_sh
  rw [show ref18_right_l2 ref18_right_ret (ref18_right_k2_0 n) n = (fun l0 i3 => evLP E_ref18_right n (sub C_ref18_right [1, 0, 1, 0, 0]) (kBlockP 0 (E_ref18_right.cutb 0) (kSeq (evCP E_ref18_right (evLP E_ref18_right n) (sub C_ref18_right [1, 1])) (kFnP E_ref18_right R_ref18_right))) (frOf [(0, (.dat (.sl .byte) l0 none)), (3, (.dat (.int .i64) i3 none))])) from by
    funext l0 i3
    refine Eq.trans ?_ (ref18_right_l2_ok (kBlockP 0 (E_ref18_right.cutb 0) (kSeq (evCP E_ref18_right (evLP E_ref18_right n) (sub C_ref18_right [1, 1])) (kFnP E_ref18_right R_ref18_right))) n l0 i3).symm
    rw [show (fun l0 => (kBlockP 0 (E_ref18_right.cutb 0) (kSeq (evCP E_ref18_right (evLP E_ref18_right n) (sub C_ref18_right [1, 1])) (kFnP E_ref18_right R_ref18_right))) (.exit 0) (frOf [(0, (.dat (.sl .byte) l0 none))])) = (ref18_right_k2_0 n) from by
      funext l0
      exact ref18_right_k2_0_ok n l0]
    all_goals kernel_rfl]
  kernel_rfl
theorem ref18_right_sound : SoundG G Tryd.prog 36 s_ref18_right := by
  refine sound_of_evP' G_stays (E := E_ref18_right) (fn := Tryd.f36) (c := C_ref18_right) (tyOk_of_table rfl tis_ok) (fun w S hg => ⟨⟨(fns_cons (ref01_Like_sound w S hg) (fns_cons (ref01_Is_sound w S hg) (fns_cons (ref02_Put_sound w S hg) (fns_cons (ref02_Take_sound w S hg) fns_nil)))), fun f sp h => cns_nil f sp h w S⟩, gl_none w S hg, fun _ _ h => by cases h⟩) follows Tryd.func36 (by kernel_rfl) (by kernel_rfl) (by kernel_rfl) ?_
  intro avs r h
  unfold s_ref18_right at h
  split at h
  · simp only [Prod.mk.injEq] at h
    obtain ⟨hp, rfl⟩ := h
    obtain ⟨n, hn⟩ := ref18_right_math _ hp
    exact ⟨n, _, (ref18_right_ev n _ _).trans hn, .inl rfl⟩
  · cases h

/-! sheave/sheaveref18.Check -/

noncomputable def E_ref18_Check : EnvP := ⟨⟨tiOf tis, fnsOf [(35, s_ref18_Lines), (36, s_ref18_right)], cnsOf [], [], 38, (fun x => if x = 3 then some [3, 4, 5] else none), (fun x => if x = 0 then some [] else if x = 1 then some [3, 4, 5] else none), some [2]⟩, fun _ => none, fun _ => none, fun _ => [], fun _ => none⟩
noncomputable def C_ref18_Check : Code := Tryd.f13.body.getD .skip
noncomputable def R_ref18_Check : Array ResultVar := Tryd.f13.results
theorem ref18_Check_l3_ok (K : Ex → Fr → Option AV) : ∀ (n : Nat) (l3 : List (List UInt8)) (ends4 : Bool) (i5 : Int), evLP E_ref18_Check n (sub C_ref18_Check [1, 1, 0, 1, 0, 0]) K (frOf [(3, (.dat (.sl (.sl .byte)) l3 none)), (4, (.dat .bool ends4 none)), (5, (.dat (.int .i64) i5 none))]) = ref18_Check_l3 (fun s2 => K .ret (frOf [(2, (.dat (.int .i64) s2 none))])) (K (.exit 0) (frOf [])) n l3 ends4 i5 := by
  intro n
  induction n with
  | zero => intros; rfl
  | succ n IH =>
  intro l3 ends4 i5
  have ih : (fun l3 ends4 i5 => evLP E_ref18_Check n (sub C_ref18_Check [1, 1, 0, 1, 0, 0]) K (frOf [(3, (.dat (.sl (.sl .byte)) l3 none)), (4, (.dat .bool ends4 none)), (5, (.dat (.int .i64) i5 none))])) = ref18_Check_l3 (fun s2 => K .ret (frOf [(2, (.dat (.int .i64) s2 none))])) (K (.exit 0) (frOf [])) n := by
    funext l3 ends4 i5
    exact IH l3 ends4 i5
  show _ = ref18_Check_l3_b (fun s2 => K .ret (frOf [(2, (.dat (.int .i64) s2 none))])) (K (.exit 0) (frOf [])) (ref18_Check_l3 (fun s2 => K .ret (frOf [(2, (.dat (.int .i64) s2 none))])) (K (.exit 0) (frOf [])) n) n l3 ends4 i5
  rw [← ih]
  kernel_rfl
theorem ref18_Check_k3_0_ok (n : Nat)  : (kBlockP 0 (E_ref18_Check.cutb 0) (kSeq (evCP E_ref18_Check (evLP E_ref18_Check n) (sub C_ref18_Check [1, 1, 1])) (kFnP E_ref18_Check R_ref18_Check))) (.exit 0) (frOf []) = ref18_Check_k3_0 n  := by
  kernel_rfl
theorem ref18_Check_ev (n : Nat) (s0 : List UInt8) (o0 : Lab) : evFnP E_ref18_Check n C_ref18_Check R_ref18_Check [.dat (.sl .byte) s0 o0] = ref18_Check_sh n s0 := by
  unfold ref18_Check_sh
  rw [show ref18_Check_l3 ref18_Check_ret (ref18_Check_k3_0 n) n = (fun l3 ends4 i5 => evLP E_ref18_Check n (sub C_ref18_Check [1, 1, 0, 1, 0, 0]) (kBlockP 0 (E_ref18_Check.cutb 0) (kSeq (evCP E_ref18_Check (evLP E_ref18_Check n) (sub C_ref18_Check [1, 1, 1])) (kFnP E_ref18_Check R_ref18_Check))) (frOf [(3, (.dat (.sl (.sl .byte)) l3 none)), (4, (.dat .bool ends4 none)), (5, (.dat (.int .i64) i5 none))])) from by
    funext l3 ends4 i5
    refine Eq.trans ?_ (ref18_Check_l3_ok (kBlockP 0 (E_ref18_Check.cutb 0) (kSeq (evCP E_ref18_Check (evLP E_ref18_Check n) (sub C_ref18_Check [1, 1, 1])) (kFnP E_ref18_Check R_ref18_Check))) n l3 ends4 i5).symm
    rw [show ((kBlockP 0 (E_ref18_Check.cutb 0) (kSeq (evCP E_ref18_Check (evLP E_ref18_Check n) (sub C_ref18_Check [1, 1, 1])) (kFnP E_ref18_Check R_ref18_Check))) (.exit 0) (frOf [])) = (ref18_Check_k3_0 n) from by
      exact ref18_Check_k3_0_ok n ]
    all_goals kernel_rfl]
  kernel_rfl
theorem ref18_Check_sound : SoundG G Tryd.prog 13 s_ref18_Check := by
  refine sound_of_evP' G_stays (E := E_ref18_Check) (fn := Tryd.f13) (c := C_ref18_Check) (tyOk_of_table rfl tis_ok) (fun w S hg => ⟨⟨(fns_cons (ref18_Lines_sound w S hg) (fns_cons (ref18_right_sound w S hg) fns_nil)), fun f sp h => cns_nil f sp h w S⟩, gl_none w S hg, fun _ _ h => by cases h⟩) follows Tryd.func13 (by kernel_rfl) (by kernel_rfl) (by kernel_rfl) ?_
  intro avs r h
  unfold s_ref18_Check at h
  split at h
  · simp only [Prod.mk.injEq] at h
    obtain ⟨hp, rfl⟩ := h
    obtain ⟨n, hn⟩ := ref18_Check_math _ hp
    exact ⟨n, _, (ref18_Check_ev n _ _).trans hn, .inl rfl⟩
  · cases h

end Go.Av
