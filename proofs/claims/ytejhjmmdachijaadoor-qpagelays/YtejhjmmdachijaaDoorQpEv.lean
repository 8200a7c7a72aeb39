import Derived.Test.YtejhjmmdachijaaDoorQpEvH
import Derived.Test.YtejhjmmdachijaaDoorQpN
import Derived.Test.YtejhjmmdachijaaDoorProg
import Derived.KernelRfl
namespace Go.Av
open Go.Proofs
set_option maxRecDepth 100000
set_option linter.unusedVariables false
/-! sheave/sheaveref18.Breaks -/

noncomputable def E_ref18_Breaks : EnvP := ⟨⟨tiOf tis, fnsOf [], cnsOf [], [], 56, (fun x => if x = 3 then some [0, 3, 4] else none), (fun x => if x = 0 then some [3] else if x = 1 then some [0, 3, 4] else none), some [2]⟩, fun _ => none, fun _ => none, fun _ => [], fun _ => none⟩
noncomputable def C_ref18_Breaks : Code := Tryd.f21.body.getD .skip
noncomputable def R_ref18_Breaks : Array ResultVar := Tryd.f21.results
theorem ref18_Breaks_l3_ok (K : Ex → Fr → Option AV) : ∀ (n : Nat) (s0 : List UInt8) (out3 : List UInt8) (i4 : Int), evLP E_ref18_Breaks n (sub C_ref18_Breaks [1, 1, 0, 1, 0, 0]) K (frOf [(0, (.dat (.sl .byte) s0 none)), (3, (.dat (.sl .byte) out3 (some (3, 5)))), (4, (.dat (.int .i64) i4 none))]) = ref18_Breaks_l3 (fun out3 => K (.exit 0) (frOf [(3, (.dat (.sl .byte) out3 (some (3, 5))))])) n s0 out3 i4 := by
  intro n
  induction n with
  | zero => intros; rfl
  | succ n IH =>
  intro s0 out3 i4
  have ih : (fun s0 out3 i4 => evLP E_ref18_Breaks n (sub C_ref18_Breaks [1, 1, 0, 1, 0, 0]) K (frOf [(0, (.dat (.sl .byte) s0 none)), (3, (.dat (.sl .byte) out3 (some (3, 5)))), (4, (.dat (.int .i64) i4 none))])) = ref18_Breaks_l3 (fun out3 => K (.exit 0) (frOf [(3, (.dat (.sl .byte) out3 (some (3, 5))))])) n := by
    funext s0 out3 i4
    exact IH s0 out3 i4
  show _ = ref18_Breaks_l3_b (fun out3 => K (.exit 0) (frOf [(3, (.dat (.sl .byte) out3 (some (3, 5))))])) (ref18_Breaks_l3 (fun out3 => K (.exit 0) (frOf [(3, (.dat (.sl .byte) out3 (some (3, 5))))])) n) n s0 out3 i4
  rw [← ih]
  kernel_rfl
theorem ref18_Breaks_k3_0_ok (n : Nat) (out3 : List UInt8) : (kBlockP 0 (E_ref18_Breaks.cutb 0) (kSeq (evCP E_ref18_Breaks (evLP E_ref18_Breaks n) (sub C_ref18_Breaks [1, 1, 1])) (kFnP E_ref18_Breaks R_ref18_Breaks))) (.exit 0) (frOf [(3, (.dat (.sl .byte) out3 (some (3, 5))))]) = ref18_Breaks_k3_0 n out3 := by
  kernel_rfl
theorem ref18_Breaks_ev (n : Nat) (s0 : List UInt8) (o0 : Lab) : evFnP E_ref18_Breaks n C_ref18_Breaks R_ref18_Breaks [.dat (.sl .byte) s0 o0] = ref18_Breaks_sh n s0 := by
  unfold ref18_Breaks_sh
  rw [show ref18_Breaks_l3 (ref18_Breaks_k3_0 n) n = (fun s0 out3 i4 => evLP E_ref18_Breaks n (sub C_ref18_Breaks [1, 1, 0, 1, 0, 0]) (kBlockP 0 (E_ref18_Breaks.cutb 0) (kSeq (evCP E_ref18_Breaks (evLP E_ref18_Breaks n) (sub C_ref18_Breaks [1, 1, 1])) (kFnP E_ref18_Breaks R_ref18_Breaks))) (frOf [(0, (.dat (.sl .byte) s0 none)), (3, (.dat (.sl .byte) out3 (some (3, 5)))), (4, (.dat (.int .i64) i4 none))])) from by
    funext s0 out3 i4
    refine Eq.trans ?_ (ref18_Breaks_l3_ok (kBlockP 0 (E_ref18_Breaks.cutb 0) (kSeq (evCP E_ref18_Breaks (evLP E_ref18_Breaks n) (sub C_ref18_Breaks [1, 1, 1])) (kFnP E_ref18_Breaks R_ref18_Breaks))) n s0 out3 i4).symm
    rw [show (fun out3 => (kBlockP 0 (E_ref18_Breaks.cutb 0) (kSeq (evCP E_ref18_Breaks (evLP E_ref18_Breaks n) (sub C_ref18_Breaks [1, 1, 1])) (kFnP E_ref18_Breaks R_ref18_Breaks))) (.exit 0) (frOf [(3, (.dat (.sl .byte) out3 (some (3, 5))))])) = (ref18_Breaks_k3_0 n) from by
      funext out3
      exact ref18_Breaks_k3_0_ok n out3]
    all_goals kernel_rfl]
  kernel_rfl
theorem ref18_Breaks_sound : SoundG G Tryd.prog 21 s_ref18_Breaks := by
  refine sound_of_evP' G_stays (E := E_ref18_Breaks) (fn := Tryd.f21) (c := C_ref18_Breaks) (tyOk_of_table rfl tis_ok) (fun w S hg => ⟨⟨fns_nil, fun f sp h => cns_nil f sp h w S⟩, gl_none w S hg, fun _ _ h => by cases h⟩) follows Tryd.func21 (by kernel_rfl) (by kernel_rfl) (by kernel_rfl) ?_
  intro avs r h
  unfold s_ref18_Breaks at h
  split at h
  · simp only [Prod.mk.injEq] at h
    obtain ⟨hp, rfl⟩ := h
    obtain ⟨n, hn⟩ := ref18_Breaks_math _ hp
    exact ⟨n, _, (ref18_Breaks_ev n _ _).trans hn, .inl rfl⟩
  · cases h

/-! sheave/sheaveref18.Unit -/

noncomputable def E_ref18_Unit : EnvP := ⟨⟨tiOf tis, fnsOf [(43, s_ref01_Is), (44, s_ref02_Put)], cnsOf [], [], 23, (fun _ => none), (fun _ => none), some [4]⟩, fun _ => none, fun _ => none, fun _ => [], fun _ => none⟩
noncomputable def C_ref18_Unit : Code := Tryd.f23.body.getD .skip
noncomputable def R_ref18_Unit : Array ResultVar := Tryd.f23.results
theorem ref18_Unit_ev (n : Nat) (c0 : UInt8) (o0 : Lab) (ends1 : Bool) (o1 : Lab) : evFnP E_ref18_Unit n C_ref18_Unit R_ref18_Unit [.dat .byte c0 o0, .dat .bool ends1 o1] = ref18_Unit_sh n c0 ends1 := by
  kernel_rfl
theorem ref18_Unit_sound : SoundG G Tryd.prog 23 s_ref18_Unit := by
  refine sound_of_evP' G_stays (E := E_ref18_Unit) (fn := Tryd.f23) (c := C_ref18_Unit) (tyOk_of_table rfl tis_ok) (fun w S hg => ⟨⟨(fns_cons (ref01_Is_sound w S hg) (fns_cons (ref02_Put_sound w S hg) fns_nil)), fun f sp h => cns_nil f sp h w S⟩, gl_none w S hg, fun _ _ h => by cases h⟩) follows Tryd.func23 (by kernel_rfl) (by kernel_rfl) (by kernel_rfl) ?_
  intro avs r h
  unfold s_ref18_Unit at h
  split at h
  · simp only [Prod.mk.injEq, true_and] at h
    subst h
    obtain ⟨n, hn⟩ := ref18_Unit_math _ _
    exact ⟨n, _, (ref18_Unit_ev n _ _ _ _).trans hn, .inl rfl⟩
  · cases h

/-! sheave/sheaveref18.Lay -/

noncomputable def E_ref18_Lay : EnvP := ⟨⟨tiOf tis, fnsOf [(21, s_ref18_Breaks), (23, s_ref18_Unit)], cnsOf [], [], 65, (fun x => if x = 5 then some [3, 4, 5, 6] else none), (fun x => if x = 0 then some [4, 5] else if x = 1 then some [3, 4, 5, 6] else none), some [2]⟩, fun _ => none, fun _ => none, fun _ => [], fun _ => none⟩
noncomputable def C_ref18_Lay : Code := Tryd.f19.body.getD .skip
noncomputable def R_ref18_Lay : Array ResultVar := Tryd.f19.results
theorem ref18_Lay_l5_ok (K : Ex → Fr → Option AV) : ∀ (n : Nat) (b3 : List UInt8) (out4 : List UInt8) (long5 : Int) (i6 : Int), evLP E_ref18_Lay n (sub C_ref18_Lay [1, 1, 1, 1, 0, 1, 0, 0]) K (frOf [(3, (.dat (.sl .byte) b3 (some (3, 5)))), (4, (.dat (.sl .byte) out4 (some (4, 5)))), (5, (.dat (.int .i64) long5 none)), (6, (.dat (.int .i64) i6 none))]) = ref18_Lay_l5 (fun out4 long5 => K (.exit 0) (frOf [(4, (.dat (.sl .byte) out4 (some (4, 5)))), (5, (.dat (.int .i64) long5 none))])) n b3 out4 long5 i6 := by
  intro n
  induction n with
  | zero => intros; rfl
  | succ n IH =>
  intro b3 out4 long5 i6
  have ih : (fun b3 out4 long5 i6 => evLP E_ref18_Lay n (sub C_ref18_Lay [1, 1, 1, 1, 0, 1, 0, 0]) K (frOf [(3, (.dat (.sl .byte) b3 (some (3, 5)))), (4, (.dat (.sl .byte) out4 (some (4, 5)))), (5, (.dat (.int .i64) long5 none)), (6, (.dat (.int .i64) i6 none))])) = ref18_Lay_l5 (fun out4 long5 => K (.exit 0) (frOf [(4, (.dat (.sl .byte) out4 (some (4, 5)))), (5, (.dat (.int .i64) long5 none))])) n := by
    funext b3 out4 long5 i6
    exact IH b3 out4 long5 i6
  show _ = ref18_Lay_l5_b (fun out4 long5 => K (.exit 0) (frOf [(4, (.dat (.sl .byte) out4 (some (4, 5)))), (5, (.dat (.int .i64) long5 none))])) (ref18_Lay_l5 (fun out4 long5 => K (.exit 0) (frOf [(4, (.dat (.sl .byte) out4 (some (4, 5)))), (5, (.dat (.int .i64) long5 none))])) n) n b3 out4 long5 i6
  rw [← ih]
  kernel_rfl
theorem ref18_Lay_k5_0_ok (n : Nat) (out4 : List UInt8) (long5 : Int) : (kBlockP 0 (E_ref18_Lay.cutb 0) (kSeq (evCP E_ref18_Lay (evLP E_ref18_Lay n) (sub C_ref18_Lay [1, 1, 1, 1, 1])) (kFnP E_ref18_Lay R_ref18_Lay))) (.exit 0) (frOf [(4, (.dat (.sl .byte) out4 (some (4, 5)))), (5, (.dat (.int .i64) long5 none))]) = ref18_Lay_k5_0 n out4 long5 := by
  kernel_rfl
theorem ref18_Lay_ev (n : Nat) (s0 : List UInt8) (o0 : Lab) : evFnP E_ref18_Lay n C_ref18_Lay R_ref18_Lay [.dat (.sl .byte) s0 o0] = ref18_Lay_sh n s0 := by
  unfold ref18_Lay_sh
  rw [show ref18_Lay_l5 (ref18_Lay_k5_0 n) n = (fun b3 out4 long5 i6 => evLP E_ref18_Lay n (sub C_ref18_Lay [1, 1, 1, 1, 0, 1, 0, 0]) (kBlockP 0 (E_ref18_Lay.cutb 0) (kSeq (evCP E_ref18_Lay (evLP E_ref18_Lay n) (sub C_ref18_Lay [1, 1, 1, 1, 1])) (kFnP E_ref18_Lay R_ref18_Lay))) (frOf [(3, (.dat (.sl .byte) b3 (some (3, 5)))), (4, (.dat (.sl .byte) out4 (some (4, 5)))), (5, (.dat (.int .i64) long5 none)), (6, (.dat (.int .i64) i6 none))])) from by
    funext b3 out4 long5 i6
    refine Eq.trans ?_ (ref18_Lay_l5_ok (kBlockP 0 (E_ref18_Lay.cutb 0) (kSeq (evCP E_ref18_Lay (evLP E_ref18_Lay n) (sub C_ref18_Lay [1, 1, 1, 1, 1])) (kFnP E_ref18_Lay R_ref18_Lay))) n b3 out4 long5 i6).symm
    rw [show (fun out4 long5 => (kBlockP 0 (E_ref18_Lay.cutb 0) (kSeq (evCP E_ref18_Lay (evLP E_ref18_Lay n) (sub C_ref18_Lay [1, 1, 1, 1, 1])) (kFnP E_ref18_Lay R_ref18_Lay))) (.exit 0) (frOf [(4, (.dat (.sl .byte) out4 (some (4, 5)))), (5, (.dat (.int .i64) long5 none))])) = (ref18_Lay_k5_0 n) from by
      funext out4 long5
      exact ref18_Lay_k5_0_ok n out4 long5]
    all_goals kernel_rfl]
  kernel_rfl
theorem ref18_Lay_sound : SoundG G Tryd.prog 19 s_ref18_Lay := by
  refine sound_of_evP' G_stays (E := E_ref18_Lay) (fn := Tryd.f19) (c := C_ref18_Lay) (tyOk_of_table rfl tis_ok) (fun w S hg => ⟨⟨(fns_cons (ref18_Breaks_sound w S hg) (fns_cons (ref18_Unit_sound w S hg) fns_nil)), fun f sp h => cns_nil f sp h w S⟩, gl_none w S hg, fun _ _ h => by cases h⟩) follows Tryd.func19 (by kernel_rfl) (by kernel_rfl) (by kernel_rfl) ?_
  intro avs r h
  unfold s_ref18_Lay at h
  split at h
  · simp only [Prod.mk.injEq] at h
    obtain ⟨hp, rfl⟩ := h
    obtain ⟨n, hn⟩ := ref18_Lay_math _ hp
    exact ⟨n, _, (ref18_Lay_ev n _ _).trans hn, .inl rfl⟩
  · cases h

/-! sheave/qpage.Len -/

noncomputable def E_qpage_Len : EnvP := ⟨⟨tiOf tis, fnsOf [(16, s_qpage_Lay)], cnsOf [], [], 6, (fun _ => none), (fun _ => none), some [2]⟩, fun _ => none, fun _ => none, fun _ => [], fun _ => none⟩
noncomputable def C_qpage_Len : Code := Tryd.f20.body.getD .skip
noncomputable def R_qpage_Len : Array ResultVar := Tryd.f20.results
theorem qpage_Len_ev (n : Nat) (s0 : List UInt8) (o0 : Lab) : evFnP E_qpage_Len n C_qpage_Len R_qpage_Len [.dat (.sl .byte) s0 o0] = qpage_Len_sh n s0 := by
  kernel_rfl
theorem qpage_Len_sound : SoundG G Tryd.prog 20 s_qpage_Len := by
  refine sound_of_evP' G_stays (E := E_qpage_Len) (fn := Tryd.f20) (c := C_qpage_Len) (tyOk_of_table rfl tis_ok) (fun w S hg => ⟨⟨(fns_cons (qpage_Lay_sound w S hg) fns_nil), fun f sp h => cns_nil f sp h w S⟩, gl_none w S hg, fun _ _ h => by cases h⟩) follows Tryd.func20 (by kernel_rfl) (by kernel_rfl) (by kernel_rfl) ?_
  intro avs r h
  unfold s_qpage_Len at h
  split at h
  · simp only [Prod.mk.injEq] at h
    obtain ⟨hp, rfl⟩ := h
    obtain ⟨n, hn⟩ := qpage_Len_math _ hp
    exact ⟨n, _, (qpage_Len_ev n _ _).trans hn, .inl rfl⟩
  · cases h

/-! sheave/sheavelaw18.QpageLays -/

noncomputable def E_law18_QpageLays : EnvP := ⟨⟨tiOf tis, fnsOf [(11, s_law18_alive), (16, s_qpage_Lay), (17, s_qpage_Breaks), (18, s_ref01_Like), (19, s_ref18_Lay), (20, s_qpage_Len), (21, s_ref18_Breaks), (22, s_qpage_Unit), (23, s_ref18_Unit)], cnsOf [], [], 44, (fun _ => none), (fun _ => none), some [6]⟩, fun _ => none, fun _ => none, fun _ => [], fun _ => none⟩
noncomputable def C_law18_QpageLays : Code := Tryd.f6.body.getD .skip
noncomputable def R_law18_QpageLays : Array ResultVar := Tryd.f6.results
theorem law18_QpageLays_ev (n : Nat) (s0 : List UInt8) (o0 : Lab) (c1 : UInt8) (o1 : Lab) (ends2 : Bool) (o2 : Lab) : evFnP E_law18_QpageLays n C_law18_QpageLays R_law18_QpageLays [.dat (.sl .byte) s0 o0, .dat .byte c1 o1, .dat .bool ends2 o2] = law18_QpageLays_sh n s0 c1 ends2 := by
  kernel_rfl
theorem law18_QpageLays_sound : SoundG G Tryd.prog 6 s_law18_QpageLays := by
  refine sound_of_evP' G_stays (E := E_law18_QpageLays) (fn := Tryd.f6) (c := C_law18_QpageLays) (tyOk_of_table rfl tis_ok) (fun w S hg => ⟨⟨(fns_cons (law18_alive_sound w S hg) (fns_cons (qpage_Lay_sound w S hg) (fns_cons (qpage_Breaks_sound w S hg) (fns_cons (ref01_Like_sound w S hg) (fns_cons (ref18_Lay_sound w S hg) (fns_cons (qpage_Len_sound w S hg) (fns_cons (ref18_Breaks_sound w S hg) (fns_cons (qpage_Unit_sound w S hg) (fns_cons (ref18_Unit_sound w S hg) fns_nil))))))))), fun f sp h => cns_nil f sp h w S⟩, gl_none w S hg, fun _ _ h => by cases h⟩) follows Tryd.func6 (by kernel_rfl) (by kernel_rfl) (by kernel_rfl) ?_
  intro avs r h
  unfold s_law18_QpageLays at h
  split at h
  · simp only [Prod.mk.injEq, true_and] at h
    subst h
    obtain ⟨n, hn⟩ := law18_QpageLays_math _ _ _
    exact ⟨n, _, (law18_QpageLays_ev n _ _ _ _ _ _).trans hn, .inl rfl⟩
  · cases h
end Go.Av
