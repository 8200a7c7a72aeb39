import Derived.Test.YtopepdfipgfakaaEcEvG
import Derived.Test.YtopepdfipgfakaaEcN
import Derived.Test.YtopepdfipgfakaaProg
import Derived.KernelRfl
namespace Go.Av
open Go.Proofs
set_option maxRecDepth 100000
set_option linter.unusedVariables false
/-! sheave/sheaveref14.Lay -/

noncomputable def E_ref14_Lay : EnvP := ⟨⟨tiOf tis, fnsOf [(33, s_ref14_Bare)], cnsOf [], [], 14, (fun x => if x = 2 then some [3] else none), (fun x => if x = 0 then some [3] else if x = 1 then some [3] else none), some [2]⟩, fun _ => none, fun _ => none, fun _ => [], fun _ => none⟩
noncomputable def C_ref14_Lay : Code := Try.f24.body.getD .skip
noncomputable def R_ref14_Lay : Array ResultVar := Try.f24.results
theorem ref14_Lay_l2_ok (K : Ex → Fr → Option AV) : ∀ (n : Nat) (out3 : List UInt8), evLP E_ref14_Lay n (sub C_ref14_Lay [1, 1, 0, 0, 0]) K (frOf [(3, (.dat (.sl .byte) out3 (some (3, 5))))]) = ref14_Lay_l2 (fun out3 => K (.exit 0) (frOf [(3, (.dat (.sl .byte) out3 (some (3, 5))))])) n out3 := by
  intro n
  induction n with
  | zero => intros; rfl
  | succ n IH =>
  intro out3
  have ih : (fun out3 => evLP E_ref14_Lay n (sub C_ref14_Lay [1, 1, 0, 0, 0]) K (frOf [(3, (.dat (.sl .byte) out3 (some (3, 5))))])) = ref14_Lay_l2 (fun out3 => K (.exit 0) (frOf [(3, (.dat (.sl .byte) out3 (some (3, 5))))])) n := by
    funext out3
    exact IH out3
  show _ = ref14_Lay_l2_b (fun out3 => K (.exit 0) (frOf [(3, (.dat (.sl .byte) out3 (some (3, 5))))])) (ref14_Lay_l2 (fun out3 => K (.exit 0) (frOf [(3, (.dat (.sl .byte) out3 (some (3, 5))))])) n) n out3
  rw [← ih]
  kernel_rfl
theorem ref14_Lay_k2_0_ok (n : Nat) (out3 : List UInt8) : (kBlockP 0 (E_ref14_Lay.cutb 0) (kSeq (evCP E_ref14_Lay (evLP E_ref14_Lay n) (sub C_ref14_Lay [1, 1, 1])) (kFnP E_ref14_Lay R_ref14_Lay))) (.exit 0) (frOf [(3, (.dat (.sl .byte) out3 (some (3, 5))))]) = ref14_Lay_k2_0 n out3 := by
  kernel_rfl
theorem ref14_Lay_ev (n : Nat) (s0 : List UInt8) (o0 : Lab) : evFnP E_ref14_Lay n C_ref14_Lay R_ref14_Lay [.dat (.sl .byte) s0 o0] = ref14_Lay_sh n s0 := by
  unfold ref14_Lay_sh
  rw [show ref14_Lay_l2 (ref14_Lay_k2_0 n) n = (fun out3 => evLP E_ref14_Lay n (sub C_ref14_Lay [1, 1, 0, 0, 0]) (kBlockP 0 (E_ref14_Lay.cutb 0) (kSeq (evCP E_ref14_Lay (evLP E_ref14_Lay n) (sub C_ref14_Lay [1, 1, 1])) (kFnP E_ref14_Lay R_ref14_Lay))) (frOf [(3, (.dat (.sl .byte) out3 (some (3, 5))))])) from by
    funext out3
    refine Eq.trans ?_ (ref14_Lay_l2_ok (kBlockP 0 (E_ref14_Lay.cutb 0) (kSeq (evCP E_ref14_Lay (evLP E_ref14_Lay n) (sub C_ref14_Lay [1, 1, 1])) (kFnP E_ref14_Lay R_ref14_Lay))) n out3).symm
    rw [show (fun out3 => (kBlockP 0 (E_ref14_Lay.cutb 0) (kSeq (evCP E_ref14_Lay (evLP E_ref14_Lay n) (sub C_ref14_Lay [1, 1, 1])) (kFnP E_ref14_Lay R_ref14_Lay))) (.exit 0) (frOf [(3, (.dat (.sl .byte) out3 (some (3, 5))))])) = (ref14_Lay_k2_0 n) from by
      funext out3
      exact ref14_Lay_k2_0_ok n out3]
    all_goals kernel_rfl]
  kernel_rfl
theorem ref14_Lay_sound : SoundG G Try.prog 24 s_ref14_Lay := by
  refine sound_of_evP' G_stays (E := E_ref14_Lay) (fn := Try.f24) (c := C_ref14_Lay) (tyOk_of_table rfl tis_ok) (fun w S hg => ⟨⟨(fns_cons (ref14_Bare_sound w S hg) fns_nil), fun f sp h => cns_nil f sp h w S⟩, gl_none w S hg, fun _ _ h => by cases h⟩) follows Try.func24 (by kernel_rfl) (by kernel_rfl) (by kernel_rfl) ?_
  intro avs r h
  unfold s_ref14_Lay at h
  split at h
  · simp only [Prod.mk.injEq] at h
    obtain ⟨hp, rfl⟩ := h
    obtain ⟨n, hn⟩ := ref14_Lay_math _ hp
    exact ⟨n, _, (ref14_Lay_ev n _ _).trans hn, .inl rfl⟩
  · cases h

/-! sheave/sheaveref20.one -/

noncomputable def E_ref20_one : EnvP := ⟨⟨tiOf tis, fnsOf [(56, s_ref01_Is), (57, s_ref02_Put)], cnsOf [], [], 12, (fun _ => none), (fun _ => none), some [2]⟩, fun _ => none, fun _ => none, fun _ => [], fun _ => none⟩
noncomputable def C_ref20_one : Code := Try.f34.body.getD .skip
noncomputable def R_ref20_one : Array ResultVar := Try.f34.results
theorem ref20_one_ev (n : Nat) (c0 : UInt8) (o0 : Lab) : evFnP E_ref20_one n C_ref20_one R_ref20_one [.dat .byte c0 o0] = ref20_one_sh n c0 := by
  kernel_rfl
theorem ref20_one_sound : SoundG G Try.prog 34 s_ref20_one := by
  refine sound_of_evP' G_stays (E := E_ref20_one) (fn := Try.f34) (c := C_ref20_one) (tyOk_of_table rfl tis_ok) (fun w S hg => ⟨⟨(fns_cons (ref01_Is_sound w S hg) (fns_cons (ref02_Put_sound w S hg) fns_nil)), fun f sp h => cns_nil f sp h w S⟩, gl_none w S hg, fun _ _ h => by cases h⟩) follows Try.func34 (by kernel_rfl) (by kernel_rfl) (by kernel_rfl) ?_
  intro avs r h
  unfold s_ref20_one at h
  split at h
  · simp only [Prod.mk.injEq, true_and] at h
    subst h
    obtain ⟨n, hn⟩ := ref20_one_math _
    exact ⟨n, _, (ref20_one_ev n _ _).trans hn, .inl rfl⟩
  · cases h

/-! sheave/sheaveref20.Lay -/

noncomputable def E_ref20_Lay : EnvP := ⟨⟨tiOf tis, fnsOf [(34, s_ref20_one)], cnsOf [], [], 19, (fun x => if x = 3 then some [0, 3, 4] else none), (fun x => if x = 0 then some [3] else if x = 1 then some [0, 3, 4] else none), some [2]⟩, fun _ => none, fun _ => none, fun _ => [], fun _ => none⟩
noncomputable def C_ref20_Lay : Code := Try.f25.body.getD .skip
noncomputable def R_ref20_Lay : Array ResultVar := Try.f25.results
theorem ref20_Lay_l3_ok (K : Ex → Fr → Option AV) : ∀ (n : Nat) (s0 : List UInt8) (out3 : List UInt8) (i4 : Int), evLP E_ref20_Lay n (sub C_ref20_Lay [1, 1, 0, 1, 0, 0]) K (frOf [(0, (.dat (.sl .byte) s0 none)), (3, (.dat (.sl .byte) out3 (some (3, 5)))), (4, (.dat (.int .i64) i4 none))]) = ref20_Lay_l3 (fun out3 => K (.exit 0) (frOf [(3, (.dat (.sl .byte) out3 (some (3, 5))))])) n s0 out3 i4 := by
  intro n
  induction n with
  | zero => intros; rfl
  | succ n IH =>
  intro s0 out3 i4
  have ih : (fun s0 out3 i4 => evLP E_ref20_Lay n (sub C_ref20_Lay [1, 1, 0, 1, 0, 0]) K (frOf [(0, (.dat (.sl .byte) s0 none)), (3, (.dat (.sl .byte) out3 (some (3, 5)))), (4, (.dat (.int .i64) i4 none))])) = ref20_Lay_l3 (fun out3 => K (.exit 0) (frOf [(3, (.dat (.sl .byte) out3 (some (3, 5))))])) n := by
    funext s0 out3 i4
    exact IH s0 out3 i4
  show _ = ref20_Lay_l3_b (fun out3 => K (.exit 0) (frOf [(3, (.dat (.sl .byte) out3 (some (3, 5))))])) (ref20_Lay_l3 (fun out3 => K (.exit 0) (frOf [(3, (.dat (.sl .byte) out3 (some (3, 5))))])) n) n s0 out3 i4
  rw [← ih]
  kernel_rfl
theorem ref20_Lay_k3_0_ok (n : Nat) (out3 : List UInt8) : (kBlockP 0 (E_ref20_Lay.cutb 0) (kSeq (evCP E_ref20_Lay (evLP E_ref20_Lay n) (sub C_ref20_Lay [1, 1, 1])) (kFnP E_ref20_Lay R_ref20_Lay))) (.exit 0) (frOf [(3, (.dat (.sl .byte) out3 (some (3, 5))))]) = ref20_Lay_k3_0 n out3 := by
  kernel_rfl
theorem ref20_Lay_ev (n : Nat) (s0 : List UInt8) (o0 : Lab) : evFnP E_ref20_Lay n C_ref20_Lay R_ref20_Lay [.dat (.sl .byte) s0 o0] = ref20_Lay_sh n s0 := by
  unfold ref20_Lay_sh
  rw [show ref20_Lay_l3 (ref20_Lay_k3_0 n) n = (fun s0 out3 i4 => evLP E_ref20_Lay n (sub C_ref20_Lay [1, 1, 0, 1, 0, 0]) (kBlockP 0 (E_ref20_Lay.cutb 0) (kSeq (evCP E_ref20_Lay (evLP E_ref20_Lay n) (sub C_ref20_Lay [1, 1, 1])) (kFnP E_ref20_Lay R_ref20_Lay))) (frOf [(0, (.dat (.sl .byte) s0 none)), (3, (.dat (.sl .byte) out3 (some (3, 5)))), (4, (.dat (.int .i64) i4 none))])) from by
    funext s0 out3 i4
    refine Eq.trans ?_ (ref20_Lay_l3_ok (kBlockP 0 (E_ref20_Lay.cutb 0) (kSeq (evCP E_ref20_Lay (evLP E_ref20_Lay n) (sub C_ref20_Lay [1, 1, 1])) (kFnP E_ref20_Lay R_ref20_Lay))) n s0 out3 i4).symm
    rw [show (fun out3 => (kBlockP 0 (E_ref20_Lay.cutb 0) (kSeq (evCP E_ref20_Lay (evLP E_ref20_Lay n) (sub C_ref20_Lay [1, 1, 1])) (kFnP E_ref20_Lay R_ref20_Lay))) (.exit 0) (frOf [(3, (.dat (.sl .byte) out3 (some (3, 5))))])) = (ref20_Lay_k3_0 n) from by
      funext out3
      exact ref20_Lay_k3_0_ok n out3]
    all_goals kernel_rfl]
  kernel_rfl
theorem ref20_Lay_sound : SoundG G Try.prog 25 s_ref20_Lay := by
  refine sound_of_evP' G_stays (E := E_ref20_Lay) (fn := Try.f25) (c := C_ref20_Lay) (tyOk_of_table rfl tis_ok) (fun w S hg => ⟨⟨(fns_cons (ref20_one_sound w S hg) fns_nil), fun f sp h => cns_nil f sp h w S⟩, gl_none w S hg, fun _ _ h => by cases h⟩) follows Try.func25 (by kernel_rfl) (by kernel_rfl) (by kernel_rfl) ?_
  intro avs r h
  unfold s_ref20_Lay at h
  split at h
  · simp only [Prod.mk.injEq] at h
    obtain ⟨hp, rfl⟩ := h
    obtain ⟨n, hn⟩ := ref20_Lay_math _ hp
    exact ⟨n, _, (ref20_Lay_ev n _ _).trans hn, .inl rfl⟩
  · cases h

/-! sheave/sheaveref08.Put -/

noncomputable def E_ref08_Put : EnvP := ⟨⟨tiOf tis, fnsOf [(59, s_ref08_Sign)], cnsOf [], [], 20, (fun x => if x = 2 then some [0, 4] else none), (fun x => if x = 0 then some [] else if x = 1 then some [0, 4] else none), some [2, 3]⟩, fun _ => none, fun _ => none, fun _ => [], fun _ => none⟩
noncomputable def C_ref08_Put : Code := Try.f36.body.getD .skip
noncomputable def R_ref08_Put : Array ResultVar := Try.f36.results
theorem ref08_Put_l2_ok (K : Ex → Fr → Option AV) : ∀ (n : Nat) (c0 : Int) (n4 : Int), evLP E_ref08_Put n (sub C_ref08_Put [1, 0, 1, 0, 0]) K (frOf [(0, (.dat (.int .i32) c0 none)), (4, (.dat (.int .i64) n4 none))]) = ref08_Put_l2 (fun s2 s3 => K .ret (frOf [(2, (.dat .byte s2 none)), (3, (.dat .bool s3 none))])) (K (.exit 0) (frOf [])) n c0 n4 := by
  intro n
  induction n with
  | zero => intros; rfl
  | succ n IH =>
  intro c0 n4
  have ih : (fun c0 n4 => evLP E_ref08_Put n (sub C_ref08_Put [1, 0, 1, 0, 0]) K (frOf [(0, (.dat (.int .i32) c0 none)), (4, (.dat (.int .i64) n4 none))])) = ref08_Put_l2 (fun s2 s3 => K .ret (frOf [(2, (.dat .byte s2 none)), (3, (.dat .bool s3 none))])) (K (.exit 0) (frOf [])) n := by
    funext c0 n4
    exact IH c0 n4
  show _ = ref08_Put_l2_b (fun s2 s3 => K .ret (frOf [(2, (.dat .byte s2 none)), (3, (.dat .bool s3 none))])) (K (.exit 0) (frOf [])) (ref08_Put_l2 (fun s2 s3 => K .ret (frOf [(2, (.dat .byte s2 none)), (3, (.dat .bool s3 none))])) (K (.exit 0) (frOf [])) n) n c0 n4
  rw [← ih]
  kernel_rfl
theorem ref08_Put_k2_0_ok (n : Nat)  : (kBlockP 0 (E_ref08_Put.cutb 0) (kSeq (evCP E_ref08_Put (evLP E_ref08_Put n) (sub C_ref08_Put [1, 1])) (kFnP E_ref08_Put R_ref08_Put))) (.exit 0) (frOf []) = ref08_Put_k2_0 n  := by
  kernel_rfl
theorem ref08_Put_ev (n : Nat) (c0 : Int) (o0 : Lab) : evFnP E_ref08_Put n C_ref08_Put R_ref08_Put [.dat (.int .i32) c0 o0] = ref08_Put_sh n c0 := by
  unfold ref08_Put_sh
  rw [show ref08_Put_l2 ref08_Put_ret (ref08_Put_k2_0 n) n = (fun c0 n4 => evLP E_ref08_Put n (sub C_ref08_Put [1, 0, 1, 0, 0]) (kBlockP 0 (E_ref08_Put.cutb 0) (kSeq (evCP E_ref08_Put (evLP E_ref08_Put n) (sub C_ref08_Put [1, 1])) (kFnP E_ref08_Put R_ref08_Put))) (frOf [(0, (.dat (.int .i32) c0 none)), (4, (.dat (.int .i64) n4 none))])) from by
    funext c0 n4
    refine Eq.trans ?_ (ref08_Put_l2_ok (kBlockP 0 (E_ref08_Put.cutb 0) (kSeq (evCP E_ref08_Put (evLP E_ref08_Put n) (sub C_ref08_Put [1, 1])) (kFnP E_ref08_Put R_ref08_Put))) n c0 n4).symm
    rw [show ((kBlockP 0 (E_ref08_Put.cutb 0) (kSeq (evCP E_ref08_Put (evLP E_ref08_Put n) (sub C_ref08_Put [1, 1])) (kFnP E_ref08_Put R_ref08_Put))) (.exit 0) (frOf [])) = (ref08_Put_k2_0 n) from by
      exact ref08_Put_k2_0_ok n ]
    all_goals kernel_rfl]
  kernel_rfl
theorem ref08_Put_sound : SoundG G Try.prog 36 s_ref08_Put := by
  refine sound_of_evP' G_stays (E := E_ref08_Put) (fn := Try.f36) (c := C_ref08_Put) (tyOk_of_table rfl tis_ok) (fun w S hg => ⟨⟨(fns_cons (ref08_Sign_sound w S hg) fns_nil), fun f sp h => cns_nil f sp h w S⟩, gl_none w S hg, fun _ _ h => by cases h⟩) follows Try.func36 (by kernel_rfl) (by kernel_rfl) (by kernel_rfl) ?_
  intro avs r h
  unfold s_ref08_Put at h
  split at h
  · simp only [Prod.mk.injEq, true_and] at h
    subst h
    obtain ⟨n, hn⟩ := ref08_Put_math _
    exact ⟨n, _, (ref08_Put_ev n _ _).trans hn, .inl rfl⟩
  · cases h

/-! sheave/sheaveref09.Put -/

noncomputable def E_ref09_Put : EnvP := ⟨⟨tiOf tis, fnsOf [(60, s_ref09_Sign)], cnsOf [], [], 20, (fun x => if x = 2 then some [0, 4] else none), (fun x => if x = 0 then some [] else if x = 1 then some [0, 4] else none), some [2, 3]⟩, fun _ => none, fun _ => none, fun _ => [], fun _ => none⟩
noncomputable def C_ref09_Put : Code := Try.f37.body.getD .skip
noncomputable def R_ref09_Put : Array ResultVar := Try.f37.results
theorem ref09_Put_l2_ok (K : Ex → Fr → Option AV) : ∀ (n : Nat) (c0 : Int) (n4 : Int), evLP E_ref09_Put n (sub C_ref09_Put [1, 0, 1, 0, 0]) K (frOf [(0, (.dat (.int .i32) c0 none)), (4, (.dat (.int .i64) n4 none))]) = ref09_Put_l2 (fun s2 s3 => K .ret (frOf [(2, (.dat .byte s2 none)), (3, (.dat .bool s3 none))])) (K (.exit 0) (frOf [])) n c0 n4 := by
  intro n
  induction n with
  | zero => intros; rfl
  | succ n IH =>
  intro c0 n4
  have ih : (fun c0 n4 => evLP E_ref09_Put n (sub C_ref09_Put [1, 0, 1, 0, 0]) K (frOf [(0, (.dat (.int .i32) c0 none)), (4, (.dat (.int .i64) n4 none))])) = ref09_Put_l2 (fun s2 s3 => K .ret (frOf [(2, (.dat .byte s2 none)), (3, (.dat .bool s3 none))])) (K (.exit 0) (frOf [])) n := by
    funext c0 n4
    exact IH c0 n4
  show _ = ref09_Put_l2_b (fun s2 s3 => K .ret (frOf [(2, (.dat .byte s2 none)), (3, (.dat .bool s3 none))])) (K (.exit 0) (frOf [])) (ref09_Put_l2 (fun s2 s3 => K .ret (frOf [(2, (.dat .byte s2 none)), (3, (.dat .bool s3 none))])) (K (.exit 0) (frOf [])) n) n c0 n4
  rw [← ih]
  kernel_rfl
theorem ref09_Put_k2_0_ok (n : Nat)  : (kBlockP 0 (E_ref09_Put.cutb 0) (kSeq (evCP E_ref09_Put (evLP E_ref09_Put n) (sub C_ref09_Put [1, 1])) (kFnP E_ref09_Put R_ref09_Put))) (.exit 0) (frOf []) = ref09_Put_k2_0 n  := by
  kernel_rfl
theorem ref09_Put_ev (n : Nat) (c0 : Int) (o0 : Lab) : evFnP E_ref09_Put n C_ref09_Put R_ref09_Put [.dat (.int .i32) c0 o0] = ref09_Put_sh n c0 := by
  unfold ref09_Put_sh
  rw [show ref09_Put_l2 ref09_Put_ret (ref09_Put_k2_0 n) n = (fun c0 n4 => evLP E_ref09_Put n (sub C_ref09_Put [1, 0, 1, 0, 0]) (kBlockP 0 (E_ref09_Put.cutb 0) (kSeq (evCP E_ref09_Put (evLP E_ref09_Put n) (sub C_ref09_Put [1, 1])) (kFnP E_ref09_Put R_ref09_Put))) (frOf [(0, (.dat (.int .i32) c0 none)), (4, (.dat (.int .i64) n4 none))])) from by
    funext c0 n4
    refine Eq.trans ?_ (ref09_Put_l2_ok (kBlockP 0 (E_ref09_Put.cutb 0) (kSeq (evCP E_ref09_Put (evLP E_ref09_Put n) (sub C_ref09_Put [1, 1])) (kFnP E_ref09_Put R_ref09_Put))) n c0 n4).symm
    rw [show ((kBlockP 0 (E_ref09_Put.cutb 0) (kSeq (evCP E_ref09_Put (evLP E_ref09_Put n) (sub C_ref09_Put [1, 1])) (kFnP E_ref09_Put R_ref09_Put))) (.exit 0) (frOf [])) = (ref09_Put_k2_0 n) from by
      exact ref09_Put_k2_0_ok n ]
    all_goals kernel_rfl]
  kernel_rfl
theorem ref09_Put_sound : SoundG G Try.prog 37 s_ref09_Put := by
  refine sound_of_evP' G_stays (E := E_ref09_Put) (fn := Try.f37) (c := C_ref09_Put) (tyOk_of_table rfl tis_ok) (fun w S hg => ⟨⟨(fns_cons (ref09_Sign_sound w S hg) fns_nil), fun f sp h => cns_nil f sp h w S⟩, gl_none w S hg, fun _ _ h => by cases h⟩) follows Try.func37 (by kernel_rfl) (by kernel_rfl) (by kernel_rfl) ?_
  intro avs r h
  unfold s_ref09_Put at h
  split at h
  · simp only [Prod.mk.injEq, true_and] at h
    subst h
    obtain ⟨n, hn⟩ := ref09_Put_math _
    exact ⟨n, _, (ref09_Put_ev n _ _).trans hn, .inl rfl⟩
  · cases h

/-! sheave/sheaveref10.Put -/

noncomputable def E_ref10_Put : EnvP := ⟨⟨tiOf tis, fnsOf [(61, s_ref10_Sign)], cnsOf [], [], 20, (fun x => if x = 2 then some [0, 4] else none), (fun x => if x = 0 then some [] else if x = 1 then some [0, 4] else none), some [2, 3]⟩, fun _ => none, fun _ => none, fun _ => [], fun _ => none⟩
noncomputable def C_ref10_Put : Code := Try.f38.body.getD .skip
noncomputable def R_ref10_Put : Array ResultVar := Try.f38.results
theorem ref10_Put_l2_ok (K : Ex → Fr → Option AV) : ∀ (n : Nat) (c0 : Int) (n4 : Int), evLP E_ref10_Put n (sub C_ref10_Put [1, 0, 1, 0, 0]) K (frOf [(0, (.dat (.int .i32) c0 none)), (4, (.dat (.int .i64) n4 none))]) = ref10_Put_l2 (fun s2 s3 => K .ret (frOf [(2, (.dat .byte s2 none)), (3, (.dat .bool s3 none))])) (K (.exit 0) (frOf [])) n c0 n4 := by
  intro n
  induction n with
  | zero => intros; rfl
  | succ n IH =>
  intro c0 n4
  have ih : (fun c0 n4 => evLP E_ref10_Put n (sub C_ref10_Put [1, 0, 1, 0, 0]) K (frOf [(0, (.dat (.int .i32) c0 none)), (4, (.dat (.int .i64) n4 none))])) = ref10_Put_l2 (fun s2 s3 => K .ret (frOf [(2, (.dat .byte s2 none)), (3, (.dat .bool s3 none))])) (K (.exit 0) (frOf [])) n := by
    funext c0 n4
    exact IH c0 n4
  show _ = ref10_Put_l2_b (fun s2 s3 => K .ret (frOf [(2, (.dat .byte s2 none)), (3, (.dat .bool s3 none))])) (K (.exit 0) (frOf [])) (ref10_Put_l2 (fun s2 s3 => K .ret (frOf [(2, (.dat .byte s2 none)), (3, (.dat .bool s3 none))])) (K (.exit 0) (frOf [])) n) n c0 n4
  rw [← ih]
  kernel_rfl
theorem ref10_Put_k2_0_ok (n : Nat)  : (kBlockP 0 (E_ref10_Put.cutb 0) (kSeq (evCP E_ref10_Put (evLP E_ref10_Put n) (sub C_ref10_Put [1, 1])) (kFnP E_ref10_Put R_ref10_Put))) (.exit 0) (frOf []) = ref10_Put_k2_0 n  := by
  kernel_rfl
theorem ref10_Put_ev (n : Nat) (c0 : Int) (o0 : Lab) : evFnP E_ref10_Put n C_ref10_Put R_ref10_Put [.dat (.int .i32) c0 o0] = ref10_Put_sh n c0 := by
  unfold ref10_Put_sh
  rw [show ref10_Put_l2 ref10_Put_ret (ref10_Put_k2_0 n) n = (fun c0 n4 => evLP E_ref10_Put n (sub C_ref10_Put [1, 0, 1, 0, 0]) (kBlockP 0 (E_ref10_Put.cutb 0) (kSeq (evCP E_ref10_Put (evLP E_ref10_Put n) (sub C_ref10_Put [1, 1])) (kFnP E_ref10_Put R_ref10_Put))) (frOf [(0, (.dat (.int .i32) c0 none)), (4, (.dat (.int .i64) n4 none))])) from by
    funext c0 n4
    refine Eq.trans ?_ (ref10_Put_l2_ok (kBlockP 0 (E_ref10_Put.cutb 0) (kSeq (evCP E_ref10_Put (evLP E_ref10_Put n) (sub C_ref10_Put [1, 1])) (kFnP E_ref10_Put R_ref10_Put))) n c0 n4).symm
    rw [show ((kBlockP 0 (E_ref10_Put.cutb 0) (kSeq (evCP E_ref10_Put (evLP E_ref10_Put n) (sub C_ref10_Put [1, 1])) (kFnP E_ref10_Put R_ref10_Put))) (.exit 0) (frOf [])) = (ref10_Put_k2_0 n) from by
      exact ref10_Put_k2_0_ok n ]
    all_goals kernel_rfl]
  kernel_rfl
theorem ref10_Put_sound : SoundG G Try.prog 38 s_ref10_Put := by
  refine sound_of_evP' G_stays (E := E_ref10_Put) (fn := Try.f38) (c := C_ref10_Put) (tyOk_of_table rfl tis_ok) (fun w S hg => ⟨⟨(fns_cons (ref10_Sign_sound w S hg) fns_nil), fun f sp h => cns_nil f sp h w S⟩, gl_none w S hg, fun _ _ h => by cases h⟩) follows Try.func38 (by kernel_rfl) (by kernel_rfl) (by kernel_rfl) ?_
  intro avs r h
  unfold s_ref10_Put at h
  split at h
  · simp only [Prod.mk.injEq, true_and] at h
    subst h
    obtain ⟨n, hn⟩ := ref10_Put_math _
    exact ⟨n, _, (ref10_Put_ev n _ _).trans hn, .inl rfl⟩
  · cases h

/-! sheave/sheaveref04.Octets -/

noncomputable def E_ref04_Octets : EnvP := ⟨⟨tiOf tis, fnsOf [(58, s_ref03_Is)], cnsOf [], [], 60, (fun _ => none), (fun _ => none), some [2]⟩, fun _ => none, fun _ => none, fun _ => [], fun _ => none⟩
noncomputable def C_ref04_Octets : Code := Try.f39.body.getD .skip
noncomputable def R_ref04_Octets : Array ResultVar := Try.f39.results
theorem ref04_Octets_ev (n : Nat) (c0 : Int) (o0 : Lab) : evFnP E_ref04_Octets n C_ref04_Octets R_ref04_Octets [.dat (.int .i32) c0 o0] = ref04_Octets_sh n c0 := by
  kernel_rfl
theorem ref04_Octets_sound : SoundG G Try.prog 39 s_ref04_Octets := by
  refine sound_of_evP' G_stays (E := E_ref04_Octets) (fn := Try.f39) (c := C_ref04_Octets) (tyOk_of_table rfl tis_ok) (fun w S hg => ⟨⟨(fns_cons (ref03_Is_sound w S hg) fns_nil), fun f sp h => cns_nil f sp h w S⟩, gl_none w S hg, fun _ _ h => by cases h⟩) follows Try.func39 (by kernel_rfl) (by kernel_rfl) (by kernel_rfl) ?_
  intro avs r h
  unfold s_ref04_Octets at h
  split at h
  · simp only [Prod.mk.injEq, true_and] at h
    subst h
    obtain ⟨n, hn⟩ := ref04_Octets_math _
    exact ⟨n, _, (ref04_Octets_ev n _ _).trans hn, .inl rfl⟩
  · cases h

/-! sheave/sheaveref12.Has -/

noncomputable def E_ref12_Has : EnvP := ⟨⟨tiOf tis, fnsOf [(36, s_ref08_Put), (37, s_ref09_Put), (38, s_ref10_Put), (58, s_ref03_Is)], cnsOf [], [], 41, (fun _ => none), (fun x => if x = 0 then some [5] else none), some [4]⟩, fun _ => none, fun _ => none, fun _ => [], fun _ => none⟩
noncomputable def C_ref12_Has : Code := Try.f35.body.getD .skip
noncomputable def R_ref12_Has : Array ResultVar := Try.f35.results
theorem ref12_Has_ev (n : Nat) (charset0 : Int) (o0 : Lab) (c1 : Int) (o1 : Lab) : evFnP E_ref12_Has n C_ref12_Has R_ref12_Has [.dat (.int .i64) charset0 o0, .dat (.int .i32) c1 o1] = ref12_Has_sh n charset0 c1 := by
  kernel_rfl
theorem ref12_Has_sound : SoundG G Try.prog 35 s_ref12_Has := by
  refine sound_of_evP' G_stays (E := E_ref12_Has) (fn := Try.f35) (c := C_ref12_Has) (tyOk_of_table rfl tis_ok) (fun w S hg => ⟨⟨(fns_cons (ref08_Put_sound w S hg) (fns_cons (ref09_Put_sound w S hg) (fns_cons (ref10_Put_sound w S hg) (fns_cons (ref03_Is_sound w S hg) fns_nil)))), fun f sp h => cns_nil f sp h w S⟩, gl_none w S hg, fun _ _ h => by cases h⟩) follows Try.func35 (by kernel_rfl) (by kernel_rfl) (by kernel_rfl) ?_
  intro avs r h
  unfold s_ref12_Has at h
  split at h
  · simp only [Prod.mk.injEq, true_and] at h
    subst h
    obtain ⟨n, hn⟩ := ref12_Has_math _ _
    exact ⟨n, _, (ref12_Has_ev n _ _ _ _).trans hn, .inl rfl⟩
  · cases h

end Go.Av
