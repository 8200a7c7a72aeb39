import Derived.Test.YtejhjmmdachijaaDoorQrEvG
import Derived.Test.YtejhjmmdachijaaDoorQpN
import Derived.Test.YtejhjmmdachijaaDoorProg
import Derived.KernelRfl
namespace Go.Av
set_option linter.unusedSimpArgs false
open Go.Proofs
set_option maxRecDepth 100000
set_option linter.unusedVariables false
noncomputable def E_z43 : EnvP := ⟨⟨tiOf tis, fnsOf [(57, s_z57)], cnsOf [], [], 10, (fun _ => none), (fun _ => none), some [4]⟩, fun _ => none, fun _ => none, fun _ => [], fun _ => none, fun _ => none, fun _ => none⟩
noncomputable def C_z43 : Code := Tryd.f43.body.getD .skip
noncomputable def R_z43 : Array ResultVar := Tryd.f43.results
theorem z43_ev (n : Nat) (c0 : UInt8) (o0 : Lab) (kinds1 : Int) (o1 : Lab) : evFnP E_z43 n C_z43 R_z43 [.dat .byte c0 o0, .dat (.int .i64) kinds1 o1] = z43_sh n c0 kinds1 := by
  kernel_rfl
theorem z43_sound : SoundG G Tryd.prog 43 s_z43 := by
  refine sound_of_evP' G_stays (E := E_z43) (fn := Tryd.f43) (c := C_z43) (tyOk_of_table rfl tis_ok) (fun w S hg => ⟨⟨(fns_cons (z57_sound w S hg) fns_nil), fun f sp h => cns_nil f sp h w S⟩, gl_none w S hg, (fun _ _ h => by cases h), (fun f sp h => rns_nil f sp h), (fun f it h => its_nil f it h)⟩) follows Tryd.func43 (by kernel_rfl) (by kernel_rfl) (by kernel_rfl) ?_
  intro avs r h
  unfold s_z43 at h
  split at h
  · simp only [Prod.mk.injEq, true_and] at h
    subst h
    obtain ⟨n, hn⟩ := z43_math _ _
    exact ⟨n, _, (z43_ev n _ _ _ _).trans hn, .inl rfl⟩
  · cases h
noncomputable def E_z58 : EnvP := ⟨⟨tiOf tis, fnsOf [], cnsOf [], [], 17, (fun _ => none), (fun _ => none), some [2]⟩, fun _ => none, fun _ => none, fun _ => [], fun _ => none, fun _ => none, fun _ => none⟩
noncomputable def C_z58 : Code := Tryd.f58.body.getD .skip
noncomputable def R_z58 : Array ResultVar := Tryd.f58.results
theorem z58_ev (n : Nat) (n0 : Int) (o0 : Lab) : evFnP E_z58 n C_z58 R_z58 [.dat (.int .i64) n0 o0] = z58_sh n n0 := by
  kernel_rfl
theorem z58_sound : SoundG G Tryd.prog 58 s_z58 := by
  refine sound_of_evP' G_stays (E := E_z58) (fn := Tryd.f58) (c := C_z58) (tyOk_of_table rfl tis_ok) (fun w S hg => ⟨⟨fns_nil, fun f sp h => cns_nil f sp h w S⟩, gl_none w S hg, (fun _ _ h => by cases h), (fun f sp h => rns_nil f sp h), (fun f it h => its_nil f it h)⟩) follows Tryd.func58 (by kernel_rfl) (by kernel_rfl) (by kernel_rfl) ?_
  intro avs r h
  unfold s_z58 at h
  split at h
  · simp only [Prod.mk.injEq] at h
    obtain ⟨hp, rfl⟩ := h
    obtain ⟨n, hn⟩ := z58_math _ hp
    exact ⟨n, _, (z58_ev n _ _).trans hn, .inl rfl⟩
  · cases h
noncomputable def E_z61 : EnvP := ⟨⟨tiOf tis, fnsOf [(58, s_z58)], cnsOf [], [], 25, (fun x => if x = 2 then some [0, 4] else none), (fun x => if x = 0 then some [] else if x = 1 then some [0, 4] else none), some [2, 3]⟩, fun _ => none, fun _ => none, fun _ => [], fun _ => none, fun _ => none, fun _ => none⟩
noncomputable def C_z61 : Code := Tryd.f61.body.getD .skip
noncomputable def R_z61 : Array ResultVar := Tryd.f61.results
theorem z61_l2_ok (K : Ex → Fr → Option AV) : ∀ (n : Nat) (c0 : UInt8) (n4 : Int), evLP E_z61 n (sub C_z61 [1, 0, 1, 0, 0]) K (frOf [(0, (.dat .byte c0 none)), (4, (.dat (.int .i64) n4 none))]) = z61_l2 (fun s2 s3 => K .ret (frOf [(2, (.dat (.int .i64) s2 none)), (3, (.dat .bool s3 none))])) (K (.exit 0) (frOf [])) n c0 n4 := by
  intro n
  induction n with
  | zero => intros; rfl
  | succ n IH =>
  intro c0 n4
  have ih : (fun c0 n4 => evLP E_z61 n (sub C_z61 [1, 0, 1, 0, 0]) K (frOf [(0, (.dat .byte c0 none)), (4, (.dat (.int .i64) n4 none))])) = z61_l2 (fun s2 s3 => K .ret (frOf [(2, (.dat (.int .i64) s2 none)), (3, (.dat .bool s3 none))])) (K (.exit 0) (frOf [])) n := by
    funext c0 n4
    exact IH c0 n4
  show _ = z61_l2_b (fun s2 s3 => K .ret (frOf [(2, (.dat (.int .i64) s2 none)), (3, (.dat .bool s3 none))])) (K (.exit 0) (frOf [])) (z61_l2 (fun s2 s3 => K .ret (frOf [(2, (.dat (.int .i64) s2 none)), (3, (.dat .bool s3 none))])) (K (.exit 0) (frOf [])) n) n c0 n4
  rw [← ih]
  kernel_rfl
theorem z61_k2_0_ok (n : Nat)  : (kBlockP 0 (E_z61.cutb 0) (kSeq (evCP E_z61 (evLP E_z61 n) (sub C_z61 [1, 1])) (kFnP E_z61 R_z61))) (.exit 0) (frOf []) = z61_k2_0 n  := by
  kernel_rfl
theorem z61_ev (n : Nat) (c0 : UInt8) (o0 : Lab) : evFnP E_z61 n C_z61 R_z61 [.dat .byte c0 o0] = z61_sh n c0 := by
  unfold z61_sh
  rw [show z61_l2 z61_ret (z61_k2_0 n) n = (fun c0 n4 => evLP E_z61 n (sub C_z61 [1, 0, 1, 0, 0]) (kBlockP 0 (E_z61.cutb 0) (kSeq (evCP E_z61 (evLP E_z61 n) (sub C_z61 [1, 1])) (kFnP E_z61 R_z61))) (frOf [(0, (.dat .byte c0 none)), (4, (.dat (.int .i64) n4 none))])) from by
    funext c0 n4
    refine Eq.trans ?_ (z61_l2_ok (kBlockP 0 (E_z61.cutb 0) (kSeq (evCP E_z61 (evLP E_z61 n) (sub C_z61 [1, 1])) (kFnP E_z61 R_z61))) n c0 n4).symm
    rw [show ((kBlockP 0 (E_z61.cutb 0) (kSeq (evCP E_z61 (evLP E_z61 n) (sub C_z61 [1, 1])) (kFnP E_z61 R_z61))) (.exit 0) (frOf [])) = (z61_k2_0 n) from by
      exact z61_k2_0_ok n ]
    all_goals kernel_rfl]
  kernel_rfl
theorem z61_sound : SoundG G Tryd.prog 61 s_z61 := by
  refine sound_of_evP' G_stays (E := E_z61) (fn := Tryd.f61) (c := C_z61) (tyOk_of_table rfl tis_ok) (fun w S hg => ⟨⟨(fns_cons (z58_sound w S hg) fns_nil), fun f sp h => cns_nil f sp h w S⟩, gl_none w S hg, (fun _ _ h => by cases h), (fun f sp h => rns_nil f sp h), (fun f it h => its_nil f it h)⟩) follows Tryd.func61 (by kernel_rfl) (by kernel_rfl) (by kernel_rfl) ?_
  intro avs r h
  unfold s_z61 at h
  split at h
  · simp only [Prod.mk.injEq, true_and] at h
    subst h
    obtain ⟨n, hn⟩ := z61_math _
    exact ⟨n, _, (z61_ev n _ _).trans hn, .inl rfl⟩
  · cases h
noncomputable def E_z47 : EnvP := ⟨⟨tiOf tis, fnsOf [(61, s_z61)], cnsOf [], [], 58, (fun _ => none), (fun _ => none), some [6, 7]⟩, fun _ => none, fun _ => none, fun _ => [], fun _ => none, fun _ => none, fun _ => none⟩
noncomputable def C_z47 : Code := Tryd.f47.body.getD .skip
noncomputable def R_z47 : Array ResultVar := Tryd.f47.results
theorem z47_ev (n : Nat) (s0 : List UInt8) (o0 : Lab) (at1 : Int) (o1 : Lab) (sign2 : UInt8) (o2 : Lab) : evFnP E_z47 n C_z47 R_z47 [.dat (.sl .byte) s0 o0, .dat (.int .i64) at1 o1, .dat .byte sign2 o2] = z47_sh n s0 at1 sign2 := by
  kernel_rfl
theorem z47_sound : SoundG G Tryd.prog 47 s_z47 := by
  refine sound_of_evP' G_stays (E := E_z47) (fn := Tryd.f47) (c := C_z47) (tyOk_of_table rfl tis_ok) (fun w S hg => ⟨⟨(fns_cons (z61_sound w S hg) fns_nil), fun f sp h => cns_nil f sp h w S⟩, gl_none w S hg, (fun _ _ h => by cases h), (fun f sp h => rns_nil f sp h), (fun f it h => its_nil f it h)⟩) follows Tryd.func47 (by kernel_rfl) (by kernel_rfl) (by kernel_rfl) ?_
  intro avs r h
  unfold s_z47 at h
  split at h
  · simp only [Prod.mk.injEq] at h
    obtain ⟨hp, rfl⟩ := h
    obtain ⟨n, hn⟩ := z47_math _ _ _ hp
    exact ⟨n, _, (z47_ev n _ _ _ _ _ _).trans hn, .inl rfl⟩
  · cases h
noncomputable def E_z26 : EnvP := ⟨⟨tiOf tis, fnsOf [(43, s_z43), (47, s_z47)], cnsOf [], [], 82, (fun x => if x = 1 then some [0] else if x = 9 then some [0, 5, 6, 7, 8] else none), (fun x => if x = 0 then some [0] else if x = 1 then some [0] else if x = 2 then some [5, 6, 7] else if x = 3 then some [0, 5, 6, 7, 8] else none), some [2, 3, 4]⟩, fun _ => none, fun _ => none, fun _ => [], fun _ => none, fun _ => none, fun _ => none⟩
noncomputable def C_z26 : Code := Tryd.f26.body.getD .skip
noncomputable def R_z26 : Array ResultVar := Tryd.f26.results
theorem z26_l1_ok (K : Ex → Fr → Option AV) : ∀ (n : Nat) (l0 : List UInt8), evLP E_z26 n (sub C_z26 [1, 0, 0, 0]) K (frOf [(0, (.dat (.sl .byte) l0 none))]) = z26_l1 (fun l0 => K (.exit 0) (frOf [(0, (.dat (.sl .byte) l0 none))])) n l0 := by
  intro n
  induction n with
  | zero => intros; rfl
  | succ n IH =>
  intro l0
  have ih : (fun l0 => evLP E_z26 n (sub C_z26 [1, 0, 0, 0]) K (frOf [(0, (.dat (.sl .byte) l0 none))])) = z26_l1 (fun l0 => K (.exit 0) (frOf [(0, (.dat (.sl .byte) l0 none))])) n := by
    funext l0
    exact IH l0
  show _ = z26_l1_b (fun l0 => K (.exit 0) (frOf [(0, (.dat (.sl .byte) l0 none))])) (z26_l1 (fun l0 => K (.exit 0) (frOf [(0, (.dat (.sl .byte) l0 none))])) n) n l0
  rw [← ih]
  kernel_rfl
theorem z26_l9_ok (K : Ex → Fr → Option AV) : ∀ (n : Nat) (l0 : List UInt8) (soft5 : Bool) (out6 : List UInt8) (strange7 : Int) (i8 : Int), evLP E_z26 n (sub C_z26 [1, 1, 1, 1, 1, 1, 0, 1, 0, 0]) K (frOf [(0, (.dat (.sl .byte) l0 none)), (5, (.dat .bool soft5 none)), (6, (.dat (.sl .byte) out6 (some (6, 5)))), (7, (.dat (.int .i64) strange7 none)), (8, (.dat (.int .i64) i8 none))]) = z26_l9 (fun soft5 out6 strange7 => K (.exit 2) (frOf [(5, (.dat .bool soft5 none)), (6, (.dat (.sl .byte) out6 (some (6, 5)))), (7, (.dat (.int .i64) strange7 none))])) n l0 soft5 out6 strange7 i8 := by
  intro n
  induction n with
  | zero => intros; rfl
  | succ n IH =>
  intro l0 soft5 out6 strange7 i8
  have ih : (fun l0 soft5 out6 strange7 i8 => evLP E_z26 n (sub C_z26 [1, 1, 1, 1, 1, 1, 0, 1, 0, 0]) K (frOf [(0, (.dat (.sl .byte) l0 none)), (5, (.dat .bool soft5 none)), (6, (.dat (.sl .byte) out6 (some (6, 5)))), (7, (.dat (.int .i64) strange7 none)), (8, (.dat (.int .i64) i8 none))])) = z26_l9 (fun soft5 out6 strange7 => K (.exit 2) (frOf [(5, (.dat .bool soft5 none)), (6, (.dat (.sl .byte) out6 (some (6, 5)))), (7, (.dat (.int .i64) strange7 none))])) n := by
    funext l0 soft5 out6 strange7 i8
    exact IH l0 soft5 out6 strange7 i8
  show _ = z26_l9_b (fun soft5 out6 strange7 => K (.exit 2) (frOf [(5, (.dat .bool soft5 none)), (6, (.dat (.sl .byte) out6 (some (6, 5)))), (7, (.dat (.int .i64) strange7 none))])) (z26_l9 (fun soft5 out6 strange7 => K (.exit 2) (frOf [(5, (.dat .bool soft5 none)), (6, (.dat (.sl .byte) out6 (some (6, 5)))), (7, (.dat (.int .i64) strange7 none))])) n) n l0 soft5 out6 strange7 i8
  rw [← ih]
  kernel_rfl
theorem z26_k9_2_ok (n : Nat) (soft5 : Bool) (out6 : List UInt8) (strange7 : Int) : (kBlockP 2 (E_z26.cutb 2) (kSeq (evCP E_z26 (evLP E_z26 n) (sub C_z26 [1, 1, 1, 1, 1, 1, 1])) (kFnP E_z26 R_z26))) (.exit 2) (frOf [(5, (.dat .bool soft5 none)), (6, (.dat (.sl .byte) out6 (some (6, 5)))), (7, (.dat (.int .i64) strange7 none))]) = z26_k9_2 n soft5 out6 strange7 := by
  kernel_rfl
theorem z26_k1_0_ok (n : Nat) (l0 : List UInt8) : (kBlockP 0 (E_z26.cutb 0) (kSeq (evCP E_z26 (evLP E_z26 n) (sub C_z26 [1, 1])) (kFnP E_z26 R_z26))) (.exit 0) (frOf [(0, (.dat (.sl .byte) l0 none))]) = z26_k1_0 n l0 := by
  unfold z26_k1_0
  rw [show z26_l9 (z26_k9_2 n) n = (fun l0 soft5 out6 strange7 i8 => evLP E_z26 n (sub C_z26 [1, 1, 1, 1, 1, 1, 0, 1, 0, 0]) (kBlockP 2 (E_z26.cutb 2) (kSeq (evCP E_z26 (evLP E_z26 n) (sub C_z26 [1, 1, 1, 1, 1, 1, 1])) (kFnP E_z26 R_z26))) (frOf [(0, (.dat (.sl .byte) l0 none)), (5, (.dat .bool soft5 none)), (6, (.dat (.sl .byte) out6 (some (6, 5)))), (7, (.dat (.int .i64) strange7 none)), (8, (.dat (.int .i64) i8 none))])) from by
    funext l0 soft5 out6 strange7 i8
    refine Eq.trans ?_ (z26_l9_ok (kBlockP 2 (E_z26.cutb 2) (kSeq (evCP E_z26 (evLP E_z26 n) (sub C_z26 [1, 1, 1, 1, 1, 1, 1])) (kFnP E_z26 R_z26))) n l0 soft5 out6 strange7 i8).symm
    rw [show (fun soft5 out6 strange7 => (kBlockP 2 (E_z26.cutb 2) (kSeq (evCP E_z26 (evLP E_z26 n) (sub C_z26 [1, 1, 1, 1, 1, 1, 1])) (kFnP E_z26 R_z26))) (.exit 2) (frOf [(5, (.dat .bool soft5 none)), (6, (.dat (.sl .byte) out6 (some (6, 5)))), (7, (.dat (.int .i64) strange7 none))])) = (z26_k9_2 n) from by
      funext soft5 out6 strange7
      exact z26_k9_2_ok n soft5 out6 strange7]
    all_goals kernel_rfl]
  kernel_rfl
theorem z26_ev (n : Nat) (l0 : List UInt8) (o0 : Lab) : evFnP E_z26 n C_z26 R_z26 [.dat (.sl .byte) l0 o0] = z26_sh n l0 := by
  unfold z26_sh
  rw [show z26_l1 (z26_k1_0 n) n = (fun l0 => evLP E_z26 n (sub C_z26 [1, 0, 0, 0]) (kBlockP 0 (E_z26.cutb 0) (kSeq (evCP E_z26 (evLP E_z26 n) (sub C_z26 [1, 1])) (kFnP E_z26 R_z26))) (frOf [(0, (.dat (.sl .byte) l0 none))])) from by
    funext l0
    refine Eq.trans ?_ (z26_l1_ok (kBlockP 0 (E_z26.cutb 0) (kSeq (evCP E_z26 (evLP E_z26 n) (sub C_z26 [1, 1])) (kFnP E_z26 R_z26))) n l0).symm
    rw [show (fun l0 => (kBlockP 0 (E_z26.cutb 0) (kSeq (evCP E_z26 (evLP E_z26 n) (sub C_z26 [1, 1])) (kFnP E_z26 R_z26))) (.exit 0) (frOf [(0, (.dat (.sl .byte) l0 none))])) = (z26_k1_0 n) from by
      funext l0
      exact z26_k1_0_ok n l0]
    all_goals kernel_rfl]
  kernel_rfl
theorem z26_sound : SoundG G Tryd.prog 26 s_z26 := by
  refine sound_of_evP' G_stays (E := E_z26) (fn := Tryd.f26) (c := C_z26) (tyOk_of_table rfl tis_ok) (fun w S hg => ⟨⟨(fns_cons (z43_sound w S hg) (fns_cons (z47_sound w S hg) fns_nil)), fun f sp h => cns_nil f sp h w S⟩, gl_none w S hg, (fun _ _ h => by cases h), (fun f sp h => rns_nil f sp h), (fun f it h => its_nil f it h)⟩) follows Tryd.func26 (by kernel_rfl) (by kernel_rfl) (by kernel_rfl) ?_
  intro avs r h
  unfold s_z26 at h
  split at h
  · simp only [Prod.mk.injEq] at h
    obtain ⟨hp, rfl⟩ := h
    obtain ⟨n, hn⟩ := z26_math _ hp
    exact ⟨n, _, (z26_ev n _ _).trans hn, .inl rfl⟩
  · cases h
end Go.Av
