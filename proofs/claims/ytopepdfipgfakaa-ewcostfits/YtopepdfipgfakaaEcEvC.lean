import Derived.Test.YtopepdfipgfakaaEcEvB
import Derived.Test.YtopepdfipgfakaaEcN
import Derived.Test.YtopepdfipgfakaaProg
import Derived.KernelRfl
namespace Go.Av
open Go.Proofs
set_option maxRecDepth 100000
set_option linter.unusedVariables false
/-! sheave/sheaveref03.Is -/

noncomputable def E_ref03_Is : EnvP := ⟨⟨tiOf tis, fnsOf [(73, s_ref03_Surrogate)], cnsOf [], [], 14, (fun _ => none), (fun _ => none), some [2]⟩, fun _ => none, fun _ => none, fun _ => [], fun _ => none⟩
noncomputable def C_ref03_Is : Code := Try.f58.body.getD .skip
noncomputable def R_ref03_Is : Array ResultVar := Try.f58.results
theorem ref03_Is_ev (n : Nat) (c0 : Int) (o0 : Lab) : evFnP E_ref03_Is n C_ref03_Is R_ref03_Is [.dat (.int .i32) c0 o0] = ref03_Is_sh n c0 := by
  kernel_rfl
theorem ref03_Is_sound : SoundG G Try.prog 58 s_ref03_Is := by
  refine sound_of_evP' G_stays (E := E_ref03_Is) (fn := Try.f58) (c := C_ref03_Is) (tyOk_of_table rfl tis_ok) (fun w S hg => ⟨⟨(fns_cons (ref03_Surrogate_sound w S hg) fns_nil), fun f sp h => cns_nil f sp h w S⟩, gl_none w S hg, fun _ _ h => by cases h⟩) follows Try.func58 (by kernel_rfl) (by kernel_rfl) (by kernel_rfl) ?_
  intro avs r h
  unfold s_ref03_Is at h
  split at h
  · simp only [Prod.mk.injEq, true_and] at h
    subst h
    obtain ⟨n, hn⟩ := ref03_Is_math _
    exact ⟨n, _, (ref03_Is_ev n _ _).trans hn, .inl rfl⟩
  · cases h

/-! sheave/sheaveref08.Sign -/

noncomputable def E_ref08_Sign : EnvP := ⟨⟨tiOf tis, fnsOf [], cnsOf [], [], 5, (fun _ => none), (fun _ => none), some [2]⟩, fun _ => none, fun _ => none, fun _ => [], fun _ => none⟩
noncomputable def C_ref08_Sign : Code := Try.f59.body.getD .skip
noncomputable def R_ref08_Sign : Array ResultVar := Try.f59.results
theorem ref08_Sign_ev (n : Nat) (x0 : UInt8) (o0 : Lab) : evFnP E_ref08_Sign n C_ref08_Sign R_ref08_Sign [.dat .byte x0 o0] = ref08_Sign_sh n x0 := by
  kernel_rfl
theorem ref08_Sign_sound : SoundG G Try.prog 59 s_ref08_Sign := by
  refine sound_of_evP' G_stays (E := E_ref08_Sign) (fn := Try.f59) (c := C_ref08_Sign) (tyOk_of_table rfl tis_ok) (fun w S hg => ⟨⟨fns_nil, fun f sp h => cns_nil f sp h w S⟩, gl_none w S hg, fun _ _ h => by cases h⟩) follows Try.func59 (by kernel_rfl) (by kernel_rfl) (by kernel_rfl) ?_
  intro avs r h
  unfold s_ref08_Sign at h
  split at h
  · simp only [Prod.mk.injEq, true_and] at h
    subst h
    obtain ⟨n, hn⟩ := ref08_Sign_math _
    exact ⟨n, _, (ref08_Sign_ev n _ _).trans hn, .inl rfl⟩
  · cases h

/-! sheave/sheaveref09.Sign -/

noncomputable def E_ref09_Sign : EnvP := ⟨⟨tiOf tis, fnsOf [], cnsOf [], [], 22, (fun _ => none), (fun x => if x = 0 then some [0] else none), some [2]⟩, fun _ => none, fun _ => none, fun _ => [], fun _ => none⟩
noncomputable def C_ref09_Sign : Code := Try.f60.body.getD .skip
noncomputable def R_ref09_Sign : Array ResultVar := Try.f60.results
theorem ref09_Sign_ev (n : Nat) (x0 : UInt8) (o0 : Lab) : evFnP E_ref09_Sign n C_ref09_Sign R_ref09_Sign [.dat .byte x0 o0] = ref09_Sign_sh n x0 := by
  kernel_rfl
theorem ref09_Sign_sound : SoundG G Try.prog 60 s_ref09_Sign := by
  refine sound_of_evP' G_stays (E := E_ref09_Sign) (fn := Try.f60) (c := C_ref09_Sign) (tyOk_of_table rfl tis_ok) (fun w S hg => ⟨⟨fns_nil, fun f sp h => cns_nil f sp h w S⟩, gl_none w S hg, fun _ _ h => by cases h⟩) follows Try.func60 (by kernel_rfl) (by kernel_rfl) (by kernel_rfl) ?_
  intro avs r h
  unfold s_ref09_Sign at h
  split at h
  · simp only [Prod.mk.injEq, true_and] at h
    subst h
    obtain ⟨n, hn⟩ := ref09_Sign_math _
    exact ⟨n, _, (ref09_Sign_ev n _ _).trans hn, .inl rfl⟩
  · cases h

/-! sheave/sheaveref10.Sign -/

noncomputable def E_ref10_Sign : EnvP := ⟨⟨tiOf tis, fnsOf [], cnsOf [], [], 18, (fun _ => none), (fun _ => none), some [2]⟩, fun _ => none, fun _ => none, fun _ => [], fun _ => none⟩
noncomputable def C_ref10_Sign : Code := Try.f61.body.getD .skip
noncomputable def R_ref10_Sign : Array ResultVar := Try.f61.results
theorem ref10_Sign_ev (n : Nat) (x0 : UInt8) (o0 : Lab) : evFnP E_ref10_Sign n C_ref10_Sign R_ref10_Sign [.dat .byte x0 o0] = ref10_Sign_sh n x0 := by
  kernel_rfl
theorem ref10_Sign_sound : SoundG G Try.prog 61 s_ref10_Sign := by
  refine sound_of_evP' G_stays (E := E_ref10_Sign) (fn := Try.f61) (c := C_ref10_Sign) (tyOk_of_table rfl tis_ok) (fun w S hg => ⟨⟨fns_nil, fun f sp h => cns_nil f sp h w S⟩, gl_none w S hg, fun _ _ h => by cases h⟩) follows Try.func61 (by kernel_rfl) (by kernel_rfl) (by kernel_rfl) ?_
  intro avs r h
  unfold s_ref10_Sign at h
  split at h
  · simp only [Prod.mk.injEq, true_and] at h
    subst h
    obtain ⟨n, hn⟩ := ref10_Sign_math _
    exact ⟨n, _, (ref10_Sign_ev n _ _).trans hn, .inl rfl⟩
  · cases h

/-! sheave/sheaveref01.Is -/

noncomputable def E_ref01_Is : EnvP := ⟨⟨tiOf tis, fnsOf [(71, s_ref01_Kinds)], cnsOf [], [], 10, (fun _ => none), (fun _ => none), some [4]⟩, fun _ => none, fun _ => none, fun _ => [], fun _ => none⟩
noncomputable def C_ref01_Is : Code := Try.f56.body.getD .skip
noncomputable def R_ref01_Is : Array ResultVar := Try.f56.results
theorem ref01_Is_ev (n : Nat) (c0 : UInt8) (o0 : Lab) (kinds1 : Int) (o1 : Lab) : evFnP E_ref01_Is n C_ref01_Is R_ref01_Is [.dat .byte c0 o0, .dat (.int .i64) kinds1 o1] = ref01_Is_sh n c0 kinds1 := by
  kernel_rfl
theorem ref01_Is_sound : SoundG G Try.prog 56 s_ref01_Is := by
  refine sound_of_evP' G_stays (E := E_ref01_Is) (fn := Try.f56) (c := C_ref01_Is) (tyOk_of_table rfl tis_ok) (fun w S hg => ⟨⟨(fns_cons (ref01_Kinds_sound w S hg) fns_nil), fun f sp h => cns_nil f sp h w S⟩, gl_none w S hg, fun _ _ h => by cases h⟩) follows Try.func56 (by kernel_rfl) (by kernel_rfl) (by kernel_rfl) ?_
  intro avs r h
  unfold s_ref01_Is at h
  split at h
  · simp only [Prod.mk.injEq, true_and] at h
    subst h
    obtain ⟨n, hn⟩ := ref01_Is_math _ _
    exact ⟨n, _, (ref01_Is_ev n _ _ _ _).trans hn, .inl rfl⟩
  · cases h

/-! sheave/sheaveref02.Put -/

noncomputable def E_ref02_Put : EnvP := ⟨⟨tiOf tis, fnsOf [(72, s_ref02_Digit)], cnsOf [], [], 20, (fun _ => none), (fun _ => none), some [6]⟩, fun _ => none, fun _ => none, fun _ => [], fun _ => none⟩
noncomputable def C_ref02_Put : Code := Try.f57.body.getD .skip
noncomputable def R_ref02_Put : Array ResultVar := Try.f57.results
theorem ref02_Put_ev (n : Nat) (b0 : List UInt8) (o0 : Lab) (sign1 : UInt8) (o1 : Lab) (c2 : UInt8) (o2 : Lab) : evFnP E_ref02_Put n C_ref02_Put R_ref02_Put [.dat (.sl .byte) b0 o0, .dat .byte sign1 o1, .dat .byte c2 o2] = ref02_Put_sh n b0 sign1 c2 := by
  kernel_rfl
theorem ref02_Put_sound : SoundG G Try.prog 57 s_ref02_Put := by
  refine sound_of_evP' G_stays (E := E_ref02_Put) (fn := Try.f57) (c := C_ref02_Put) (tyOk_of_table rfl tis_ok) (fun w S hg => ⟨⟨(fns_cons (ref02_Digit_sound w S hg) fns_nil), fun f sp h => cns_nil f sp h w S⟩, gl_none w S hg, fun _ _ h => by cases h⟩) follows Try.func57 (by kernel_rfl) (by kernel_rfl) (by kernel_rfl) ?_
  intro avs r h
  unfold s_ref02_Put at h
  split at h
  · simp only [Prod.mk.injEq] at h
    obtain ⟨hp, rfl⟩ := h
    obtain ⟨n, hn⟩ := ref02_Put_math _ _ _ hp
    exact ⟨n, _, (ref02_Put_ev n _ _ _ _ _ _).trans hn, .inl rfl⟩
  · cases h

/-! sheave/reper.Lacks -/

noncomputable def E_reper_Lacks : EnvP := ⟨⟨tiOf tis, fnsOf [(74, s_reper_Has)], cnsOf [], [], 20, (fun x => if x = 2 then some [0, 7, 8, 9] else none), (fun x => if x = 0 then some [] else if x = 1 then some [0, 7, 8, 9] else none), some [4]⟩, fun _ => none, fun _ => none, fun _ => [], fun _ => none⟩
noncomputable def C_reper_Lacks : Code := Try.f62.body.getD .skip
noncomputable def R_reper_Lacks : Array ResultVar := Try.f62.results
theorem reper_Lacks_l2_ok (K : Ex → Fr → Option AV) : ∀ (n : Nat) (charset0 : Int) (s7 : List Int) (s8 : Int) (s9 : Int), evLP E_reper_Lacks n (sub C_reper_Lacks [1, 0, 1, 0, 0]) K (frOf [(0, (.dat (.int .i64) charset0 none)), (7, (.dat (.sl (.int .i32)) s7 none)), (8, (.dat (.int .i64) s8 none)), (9, (.dat (.int .i64) s9 none))]) = reper_Lacks_l2 (fun s4 => K .ret (frOf [(4, (.dat (.int .i64) s4 none))])) (K (.exit 0) (frOf [])) n charset0 s7 s8 s9 := by
  intro n
  induction n with
  | zero => intros; rfl
  | succ n IH =>
  intro charset0 s7 s8 s9
  have ih : (fun charset0 s7 s8 s9 => evLP E_reper_Lacks n (sub C_reper_Lacks [1, 0, 1, 0, 0]) K (frOf [(0, (.dat (.int .i64) charset0 none)), (7, (.dat (.sl (.int .i32)) s7 none)), (8, (.dat (.int .i64) s8 none)), (9, (.dat (.int .i64) s9 none))])) = reper_Lacks_l2 (fun s4 => K .ret (frOf [(4, (.dat (.int .i64) s4 none))])) (K (.exit 0) (frOf [])) n := by
    funext charset0 s7 s8 s9
    exact IH charset0 s7 s8 s9
  show _ = reper_Lacks_l2_b (fun s4 => K .ret (frOf [(4, (.dat (.int .i64) s4 none))])) (K (.exit 0) (frOf [])) (reper_Lacks_l2 (fun s4 => K .ret (frOf [(4, (.dat (.int .i64) s4 none))])) (K (.exit 0) (frOf [])) n) n charset0 s7 s8 s9
  rw [← ih]
  kernel_rfl
theorem reper_Lacks_k2_0_ok (n : Nat)  : (kBlockP 0 (E_reper_Lacks.cutb 0) (kSeq (evCP E_reper_Lacks (evLP E_reper_Lacks n) (sub C_reper_Lacks [1, 1])) (kFnP E_reper_Lacks R_reper_Lacks))) (.exit 0) (frOf []) = reper_Lacks_k2_0 n  := by
  kernel_rfl
theorem reper_Lacks_ev (n : Nat) (charset0 : Int) (o0 : Lab) (t1 : List Int) (o1 : Lab) : evFnP E_reper_Lacks n C_reper_Lacks R_reper_Lacks [.dat (.int .i64) charset0 o0, .dat (.sl (.int .i32)) t1 o1] = reper_Lacks_sh n charset0 t1 := by
  unfold reper_Lacks_sh
  rw [show reper_Lacks_l2 reper_Lacks_ret (reper_Lacks_k2_0 n) n = (fun charset0 s7 s8 s9 => evLP E_reper_Lacks n (sub C_reper_Lacks [1, 0, 1, 0, 0]) (kBlockP 0 (E_reper_Lacks.cutb 0) (kSeq (evCP E_reper_Lacks (evLP E_reper_Lacks n) (sub C_reper_Lacks [1, 1])) (kFnP E_reper_Lacks R_reper_Lacks))) (frOf [(0, (.dat (.int .i64) charset0 none)), (7, (.dat (.sl (.int .i32)) s7 none)), (8, (.dat (.int .i64) s8 none)), (9, (.dat (.int .i64) s9 none))])) from by
    funext charset0 s7 s8 s9
    refine Eq.trans ?_ (reper_Lacks_l2_ok (kBlockP 0 (E_reper_Lacks.cutb 0) (kSeq (evCP E_reper_Lacks (evLP E_reper_Lacks n) (sub C_reper_Lacks [1, 1])) (kFnP E_reper_Lacks R_reper_Lacks))) n charset0 s7 s8 s9).symm
    rw [show ((kBlockP 0 (E_reper_Lacks.cutb 0) (kSeq (evCP E_reper_Lacks (evLP E_reper_Lacks n) (sub C_reper_Lacks [1, 1])) (kFnP E_reper_Lacks R_reper_Lacks))) (.exit 0) (frOf [])) = (reper_Lacks_k2_0 n) from by
      exact reper_Lacks_k2_0_ok n ]
    all_goals kernel_rfl]
  kernel_rfl
theorem reper_Lacks_sound : SoundG G Try.prog 62 s_reper_Lacks := by
  refine sound_of_evP' G_stays (E := E_reper_Lacks) (fn := Try.f62) (c := C_reper_Lacks) (tyOk_of_table rfl tis_ok) (fun w S hg => ⟨⟨(fns_cons (reper_Has_sound w S hg) fns_nil), fun f sp h => cns_nil f sp h w S⟩, gl_none w S hg, fun _ _ h => by cases h⟩) follows Try.func62 (by kernel_rfl) (by kernel_rfl) (by kernel_rfl) ?_
  intro avs r h
  unfold s_reper_Lacks at h
  split at h
  · simp only [Prod.mk.injEq] at h
    obtain ⟨hp, rfl⟩ := h
    obtain ⟨n, hn⟩ := reper_Lacks_math _ _ hp
    exact ⟨n, _, (reper_Lacks_ev n _ _ _ _).trans hn, .inl rfl⟩
  · cases h

/-! sheave/utfone.Len -/

noncomputable def E_utfone_Len : EnvP := ⟨⟨tiOf tis, fnsOf [(87, s_scalar_Is)], cnsOf [], [], 16, (fun _ => none), (fun x => if x = 0 then some [] else none), some [2]⟩, fun _ => none, fun _ => none, fun _ => [], fun _ => none⟩
noncomputable def C_utfone_Len : Code := Try.f76.body.getD .skip
noncomputable def R_utfone_Len : Array ResultVar := Try.f76.results
theorem utfone_Len_ev (n : Nat) (c0 : Int) (o0 : Lab) : evFnP E_utfone_Len n C_utfone_Len R_utfone_Len [.dat (.int .i32) c0 o0] = utfone_Len_sh n c0 := by
  kernel_rfl
theorem utfone_Len_sound : SoundG G Try.prog 76 s_utfone_Len := by
  refine sound_of_evP' G_stays (E := E_utfone_Len) (fn := Try.f76) (c := C_utfone_Len) (tyOk_of_table rfl tis_ok) (fun w S hg => ⟨⟨(fns_cons (scalar_Is_sound w S hg) fns_nil), fun f sp h => cns_nil f sp h w S⟩, gl_none w S hg, fun _ _ h => by cases h⟩) follows Try.func76 (by kernel_rfl) (by kernel_rfl) (by kernel_rfl) ?_
  intro avs r h
  unfold s_utfone_Len at h
  split at h
  · simp only [Prod.mk.injEq, true_and] at h
    subst h
    obtain ⟨n, hn⟩ := utfone_Len_math _
    exact ⟨n, _, (utfone_Len_ev n _ _).trans hn, .inl rfl⟩
  · cases h

/-! sheave/utfone.lead -/

noncomputable def E_utfone_lead : EnvP := ⟨⟨tiOf tis, fnsOf [], cnsOf [], [], 10, (fun _ => none), (fun x => if x = 0 then some [] else none), some [2]⟩, fun _ => none, fun _ => none, fun _ => [], fun _ => none⟩
noncomputable def C_utfone_lead : Code := Try.f78.body.getD .skip
noncomputable def R_utfone_lead : Array ResultVar := Try.f78.results
theorem utfone_lead_ev (n : Nat) (n0 : Int) (o0 : Lab) : evFnP E_utfone_lead n C_utfone_lead R_utfone_lead [.dat (.int .i64) n0 o0] = utfone_lead_sh n n0 := by
  kernel_rfl
theorem utfone_lead_sound : SoundG G Try.prog 78 s_utfone_lead := by
  refine sound_of_evP' G_stays (E := E_utfone_lead) (fn := Try.f78) (c := C_utfone_lead) (tyOk_of_table rfl tis_ok) (fun w S hg => ⟨⟨fns_nil, fun f sp h => cns_nil f sp h w S⟩, gl_none w S hg, fun _ _ h => by cases h⟩) follows Try.func78 (by kernel_rfl) (by kernel_rfl) (by kernel_rfl) ?_
  intro avs r h
  unfold s_utfone_lead at h
  split at h
  · simp only [Prod.mk.injEq, true_and] at h
    subst h
    obtain ⟨n, hn⟩ := utfone_lead_math _
    exact ⟨n, _, (utfone_lead_ev n _ _).trans hn, .inl rfl⟩
  · cases h

/-! sheave/utfone.Put -/

noncomputable def E_utfone_Put : EnvP := ⟨⟨tiOf tis, fnsOf [(76, s_utfone_Len), (77, s_bytes_Clone), (78, s_utfone_lead)], cnsOf [], [], 56, (fun _ => none), (fun x => if x = 0 then some [7] else if x = 1 then some [1, 7] else if x = 2 then some [1, 7] else if x = 3 then some [1, 7] else none), some [4, 5]⟩, fun _ => none, fun _ => none, fun _ => [], fun _ => none⟩
noncomputable def C_utfone_Put : Code := Try.f64.body.getD .skip
noncomputable def R_utfone_Put : Array ResultVar := Try.f64.results
theorem utfone_Put_ev (n : Nat) (b0 : List UInt8) (o0 : Lab) (c1 : Int) (o1 : Lab) : evFnP E_utfone_Put n C_utfone_Put R_utfone_Put [.dat (.sl .byte) b0 o0, .dat (.int .i32) c1 o1] = utfone_Put_sh n b0 c1 := by
  kernel_rfl
theorem utfone_Put_sound : SoundG G Try.prog 64 s_utfone_Put := by
  refine sound_of_evP' G_stays (E := E_utfone_Put) (fn := Try.f64) (c := C_utfone_Put) (tyOk_of_table rfl tis_ok) (fun w S hg => ⟨⟨(fns_cons (utfone_Len_sound w S hg) (fns_cons (bytes_Clone_sound w S hg) (fns_cons (utfone_lead_sound w S hg) fns_nil))), fun f sp h => cns_nil f sp h w S⟩, gl_none w S hg, fun _ _ h => by cases h⟩) follows Try.func64 (by kernel_rfl) (by kernel_rfl) (by kernel_rfl) ?_
  intro avs r h
  unfold s_utfone_Put at h
  split at h
  · simp only [Prod.mk.injEq] at h
    obtain ⟨hp, rfl⟩ := h
    obtain ⟨n, hn⟩ := utfone_Put_math _ _ hp
    exact ⟨n, _, (utfone_Put_ev n _ _ _ _).trans hn, .inl rfl⟩
  · cases h

/-! sheave/winone.Lacks -/

noncomputable def E_winone_Lacks : EnvP := ⟨⟨tiOf tis, fnsOf [(80, s_winone_Has)], cnsOf [], [], 17, (fun x => if x = 2 then some [5, 6, 7] else none), (fun x => if x = 0 then some [] else if x = 1 then some [5, 6, 7] else none), some [2]⟩, fun _ => none, fun _ => none, fun _ => [], fun _ => none⟩
noncomputable def C_winone_Lacks : Code := Try.f66.body.getD .skip
noncomputable def R_winone_Lacks : Array ResultVar := Try.f66.results
theorem winone_Lacks_l2_ok (K : Ex → Fr → Option AV) : ∀ (n : Nat) (s5 : List Int) (s6 : Int) (s7 : Int), evLP E_winone_Lacks n (sub C_winone_Lacks [1, 0, 1, 0, 0]) K (frOf [(5, (.dat (.sl (.int .i32)) s5 none)), (6, (.dat (.int .i64) s6 none)), (7, (.dat (.int .i64) s7 none))]) = winone_Lacks_l2 (fun s2 => K .ret (frOf [(2, (.dat (.int .i64) s2 none))])) (K (.exit 0) (frOf [])) n s5 s6 s7 := by
  intro n
  induction n with
  | zero => intros; rfl
  | succ n IH =>
  intro s5 s6 s7
  have ih : (fun s5 s6 s7 => evLP E_winone_Lacks n (sub C_winone_Lacks [1, 0, 1, 0, 0]) K (frOf [(5, (.dat (.sl (.int .i32)) s5 none)), (6, (.dat (.int .i64) s6 none)), (7, (.dat (.int .i64) s7 none))])) = winone_Lacks_l2 (fun s2 => K .ret (frOf [(2, (.dat (.int .i64) s2 none))])) (K (.exit 0) (frOf [])) n := by
    funext s5 s6 s7
    exact IH s5 s6 s7
  show _ = winone_Lacks_l2_b (fun s2 => K .ret (frOf [(2, (.dat (.int .i64) s2 none))])) (K (.exit 0) (frOf [])) (winone_Lacks_l2 (fun s2 => K .ret (frOf [(2, (.dat (.int .i64) s2 none))])) (K (.exit 0) (frOf [])) n) n s5 s6 s7
  rw [← ih]
  kernel_rfl
theorem winone_Lacks_k2_0_ok (n : Nat)  : (kBlockP 0 (E_winone_Lacks.cutb 0) (kSeq (evCP E_winone_Lacks (evLP E_winone_Lacks n) (sub C_winone_Lacks [1, 1])) (kFnP E_winone_Lacks R_winone_Lacks))) (.exit 0) (frOf []) = winone_Lacks_k2_0 n  := by
  kernel_rfl
theorem winone_Lacks_ev (n : Nat) (t0 : List Int) (o0 : Lab) : evFnP E_winone_Lacks n C_winone_Lacks R_winone_Lacks [.dat (.sl (.int .i32)) t0 o0] = winone_Lacks_sh n t0 := by
  unfold winone_Lacks_sh
  rw [show winone_Lacks_l2 winone_Lacks_ret (winone_Lacks_k2_0 n) n = (fun s5 s6 s7 => evLP E_winone_Lacks n (sub C_winone_Lacks [1, 0, 1, 0, 0]) (kBlockP 0 (E_winone_Lacks.cutb 0) (kSeq (evCP E_winone_Lacks (evLP E_winone_Lacks n) (sub C_winone_Lacks [1, 1])) (kFnP E_winone_Lacks R_winone_Lacks))) (frOf [(5, (.dat (.sl (.int .i32)) s5 none)), (6, (.dat (.int .i64) s6 none)), (7, (.dat (.int .i64) s7 none))])) from by
    funext s5 s6 s7
    refine Eq.trans ?_ (winone_Lacks_l2_ok (kBlockP 0 (E_winone_Lacks.cutb 0) (kSeq (evCP E_winone_Lacks (evLP E_winone_Lacks n) (sub C_winone_Lacks [1, 1])) (kFnP E_winone_Lacks R_winone_Lacks))) n s5 s6 s7).symm
    rw [show ((kBlockP 0 (E_winone_Lacks.cutb 0) (kSeq (evCP E_winone_Lacks (evLP E_winone_Lacks n) (sub C_winone_Lacks [1, 1])) (kFnP E_winone_Lacks R_winone_Lacks))) (.exit 0) (frOf [])) = (winone_Lacks_k2_0 n) from by
      exact winone_Lacks_k2_0_ok n ]
    all_goals kernel_rfl]
  kernel_rfl
theorem winone_Lacks_sound : SoundG G Try.prog 66 s_winone_Lacks := by
  refine sound_of_evP' G_stays (E := E_winone_Lacks) (fn := Try.f66) (c := C_winone_Lacks) (tyOk_of_table rfl tis_ok) (fun w S hg => ⟨⟨(fns_cons (winone_Has_sound w S hg) fns_nil), fun f sp h => cns_nil f sp h w S⟩, gl_none w S hg, fun _ _ h => by cases h⟩) follows Try.func66 (by kernel_rfl) (by kernel_rfl) (by kernel_rfl) ?_
  intro avs r h
  unfold s_winone_Lacks at h
  split at h
  · simp only [Prod.mk.injEq] at h
    obtain ⟨hp, rfl⟩ := h
    obtain ⟨n, hn⟩ := winone_Lacks_math _ hp
    exact ⟨n, _, (winone_Lacks_ev n _ _).trans hn, .inl rfl⟩
  · cases h

end Go.Av
