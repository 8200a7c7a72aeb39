import Derived.Test.YtejhjmmdachijaaDoorQpEvG
import Derived.Test.YtejhjmmdachijaaDoorQpN
import Derived.Test.YtejhjmmdachijaaDoorProg
import Derived.KernelRfl
namespace Go.Av
open Go.Proofs
set_option maxRecDepth 100000
set_option linter.unusedVariables false
/-! sheave/sheaveref18.Soft -/

noncomputable def E_ref18_Soft : EnvP := ⟨⟨tiOf tis, fnsOf [(35, s_ref18_Lines)], cnsOf [], [], 52, (fun x => if x = 4 then some [3, 4, 5, 6] else none), (fun x => if x = 0 then some [5] else if x = 1 then some [3, 4, 5, 6] else none), some [2]⟩, fun _ => none, fun _ => none, fun _ => [], fun _ => none⟩
noncomputable def C_ref18_Soft : Code := Tryd.f15.body.getD .skip
noncomputable def R_ref18_Soft : Array ResultVar := Tryd.f15.results
theorem ref18_Soft_l4_ok (K : Ex → Fr → Option AV) : ∀ (n : Nat) (l3 : List (List UInt8)) (ends4 : Bool) (n5 : Int) (i6 : Int), evLP E_ref18_Soft n (sub C_ref18_Soft [1, 1, 1, 0, 1, 0, 0]) K (frOf [(3, (.dat (.sl (.sl .byte)) l3 none)), (4, (.dat .bool ends4 none)), (5, (.dat (.int .i64) n5 none)), (6, (.dat (.int .i64) i6 none))]) = ref18_Soft_l4 (fun n5 => K (.exit 0) (frOf [(5, (.dat (.int .i64) n5 none))])) n l3 ends4 n5 i6 := by
  intro n
  induction n with
  | zero => intros; rfl
  | succ n IH =>
  intro l3 ends4 n5 i6
  have ih : (fun l3 ends4 n5 i6 => evLP E_ref18_Soft n (sub C_ref18_Soft [1, 1, 1, 0, 1, 0, 0]) K (frOf [(3, (.dat (.sl (.sl .byte)) l3 none)), (4, (.dat .bool ends4 none)), (5, (.dat (.int .i64) n5 none)), (6, (.dat (.int .i64) i6 none))])) = ref18_Soft_l4 (fun n5 => K (.exit 0) (frOf [(5, (.dat (.int .i64) n5 none))])) n := by
    funext l3 ends4 n5 i6
    exact IH l3 ends4 n5 i6
  show _ = ref18_Soft_l4_b (fun n5 => K (.exit 0) (frOf [(5, (.dat (.int .i64) n5 none))])) (ref18_Soft_l4 (fun n5 => K (.exit 0) (frOf [(5, (.dat (.int .i64) n5 none))])) n) n l3 ends4 n5 i6
  rw [← ih]
  kernel_rfl
theorem ref18_Soft_k4_0_ok (n : Nat) (n5 : Int) : (kBlockP 0 (E_ref18_Soft.cutb 0) (kSeq (evCP E_ref18_Soft (evLP E_ref18_Soft n) (sub C_ref18_Soft [1, 1, 1, 1])) (kFnP E_ref18_Soft R_ref18_Soft))) (.exit 0) (frOf [(5, (.dat (.int .i64) n5 none))]) = ref18_Soft_k4_0 n n5 := by
  kernel_rfl
theorem ref18_Soft_ev (n : Nat) (s0 : List UInt8) (o0 : Lab) : evFnP E_ref18_Soft n C_ref18_Soft R_ref18_Soft [.dat (.sl .byte) s0 o0] = ref18_Soft_sh n s0 := by
  unfold ref18_Soft_sh
  rw [show ref18_Soft_l4 (ref18_Soft_k4_0 n) n = (fun l3 ends4 n5 i6 => evLP E_ref18_Soft n (sub C_ref18_Soft [1, 1, 1, 0, 1, 0, 0]) (kBlockP 0 (E_ref18_Soft.cutb 0) (kSeq (evCP E_ref18_Soft (evLP E_ref18_Soft n) (sub C_ref18_Soft [1, 1, 1, 1])) (kFnP E_ref18_Soft R_ref18_Soft))) (frOf [(3, (.dat (.sl (.sl .byte)) l3 none)), (4, (.dat .bool ends4 none)), (5, (.dat (.int .i64) n5 none)), (6, (.dat (.int .i64) i6 none))])) from by
    funext l3 ends4 n5 i6
    refine Eq.trans ?_ (ref18_Soft_l4_ok (kBlockP 0 (E_ref18_Soft.cutb 0) (kSeq (evCP E_ref18_Soft (evLP E_ref18_Soft n) (sub C_ref18_Soft [1, 1, 1, 1])) (kFnP E_ref18_Soft R_ref18_Soft))) n l3 ends4 n5 i6).symm
    rw [show (fun n5 => (kBlockP 0 (E_ref18_Soft.cutb 0) (kSeq (evCP E_ref18_Soft (evLP E_ref18_Soft n) (sub C_ref18_Soft [1, 1, 1, 1])) (kFnP E_ref18_Soft R_ref18_Soft))) (.exit 0) (frOf [(5, (.dat (.int .i64) n5 none))])) = (ref18_Soft_k4_0 n) from by
      funext n5
      exact ref18_Soft_k4_0_ok n n5]
    all_goals kernel_rfl]
  kernel_rfl
theorem ref18_Soft_sound : SoundG G Tryd.prog 15 s_ref18_Soft := by
  refine sound_of_evP' G_stays (E := E_ref18_Soft) (fn := Tryd.f15) (c := C_ref18_Soft) (tyOk_of_table rfl tis_ok) (fun w S hg => ⟨⟨(fns_cons (ref18_Lines_sound w S hg) fns_nil), fun f sp h => cns_nil f sp h w S⟩, gl_none w S hg, fun _ _ h => by cases h⟩) follows Tryd.func15 (by kernel_rfl) (by kernel_rfl) (by kernel_rfl) ?_
  intro avs r h
  unfold s_ref18_Soft at h
  split at h
  · simp only [Prod.mk.injEq] at h
    obtain ⟨hp, rfl⟩ := h
    obtain ⟨n, hn⟩ := ref18_Soft_math _ hp
    exact ⟨n, _, (ref18_Soft_ev n _ _).trans hn, .inl rfl⟩
  · cases h

/-! sheave/sheavelaw18.QpageChecks -/

noncomputable def E_law18_QpageChecks : EnvP := ⟨⟨tiOf tis, fnsOf [(11, s_law18_alive), (12, s_qpage_Check), (13, s_ref18_Check), (14, s_qpage_Soft), (15, s_ref18_Soft)], cnsOf [], [], 22, (fun _ => none), (fun _ => none), some [2]⟩, fun _ => none, fun _ => none, fun _ => [], fun _ => none⟩
noncomputable def C_law18_QpageChecks : Code := Tryd.f3.body.getD .skip
noncomputable def R_law18_QpageChecks : Array ResultVar := Tryd.f3.results
theorem law18_QpageChecks_ev (n : Nat) (s0 : List UInt8) (o0 : Lab) : evFnP E_law18_QpageChecks n C_law18_QpageChecks R_law18_QpageChecks [.dat (.sl .byte) s0 o0] = law18_QpageChecks_sh n s0 := by
  kernel_rfl
theorem law18_QpageChecks_sound : SoundG G Tryd.prog 3 s_law18_QpageChecks := by
  refine sound_of_evP' G_stays (E := E_law18_QpageChecks) (fn := Tryd.f3) (c := C_law18_QpageChecks) (tyOk_of_table rfl tis_ok) (fun w S hg => ⟨⟨(fns_cons (law18_alive_sound w S hg) (fns_cons (qpage_Check_sound w S hg) (fns_cons (ref18_Check_sound w S hg) (fns_cons (qpage_Soft_sound w S hg) (fns_cons (ref18_Soft_sound w S hg) fns_nil))))), fun f sp h => cns_nil f sp h w S⟩, gl_none w S hg, fun _ _ h => by cases h⟩) follows Tryd.func3 (by kernel_rfl) (by kernel_rfl) (by kernel_rfl) ?_
  intro avs r h
  unfold s_law18_QpageChecks at h
  split at h
  · simp only [Prod.mk.injEq, true_and] at h
    subst h
    obtain ⟨n, hn⟩ := law18_QpageChecks_math _
    exact ⟨n, _, (law18_QpageChecks_ev n _ _).trans hn, .inl rfl⟩
  · cases h

/-! sheave/sheavelaw18.QpageRight -/

noncomputable def E_law18_QpageRight : EnvP := ⟨⟨tiOf tis, fnsOf [(11, s_law18_alive), (12, s_qpage_Check), (16, s_qpage_Lay)], cnsOf [], [], 66, (fun x => if x = 5 then some [0, 3, 12, 13, 14] else none), (fun x => if x = 0 then some [0, 3] else if x = 1 then some [0, 3, 12, 13, 14] else none), some [2]⟩, fun _ => none, fun _ => none, fun _ => [], fun _ => none⟩
noncomputable def C_law18_QpageRight : Code := Tryd.f4.body.getD .skip
noncomputable def R_law18_QpageRight : Array ResultVar := Tryd.f4.results
theorem law18_QpageRight_l5_ok (K : Ex → Fr → Option AV) : ∀ (n : Nat) (s0 : List UInt8) (a3 : List UInt8) (s12 : List UInt8) (s13 : Int) (s14 : Int), evLP E_law18_QpageRight n (sub C_law18_QpageRight [1, 1, 1, 0, 1, 0, 0]) K (frOf [(0, (.dat (.sl .byte) s0 none)), (3, (.dat (.sl .byte) a3 none)), (12, (.dat (.sl .byte) s12 none)), (13, (.dat (.int .i64) s13 none)), (14, (.dat (.int .i64) s14 none))]) = law18_QpageRight_l5 (fun s2 => K .ret (frOf [(2, (.dat .bool s2 none))])) (fun s0 a3 => K (.exit 0) (frOf [(0, (.dat (.sl .byte) s0 none)), (3, (.dat (.sl .byte) a3 none))])) n s0 a3 s12 s13 s14 := by
  intro n
  induction n with
  | zero => intros; rfl
  | succ n IH =>
  intro s0 a3 s12 s13 s14
  have ih : (fun s0 a3 s12 s13 s14 => evLP E_law18_QpageRight n (sub C_law18_QpageRight [1, 1, 1, 0, 1, 0, 0]) K (frOf [(0, (.dat (.sl .byte) s0 none)), (3, (.dat (.sl .byte) a3 none)), (12, (.dat (.sl .byte) s12 none)), (13, (.dat (.int .i64) s13 none)), (14, (.dat (.int .i64) s14 none))])) = law18_QpageRight_l5 (fun s2 => K .ret (frOf [(2, (.dat .bool s2 none))])) (fun s0 a3 => K (.exit 0) (frOf [(0, (.dat (.sl .byte) s0 none)), (3, (.dat (.sl .byte) a3 none))])) n := by
    funext s0 a3 s12 s13 s14
    exact IH s0 a3 s12 s13 s14
  show _ = law18_QpageRight_l5_b (fun s2 => K .ret (frOf [(2, (.dat .bool s2 none))])) (fun s0 a3 => K (.exit 0) (frOf [(0, (.dat (.sl .byte) s0 none)), (3, (.dat (.sl .byte) a3 none))])) (law18_QpageRight_l5 (fun s2 => K .ret (frOf [(2, (.dat .bool s2 none))])) (fun s0 a3 => K (.exit 0) (frOf [(0, (.dat (.sl .byte) s0 none)), (3, (.dat (.sl .byte) a3 none))])) n) n s0 a3 s12 s13 s14
  rw [← ih]
  kernel_rfl
theorem law18_QpageRight_k5_0_ok (n : Nat) (s0 : List UInt8) (a3 : List UInt8) : (kBlockP 0 (E_law18_QpageRight.cutb 0) (kSeq (evCP E_law18_QpageRight (evLP E_law18_QpageRight n) (sub C_law18_QpageRight [1, 1, 1, 1])) (kFnP E_law18_QpageRight R_law18_QpageRight))) (.exit 0) (frOf [(0, (.dat (.sl .byte) s0 none)), (3, (.dat (.sl .byte) a3 none))]) = law18_QpageRight_k5_0 n s0 a3 := by
  kernel_rfl
theorem law18_QpageRight_ev (n : Nat) (s0 : List UInt8) (o0 : Lab) : evFnP E_law18_QpageRight n C_law18_QpageRight R_law18_QpageRight [.dat (.sl .byte) s0 o0] = law18_QpageRight_sh n s0 := by
  unfold law18_QpageRight_sh
  rw [show law18_QpageRight_l5 law18_QpageRight_ret (law18_QpageRight_k5_0 n) n = (fun s0 a3 s12 s13 s14 => evLP E_law18_QpageRight n (sub C_law18_QpageRight [1, 1, 1, 0, 1, 0, 0]) (kBlockP 0 (E_law18_QpageRight.cutb 0) (kSeq (evCP E_law18_QpageRight (evLP E_law18_QpageRight n) (sub C_law18_QpageRight [1, 1, 1, 1])) (kFnP E_law18_QpageRight R_law18_QpageRight))) (frOf [(0, (.dat (.sl .byte) s0 none)), (3, (.dat (.sl .byte) a3 none)), (12, (.dat (.sl .byte) s12 none)), (13, (.dat (.int .i64) s13 none)), (14, (.dat (.int .i64) s14 none))])) from by
    funext s0 a3 s12 s13 s14
    refine Eq.trans ?_ (law18_QpageRight_l5_ok (kBlockP 0 (E_law18_QpageRight.cutb 0) (kSeq (evCP E_law18_QpageRight (evLP E_law18_QpageRight n) (sub C_law18_QpageRight [1, 1, 1, 1])) (kFnP E_law18_QpageRight R_law18_QpageRight))) n s0 a3 s12 s13 s14).symm
    rw [show (fun s0 a3 => (kBlockP 0 (E_law18_QpageRight.cutb 0) (kSeq (evCP E_law18_QpageRight (evLP E_law18_QpageRight n) (sub C_law18_QpageRight [1, 1, 1, 1])) (kFnP E_law18_QpageRight R_law18_QpageRight))) (.exit 0) (frOf [(0, (.dat (.sl .byte) s0 none)), (3, (.dat (.sl .byte) a3 none))])) = (law18_QpageRight_k5_0 n) from by
      funext s0 a3
      exact law18_QpageRight_k5_0_ok n s0 a3]
    all_goals kernel_rfl]
  kernel_rfl
theorem law18_QpageRight_sound : SoundG G Tryd.prog 4 s_law18_QpageRight := by
  refine sound_of_evP' G_stays (E := E_law18_QpageRight) (fn := Tryd.f4) (c := C_law18_QpageRight) (tyOk_of_table rfl tis_ok) (fun w S hg => ⟨⟨(fns_cons (law18_alive_sound w S hg) (fns_cons (qpage_Check_sound w S hg) (fns_cons (qpage_Lay_sound w S hg) fns_nil))), fun f sp h => cns_nil f sp h w S⟩, gl_none w S hg, fun _ _ h => by cases h⟩) follows Tryd.func4 (by kernel_rfl) (by kernel_rfl) (by kernel_rfl) ?_
  intro avs r h
  unfold s_law18_QpageRight at h
  split at h
  · simp only [Prod.mk.injEq, true_and] at h
    subst h
    obtain ⟨n, hn⟩ := law18_QpageRight_math _
    exact ⟨n, _, (law18_QpageRight_ev n _ _).trans hn, .inl rfl⟩
  · cases h

/-! sheave/sheavelaw18.QpageBreaks -/

noncomputable def E_law18_QpageBreaks : EnvP := ⟨⟨tiOf tis, fnsOf [(11, s_law18_alive), (14, s_qpage_Soft), (16, s_qpage_Lay), (17, s_qpage_Breaks), (18, s_ref01_Like)], cnsOf [], [], 62, (fun x => if x = 6 then some [0, 3, 4, 17, 18, 19] else if x = 14 then some [3, 4, 7, 8, 30, 31, 32] else none), (fun x => if x = 0 then some [0, 3, 4] else if x = 1 then some [0, 3, 4, 17, 18, 19] else if x = 2 then some [3, 4, 7, 8] else if x = 3 then some [3, 4, 7, 8, 30, 31, 32] else none), some [2]⟩, fun _ => none, fun _ => none, fun _ => [], fun _ => none⟩
noncomputable def C_law18_QpageBreaks : Code := Tryd.f5.body.getD .skip
noncomputable def R_law18_QpageBreaks : Array ResultVar := Tryd.f5.results
theorem law18_QpageBreaks_l6_ok (K : Ex → Fr → Option AV) : ∀ (n : Nat) (s0 : List UInt8) (b3 : List UInt8) (hard4 : Int) (s17 : List UInt8) (s18 : Int) (s19 : Int), evLP E_law18_QpageBreaks n (sub C_law18_QpageBreaks [1, 1, 1, 1, 0, 1, 0, 0]) K (frOf [(0, (.dat (.sl .byte) s0 none)), (3, (.dat (.sl .byte) b3 (some (3, 5)))), (4, (.dat (.int .i64) hard4 none)), (17, (.dat (.sl .byte) s17 (some (3, 5)))), (18, (.dat (.int .i64) s18 none)), (19, (.dat (.int .i64) s19 none))]) = law18_QpageBreaks_l6 (fun s0 b3 hard4 => K (.exit 0) (frOf [(0, (.dat (.sl .byte) s0 none)), (3, (.dat (.sl .byte) b3 (some (3, 5)))), (4, (.dat (.int .i64) hard4 none))])) n s0 b3 hard4 s17 s18 s19 := by
  intro n
  induction n with
  | zero => intros; rfl
  | succ n IH =>
  intro s0 b3 hard4 s17 s18 s19
  have ih : (fun s0 b3 hard4 s17 s18 s19 => evLP E_law18_QpageBreaks n (sub C_law18_QpageBreaks [1, 1, 1, 1, 0, 1, 0, 0]) K (frOf [(0, (.dat (.sl .byte) s0 none)), (3, (.dat (.sl .byte) b3 (some (3, 5)))), (4, (.dat (.int .i64) hard4 none)), (17, (.dat (.sl .byte) s17 (some (3, 5)))), (18, (.dat (.int .i64) s18 none)), (19, (.dat (.int .i64) s19 none))])) = law18_QpageBreaks_l6 (fun s0 b3 hard4 => K (.exit 0) (frOf [(0, (.dat (.sl .byte) s0 none)), (3, (.dat (.sl .byte) b3 (some (3, 5)))), (4, (.dat (.int .i64) hard4 none))])) n := by
    funext s0 b3 hard4 s17 s18 s19
    exact IH s0 b3 hard4 s17 s18 s19
  show _ = law18_QpageBreaks_l6_b (fun s0 b3 hard4 => K (.exit 0) (frOf [(0, (.dat (.sl .byte) s0 none)), (3, (.dat (.sl .byte) b3 (some (3, 5)))), (4, (.dat (.int .i64) hard4 none))])) (law18_QpageBreaks_l6 (fun s0 b3 hard4 => K (.exit 0) (frOf [(0, (.dat (.sl .byte) s0 none)), (3, (.dat (.sl .byte) b3 (some (3, 5)))), (4, (.dat (.int .i64) hard4 none))])) n) n s0 b3 hard4 s17 s18 s19
  rw [← ih]
  kernel_rfl
theorem law18_QpageBreaks_l14_ok (K : Ex → Fr → Option AV) : ∀ (n : Nat) (b3 : List UInt8) (hard4 : Int) (a7 : List UInt8) (ends8 : Int) (s30 : List UInt8) (s31 : Int) (s32 : Int), evLP E_law18_QpageBreaks n (sub C_law18_QpageBreaks [1, 1, 1, 1, 1, 1, 1, 0, 1, 0, 0]) K (frOf [(3, (.dat (.sl .byte) b3 (some (3, 5)))), (4, (.dat (.int .i64) hard4 none)), (7, (.dat (.sl .byte) a7 none)), (8, (.dat (.int .i64) ends8 none)), (30, (.dat (.sl .byte) s30 none)), (31, (.dat (.int .i64) s31 none)), (32, (.dat (.int .i64) s32 none))]) = law18_QpageBreaks_l14 (fun b3 hard4 a7 ends8 => K (.exit 2) (frOf [(3, (.dat (.sl .byte) b3 (some (3, 5)))), (4, (.dat (.int .i64) hard4 none)), (7, (.dat (.sl .byte) a7 none)), (8, (.dat (.int .i64) ends8 none))])) n b3 hard4 a7 ends8 s30 s31 s32 := by
  intro n
  induction n with
  | zero => intros; rfl
  | succ n IH =>
  intro b3 hard4 a7 ends8 s30 s31 s32
  have ih : (fun b3 hard4 a7 ends8 s30 s31 s32 => evLP E_law18_QpageBreaks n (sub C_law18_QpageBreaks [1, 1, 1, 1, 1, 1, 1, 0, 1, 0, 0]) K (frOf [(3, (.dat (.sl .byte) b3 (some (3, 5)))), (4, (.dat (.int .i64) hard4 none)), (7, (.dat (.sl .byte) a7 none)), (8, (.dat (.int .i64) ends8 none)), (30, (.dat (.sl .byte) s30 none)), (31, (.dat (.int .i64) s31 none)), (32, (.dat (.int .i64) s32 none))])) = law18_QpageBreaks_l14 (fun b3 hard4 a7 ends8 => K (.exit 2) (frOf [(3, (.dat (.sl .byte) b3 (some (3, 5)))), (4, (.dat (.int .i64) hard4 none)), (7, (.dat (.sl .byte) a7 none)), (8, (.dat (.int .i64) ends8 none))])) n := by
    funext b3 hard4 a7 ends8 s30 s31 s32
    exact IH b3 hard4 a7 ends8 s30 s31 s32
  show _ = law18_QpageBreaks_l14_b (fun b3 hard4 a7 ends8 => K (.exit 2) (frOf [(3, (.dat (.sl .byte) b3 (some (3, 5)))), (4, (.dat (.int .i64) hard4 none)), (7, (.dat (.sl .byte) a7 none)), (8, (.dat (.int .i64) ends8 none))])) (law18_QpageBreaks_l14 (fun b3 hard4 a7 ends8 => K (.exit 2) (frOf [(3, (.dat (.sl .byte) b3 (some (3, 5)))), (4, (.dat (.int .i64) hard4 none)), (7, (.dat (.sl .byte) a7 none)), (8, (.dat (.int .i64) ends8 none))])) n) n b3 hard4 a7 ends8 s30 s31 s32
  rw [← ih]
  kernel_rfl
theorem law18_QpageBreaks_k14_2_ok (n : Nat) (b3 : List UInt8) (hard4 : Int) (a7 : List UInt8) (ends8 : Int) : (kBlockP 2 (E_law18_QpageBreaks.cutb 2) (kSeq (evCP E_law18_QpageBreaks (evLP E_law18_QpageBreaks n) (sub C_law18_QpageBreaks [1, 1, 1, 1, 1, 1, 1, 1])) (kFnP E_law18_QpageBreaks R_law18_QpageBreaks))) (.exit 2) (frOf [(3, (.dat (.sl .byte) b3 (some (3, 5)))), (4, (.dat (.int .i64) hard4 none)), (7, (.dat (.sl .byte) a7 none)), (8, (.dat (.int .i64) ends8 none))]) = law18_QpageBreaks_k14_2 n b3 hard4 a7 ends8 := by
  kernel_rfl
theorem law18_QpageBreaks_k6_0_ok (n : Nat) (s0 : List UInt8) (b3 : List UInt8) (hard4 : Int) : (kBlockP 0 (E_law18_QpageBreaks.cutb 0) (kSeq (evCP E_law18_QpageBreaks (evLP E_law18_QpageBreaks n) (sub C_law18_QpageBreaks [1, 1, 1, 1, 1])) (kFnP E_law18_QpageBreaks R_law18_QpageBreaks))) (.exit 0) (frOf [(0, (.dat (.sl .byte) s0 none)), (3, (.dat (.sl .byte) b3 (some (3, 5)))), (4, (.dat (.int .i64) hard4 none))]) = law18_QpageBreaks_k6_0 n s0 b3 hard4 := by
  unfold law18_QpageBreaks_k6_0
  rw [show law18_QpageBreaks_l14 (law18_QpageBreaks_k14_2 n) n = (fun b3 hard4 a7 ends8 s30 s31 s32 => evLP E_law18_QpageBreaks n (sub C_law18_QpageBreaks [1, 1, 1, 1, 1, 1, 1, 0, 1, 0, 0]) (kBlockP 2 (E_law18_QpageBreaks.cutb 2) (kSeq (evCP E_law18_QpageBreaks (evLP E_law18_QpageBreaks n) (sub C_law18_QpageBreaks [1, 1, 1, 1, 1, 1, 1, 1])) (kFnP E_law18_QpageBreaks R_law18_QpageBreaks))) (frOf [(3, (.dat (.sl .byte) b3 (some (3, 5)))), (4, (.dat (.int .i64) hard4 none)), (7, (.dat (.sl .byte) a7 none)), (8, (.dat (.int .i64) ends8 none)), (30, (.dat (.sl .byte) s30 none)), (31, (.dat (.int .i64) s31 none)), (32, (.dat (.int .i64) s32 none))])) from by
    funext b3 hard4 a7 ends8 s30 s31 s32
    refine Eq.trans ?_ (law18_QpageBreaks_l14_ok (kBlockP 2 (E_law18_QpageBreaks.cutb 2) (kSeq (evCP E_law18_QpageBreaks (evLP E_law18_QpageBreaks n) (sub C_law18_QpageBreaks [1, 1, 1, 1, 1, 1, 1, 1])) (kFnP E_law18_QpageBreaks R_law18_QpageBreaks))) n b3 hard4 a7 ends8 s30 s31 s32).symm
    rw [show (fun b3 hard4 a7 ends8 => (kBlockP 2 (E_law18_QpageBreaks.cutb 2) (kSeq (evCP E_law18_QpageBreaks (evLP E_law18_QpageBreaks n) (sub C_law18_QpageBreaks [1, 1, 1, 1, 1, 1, 1, 1])) (kFnP E_law18_QpageBreaks R_law18_QpageBreaks))) (.exit 2) (frOf [(3, (.dat (.sl .byte) b3 (some (3, 5)))), (4, (.dat (.int .i64) hard4 none)), (7, (.dat (.sl .byte) a7 none)), (8, (.dat (.int .i64) ends8 none))])) = (law18_QpageBreaks_k14_2 n) from by
      funext b3 hard4 a7 ends8
      exact law18_QpageBreaks_k14_2_ok n b3 hard4 a7 ends8]
    all_goals kernel_rfl]
  kernel_rfl
theorem law18_QpageBreaks_ev (n : Nat) (s0 : List UInt8) (o0 : Lab) : evFnP E_law18_QpageBreaks n C_law18_QpageBreaks R_law18_QpageBreaks [.dat (.sl .byte) s0 o0] = law18_QpageBreaks_sh n s0 := by
  unfold law18_QpageBreaks_sh
  rw [show law18_QpageBreaks_l6 (law18_QpageBreaks_k6_0 n) n = (fun s0 b3 hard4 s17 s18 s19 => evLP E_law18_QpageBreaks n (sub C_law18_QpageBreaks [1, 1, 1, 1, 0, 1, 0, 0]) (kBlockP 0 (E_law18_QpageBreaks.cutb 0) (kSeq (evCP E_law18_QpageBreaks (evLP E_law18_QpageBreaks n) (sub C_law18_QpageBreaks [1, 1, 1, 1, 1])) (kFnP E_law18_QpageBreaks R_law18_QpageBreaks))) (frOf [(0, (.dat (.sl .byte) s0 none)), (3, (.dat (.sl .byte) b3 (some (3, 5)))), (4, (.dat (.int .i64) hard4 none)), (17, (.dat (.sl .byte) s17 (some (3, 5)))), (18, (.dat (.int .i64) s18 none)), (19, (.dat (.int .i64) s19 none))])) from by
    funext s0 b3 hard4 s17 s18 s19
    refine Eq.trans ?_ (law18_QpageBreaks_l6_ok (kBlockP 0 (E_law18_QpageBreaks.cutb 0) (kSeq (evCP E_law18_QpageBreaks (evLP E_law18_QpageBreaks n) (sub C_law18_QpageBreaks [1, 1, 1, 1, 1])) (kFnP E_law18_QpageBreaks R_law18_QpageBreaks))) n s0 b3 hard4 s17 s18 s19).symm
    rw [show (fun s0 b3 hard4 => (kBlockP 0 (E_law18_QpageBreaks.cutb 0) (kSeq (evCP E_law18_QpageBreaks (evLP E_law18_QpageBreaks n) (sub C_law18_QpageBreaks [1, 1, 1, 1, 1])) (kFnP E_law18_QpageBreaks R_law18_QpageBreaks))) (.exit 0) (frOf [(0, (.dat (.sl .byte) s0 none)), (3, (.dat (.sl .byte) b3 (some (3, 5)))), (4, (.dat (.int .i64) hard4 none))])) = (law18_QpageBreaks_k6_0 n) from by
      funext s0 b3 hard4
      exact law18_QpageBreaks_k6_0_ok n s0 b3 hard4]
    all_goals kernel_rfl]
  kernel_rfl
theorem law18_QpageBreaks_sound : SoundG G Tryd.prog 5 s_law18_QpageBreaks := by
  refine sound_of_evP' G_stays (E := E_law18_QpageBreaks) (fn := Tryd.f5) (c := C_law18_QpageBreaks) (tyOk_of_table rfl tis_ok) (fun w S hg => ⟨⟨(fns_cons (law18_alive_sound w S hg) (fns_cons (qpage_Soft_sound w S hg) (fns_cons (qpage_Lay_sound w S hg) (fns_cons (qpage_Breaks_sound w S hg) (fns_cons (ref01_Like_sound w S hg) fns_nil))))), fun f sp h => cns_nil f sp h w S⟩, gl_none w S hg, fun _ _ h => by cases h⟩) follows Tryd.func5 (by kernel_rfl) (by kernel_rfl) (by kernel_rfl) ?_
  intro avs r h
  unfold s_law18_QpageBreaks at h
  split at h
  · simp only [Prod.mk.injEq, true_and] at h
    subst h
    obtain ⟨n, hn⟩ := law18_QpageBreaks_math _
    exact ⟨n, _, (law18_QpageBreaks_ev n _ _).trans hn, .inl rfl⟩
  · cases h

end Go.Av
