import Derived.Test.YtopepdfipgfakaaEcEvC
import Derived.Test.YtopepdfipgfakaaEcN
import Derived.Test.YtopepdfipgfakaaProg
import Derived.KernelRfl
namespace Go.Av
open Go.Proofs
set_option maxRecDepth 100000
set_option linter.unusedVariables false
/-! sheave/latin.Lacks -/

noncomputable def E_latin_Lacks : EnvP := ⟨⟨tiOf tis, fnsOf [(83, s_latin_Has)], cnsOf [], [], 17, (fun x => if x = 2 then some [0, 5, 6] else none), (fun x => if x = 0 then some [] else if x = 1 then some [0, 5, 6] else none), some [2]⟩, fun _ => none, fun _ => none, fun _ => [], fun _ => none⟩
noncomputable def C_latin_Lacks : Code := Try.f68.body.getD .skip
noncomputable def R_latin_Lacks : Array ResultVar := Try.f68.results
theorem latin_Lacks_l2_ok (K : Ex → Fr → Option AV) : ∀ (n : Nat) (t0 : List Int) (s5 : Int) (s6 : Int), evLP E_latin_Lacks n (sub C_latin_Lacks [1, 0, 1, 0, 0]) K (frOf [(0, (.dat (.sl (.int .i32)) t0 none)), (5, (.dat (.int .i64) s5 none)), (6, (.dat (.int .i64) s6 none))]) = latin_Lacks_l2 (fun s2 => K .ret (frOf [(2, (.dat (.int .i64) s2 none))])) (K (.exit 0) (frOf [])) n t0 s5 s6 := by
  intro n
  induction n with
  | zero => intros; rfl
  | succ n IH =>
  intro t0 s5 s6
  have ih : (fun t0 s5 s6 => evLP E_latin_Lacks n (sub C_latin_Lacks [1, 0, 1, 0, 0]) K (frOf [(0, (.dat (.sl (.int .i32)) t0 none)), (5, (.dat (.int .i64) s5 none)), (6, (.dat (.int .i64) s6 none))])) = latin_Lacks_l2 (fun s2 => K .ret (frOf [(2, (.dat (.int .i64) s2 none))])) (K (.exit 0) (frOf [])) n := by
    funext t0 s5 s6
    exact IH t0 s5 s6
  show _ = latin_Lacks_l2_b (fun s2 => K .ret (frOf [(2, (.dat (.int .i64) s2 none))])) (K (.exit 0) (frOf [])) (latin_Lacks_l2 (fun s2 => K .ret (frOf [(2, (.dat (.int .i64) s2 none))])) (K (.exit 0) (frOf [])) n) n t0 s5 s6
  rw [← ih]
  kernel_rfl
theorem latin_Lacks_k2_0_ok (n : Nat)  : (kBlockP 0 (E_latin_Lacks.cutb 0) (kSeq (evCP E_latin_Lacks (evLP E_latin_Lacks n) (sub C_latin_Lacks [1, 1])) (kFnP E_latin_Lacks R_latin_Lacks))) (.exit 0) (frOf []) = latin_Lacks_k2_0 n  := by
  kernel_rfl
theorem latin_Lacks_ev (n : Nat) (t0 : List Int) (o0 : Lab) : evFnP E_latin_Lacks n C_latin_Lacks R_latin_Lacks [.dat (.sl (.int .i32)) t0 o0] = latin_Lacks_sh n t0 := by
  unfold latin_Lacks_sh
  rw [show latin_Lacks_l2 latin_Lacks_ret (latin_Lacks_k2_0 n) n = (fun t0 s5 s6 => evLP E_latin_Lacks n (sub C_latin_Lacks [1, 0, 1, 0, 0]) (kBlockP 0 (E_latin_Lacks.cutb 0) (kSeq (evCP E_latin_Lacks (evLP E_latin_Lacks n) (sub C_latin_Lacks [1, 1])) (kFnP E_latin_Lacks R_latin_Lacks))) (frOf [(0, (.dat (.sl (.int .i32)) t0 none)), (5, (.dat (.int .i64) s5 none)), (6, (.dat (.int .i64) s6 none))])) from by
    funext t0 s5 s6
    refine Eq.trans ?_ (latin_Lacks_l2_ok (kBlockP 0 (E_latin_Lacks.cutb 0) (kSeq (evCP E_latin_Lacks (evLP E_latin_Lacks n) (sub C_latin_Lacks [1, 1])) (kFnP E_latin_Lacks R_latin_Lacks))) n t0 s5 s6).symm
    rw [show ((kBlockP 0 (E_latin_Lacks.cutb 0) (kSeq (evCP E_latin_Lacks (evLP E_latin_Lacks n) (sub C_latin_Lacks [1, 1])) (kFnP E_latin_Lacks R_latin_Lacks))) (.exit 0) (frOf [])) = (latin_Lacks_k2_0 n) from by
      exact latin_Lacks_k2_0_ok n ]
    all_goals kernel_rfl]
  kernel_rfl
theorem latin_Lacks_sound : SoundG G Try.prog 68 s_latin_Lacks := by
  refine sound_of_evP' G_stays (E := E_latin_Lacks) (fn := Try.f68) (c := C_latin_Lacks) (tyOk_of_table rfl tis_ok) (fun w S hg => ⟨⟨(fns_cons (latin_Has_sound w S hg) fns_nil), fun f sp h => cns_nil f sp h w S⟩, gl_none w S hg, fun _ _ h => by cases h⟩) follows Try.func68 (by kernel_rfl) (by kernel_rfl) (by kernel_rfl) ?_
  intro avs r h
  unfold s_latin_Lacks at h
  split at h
  · simp only [Prod.mk.injEq] at h
    obtain ⟨hp, rfl⟩ := h
    obtain ⟨n, hn⟩ := latin_Lacks_math _ hp
    exact ⟨n, _, (latin_Lacks_ev n _ _).trans hn, .inl rfl⟩
  · cases h

/-! sheave/latin.Lay -/

noncomputable def E_latin_Lay : EnvP := ⟨⟨tiOf tis, fnsOf [(68, s_latin_Lacks)], cnsOf [], [], 27, (fun x => if x = 5 then some [4, 13, 14, 15] else none), (fun x => if x = 0 then some [4] else if x = 1 then some [4, 13, 14, 15] else none), some [2, 3]⟩, (fun x => if x = 12 then some (.psl 5 (.leaf .byte)) else none), fun _ => none, fun _ => [], fun _ => none⟩
noncomputable def C_latin_Lay : Code := Try.f46.body.getD .skip
noncomputable def R_latin_Lay : Array ResultVar := Try.f46.results
theorem latin_Lay_l5_ok (K : Ex → Fr → Option AV) : ∀ (n : Nat) (s4 : List UInt8) (s13 : List Int) (s14 : Int) (s15 : Int), evLP E_latin_Lay n (sub C_latin_Lay [1, 1, 1, 0, 1, 0, 0]) K (frOf [(4, (.pv (.psl 5 (.leaf .byte)) s4 none)), (13, (.dat (.sl (.int .i32)) s13 none)), (14, (.dat (.int .i64) s14 none)), (15, (.dat (.int .i64) s15 none))]) = latin_Lay_l5 (fun s4 => K (.exit 0) (frOf [(4, (.pv (.psl 5 (.leaf .byte)) s4 none))])) n s4 s13 s14 s15 := by
  intro n
  induction n with
  | zero => intros; rfl
  | succ n IH =>
  intro s4 s13 s14 s15
  have ih : (fun s4 s13 s14 s15 => evLP E_latin_Lay n (sub C_latin_Lay [1, 1, 1, 0, 1, 0, 0]) K (frOf [(4, (.pv (.psl 5 (.leaf .byte)) s4 none)), (13, (.dat (.sl (.int .i32)) s13 none)), (14, (.dat (.int .i64) s14 none)), (15, (.dat (.int .i64) s15 none))])) = latin_Lay_l5 (fun s4 => K (.exit 0) (frOf [(4, (.pv (.psl 5 (.leaf .byte)) s4 none))])) n := by
    funext s4 s13 s14 s15
    exact IH s4 s13 s14 s15
  show _ = latin_Lay_l5_b (fun s4 => K (.exit 0) (frOf [(4, (.pv (.psl 5 (.leaf .byte)) s4 none))])) (latin_Lay_l5 (fun s4 => K (.exit 0) (frOf [(4, (.pv (.psl 5 (.leaf .byte)) s4 none))])) n) n s4 s13 s14 s15
  rw [← ih]
  kernel_rfl
theorem latin_Lay_k5_0_ok (n : Nat) (s4 : List UInt8) : (kBlockP 0 (E_latin_Lay.cutb 0) (kSeq (evCP E_latin_Lay (evLP E_latin_Lay n) (sub C_latin_Lay [1, 1, 1, 1])) (kFnP E_latin_Lay R_latin_Lay))) (.exit 0) (frOf [(4, (.pv (.psl 5 (.leaf .byte)) s4 none))]) = latin_Lay_k5_0 n s4 := by
  kernel_rfl
theorem latin_Lay_ev (n : Nat) (t0 : List Int) (o0 : Lab) : evFnP E_latin_Lay n C_latin_Lay R_latin_Lay [.dat (.sl (.int .i32)) t0 o0] = latin_Lay_sh n t0 := by
  unfold latin_Lay_sh
  rw [show latin_Lay_l5 (latin_Lay_k5_0 n) n = (fun s4 s13 s14 s15 => evLP E_latin_Lay n (sub C_latin_Lay [1, 1, 1, 0, 1, 0, 0]) (kBlockP 0 (E_latin_Lay.cutb 0) (kSeq (evCP E_latin_Lay (evLP E_latin_Lay n) (sub C_latin_Lay [1, 1, 1, 1])) (kFnP E_latin_Lay R_latin_Lay))) (frOf [(4, (.pv (.psl 5 (.leaf .byte)) s4 none)), (13, (.dat (.sl (.int .i32)) s13 none)), (14, (.dat (.int .i64) s14 none)), (15, (.dat (.int .i64) s15 none))])) from by
    funext s4 s13 s14 s15
    refine Eq.trans ?_ (latin_Lay_l5_ok (kBlockP 0 (E_latin_Lay.cutb 0) (kSeq (evCP E_latin_Lay (evLP E_latin_Lay n) (sub C_latin_Lay [1, 1, 1, 1])) (kFnP E_latin_Lay R_latin_Lay))) n s4 s13 s14 s15).symm
    rw [show (fun s4 => (kBlockP 0 (E_latin_Lay.cutb 0) (kSeq (evCP E_latin_Lay (evLP E_latin_Lay n) (sub C_latin_Lay [1, 1, 1, 1])) (kFnP E_latin_Lay R_latin_Lay))) (.exit 0) (frOf [(4, (.pv (.psl 5 (.leaf .byte)) s4 none))])) = (latin_Lay_k5_0 n) from by
      funext s4
      exact latin_Lay_k5_0_ok n s4]
    all_goals kernel_rfl]
  kernel_rfl
theorem latin_Lay_sound : SoundG G Try.prog 46 s_latin_Lay := by
  refine sound_of_evP' G_stays (E := E_latin_Lay) (fn := Try.f46) (c := C_latin_Lay) (tyOk_of_table rfl tis_ok) (fun w S hg => ⟨⟨(fns_cons (latin_Lacks_sound w S hg) fns_nil), fun f sp h => cns_nil f sp h w S⟩, gl_none w S hg, fun _ _ h => by cases h⟩) follows Try.func46 (by kernel_rfl) (by kernel_rfl) (by kernel_rfl) ?_
  intro avs r h
  unfold s_latin_Lay at h
  split at h
  · simp only [Prod.mk.injEq] at h
    obtain ⟨hp, rfl⟩ := h
    obtain ⟨n, hn⟩ := latin_Lay_math _ hp
    exact ⟨n, _, (latin_Lay_ev n _ _).trans hn, .inl rfl⟩
  · cases h

/-! sheave/latnine.Lay -/

noncomputable def E_latnine_Lay : EnvP := ⟨⟨tiOf tis, fnsOf [(65, s_latnine_Put)], cnsOf [], [], 28, (fun x => if x = 3 then some [4, 9, 10, 11] else none), (fun x => if x = 0 then some [4] else if x = 1 then some [4, 9, 10, 11] else none), some [2, 3]⟩, fun _ => none, fun _ => none, fun _ => [], fun _ => none⟩
noncomputable def C_latnine_Lay : Code := Try.f44.body.getD .skip
noncomputable def R_latnine_Lay : Array ResultVar := Try.f44.results
theorem latnine_Lay_l3_ok (K : Ex → Fr → Option AV) : ∀ (n : Nat) (s4 : List UInt8) (s9 : List Int) (s10 : Int) (s11 : Int), evLP E_latnine_Lay n (sub C_latnine_Lay [1, 1, 0, 1, 0, 0]) K (frOf [(4, (.dat (.sl .byte) s4 (some (4, 5)))), (9, (.dat (.sl (.int .i32)) s9 none)), (10, (.dat (.int .i64) s10 none)), (11, (.dat (.int .i64) s11 none))]) = latnine_Lay_l3 (fun s2 s3 => K .ret (frOf [(2, (.dat (.sl .byte) s2 (some (2, 5)))), (3, (.dat (.int .i64) s3 none))])) (fun s4 => K (.exit 0) (frOf [(4, (.dat (.sl .byte) s4 (some (4, 5))))])) n s4 s9 s10 s11 := by
  intro n
  induction n with
  | zero => intros; rfl
  | succ n IH =>
  intro s4 s9 s10 s11
  have ih : (fun s4 s9 s10 s11 => evLP E_latnine_Lay n (sub C_latnine_Lay [1, 1, 0, 1, 0, 0]) K (frOf [(4, (.dat (.sl .byte) s4 (some (4, 5)))), (9, (.dat (.sl (.int .i32)) s9 none)), (10, (.dat (.int .i64) s10 none)), (11, (.dat (.int .i64) s11 none))])) = latnine_Lay_l3 (fun s2 s3 => K .ret (frOf [(2, (.dat (.sl .byte) s2 (some (2, 5)))), (3, (.dat (.int .i64) s3 none))])) (fun s4 => K (.exit 0) (frOf [(4, (.dat (.sl .byte) s4 (some (4, 5))))])) n := by
    funext s4 s9 s10 s11
    exact IH s4 s9 s10 s11
  show _ = latnine_Lay_l3_b (fun s2 s3 => K .ret (frOf [(2, (.dat (.sl .byte) s2 (some (2, 5)))), (3, (.dat (.int .i64) s3 none))])) (fun s4 => K (.exit 0) (frOf [(4, (.dat (.sl .byte) s4 (some (4, 5))))])) (latnine_Lay_l3 (fun s2 s3 => K .ret (frOf [(2, (.dat (.sl .byte) s2 (some (2, 5)))), (3, (.dat (.int .i64) s3 none))])) (fun s4 => K (.exit 0) (frOf [(4, (.dat (.sl .byte) s4 (some (4, 5))))])) n) n s4 s9 s10 s11
  rw [← ih]
  kernel_rfl
theorem latnine_Lay_k3_0_ok (n : Nat) (s4 : List UInt8) : (kBlockP 0 (E_latnine_Lay.cutb 0) (kSeq (evCP E_latnine_Lay (evLP E_latnine_Lay n) (sub C_latnine_Lay [1, 1, 1])) (kFnP E_latnine_Lay R_latnine_Lay))) (.exit 0) (frOf [(4, (.dat (.sl .byte) s4 (some (4, 5))))]) = latnine_Lay_k3_0 n s4 := by
  kernel_rfl
theorem latnine_Lay_ev (n : Nat) (t0 : List Int) (o0 : Lab) : evFnP E_latnine_Lay n C_latnine_Lay R_latnine_Lay [.dat (.sl (.int .i32)) t0 o0] = latnine_Lay_sh n t0 := by
  unfold latnine_Lay_sh
  rw [show latnine_Lay_l3 latnine_Lay_ret (latnine_Lay_k3_0 n) n = (fun s4 s9 s10 s11 => evLP E_latnine_Lay n (sub C_latnine_Lay [1, 1, 0, 1, 0, 0]) (kBlockP 0 (E_latnine_Lay.cutb 0) (kSeq (evCP E_latnine_Lay (evLP E_latnine_Lay n) (sub C_latnine_Lay [1, 1, 1])) (kFnP E_latnine_Lay R_latnine_Lay))) (frOf [(4, (.dat (.sl .byte) s4 (some (4, 5)))), (9, (.dat (.sl (.int .i32)) s9 none)), (10, (.dat (.int .i64) s10 none)), (11, (.dat (.int .i64) s11 none))])) from by
    funext s4 s9 s10 s11
    refine Eq.trans ?_ (latnine_Lay_l3_ok (kBlockP 0 (E_latnine_Lay.cutb 0) (kSeq (evCP E_latnine_Lay (evLP E_latnine_Lay n) (sub C_latnine_Lay [1, 1, 1])) (kFnP E_latnine_Lay R_latnine_Lay))) n s4 s9 s10 s11).symm
    rw [show (fun s4 => (kBlockP 0 (E_latnine_Lay.cutb 0) (kSeq (evCP E_latnine_Lay (evLP E_latnine_Lay n) (sub C_latnine_Lay [1, 1, 1])) (kFnP E_latnine_Lay R_latnine_Lay))) (.exit 0) (frOf [(4, (.dat (.sl .byte) s4 (some (4, 5))))])) = (latnine_Lay_k3_0 n) from by
      funext s4
      exact latnine_Lay_k3_0_ok n s4]
    all_goals kernel_rfl]
  kernel_rfl
theorem latnine_Lay_sound : SoundG G Try.prog 44 s_latnine_Lay := by
  refine sound_of_evP' G_stays (E := E_latnine_Lay) (fn := Try.f44) (c := C_latnine_Lay) (tyOk_of_table rfl tis_ok) (fun w S hg => ⟨⟨(fns_cons (latnine_Put_sound w S hg) fns_nil), fun f sp h => cns_nil f sp h w S⟩, gl_none w S hg, fun _ _ h => by cases h⟩) follows Try.func44 (by kernel_rfl) (by kernel_rfl) (by kernel_rfl) ?_
  intro avs r h
  unfold s_latnine_Lay at h
  split at h
  · simp only [Prod.mk.injEq] at h
    obtain ⟨hp, rfl⟩ := h
    obtain ⟨n, hn⟩ := latnine_Lay_math _ hp
    exact ⟨n, _, (latnine_Lay_ev n _ _).trans hn, .inl rfl⟩
  · cases h

/-! sheave/winone.Lay -/

noncomputable def E_winone_Lay : EnvP := ⟨⟨tiOf tis, fnsOf [(66, s_winone_Lacks), (67, s_winone_Put)], cnsOf [], [], 32, (fun x => if x = 5 then some [4, 15, 16, 17] else none), (fun x => if x = 0 then some [4] else if x = 1 then some [4, 15, 16, 17] else none), some [2, 3]⟩, fun _ => none, fun _ => none, fun _ => [], fun _ => none⟩
noncomputable def C_winone_Lay : Code := Try.f45.body.getD .skip
noncomputable def R_winone_Lay : Array ResultVar := Try.f45.results
theorem winone_Lay_l5_ok (K : Ex → Fr → Option AV) : ∀ (n : Nat) (s4 : List UInt8) (s15 : List Int) (s16 : Int) (s17 : Int), evLP E_winone_Lay n (sub C_winone_Lay [1, 1, 1, 0, 1, 0, 0]) K (frOf [(4, (.dat (.sl .byte) s4 (some (4, 5)))), (15, (.dat (.sl (.int .i32)) s15 none)), (16, (.dat (.int .i64) s16 none)), (17, (.dat (.int .i64) s17 none))]) = winone_Lay_l5 (fun s4 => K (.exit 0) (frOf [(4, (.dat (.sl .byte) s4 (some (4, 5))))])) n s4 s15 s16 s17 := by
  intro n
  induction n with
  | zero => intros; rfl
  | succ n IH =>
  intro s4 s15 s16 s17
  have ih : (fun s4 s15 s16 s17 => evLP E_winone_Lay n (sub C_winone_Lay [1, 1, 1, 0, 1, 0, 0]) K (frOf [(4, (.dat (.sl .byte) s4 (some (4, 5)))), (15, (.dat (.sl (.int .i32)) s15 none)), (16, (.dat (.int .i64) s16 none)), (17, (.dat (.int .i64) s17 none))])) = winone_Lay_l5 (fun s4 => K (.exit 0) (frOf [(4, (.dat (.sl .byte) s4 (some (4, 5))))])) n := by
    funext s4 s15 s16 s17
    exact IH s4 s15 s16 s17
  show _ = winone_Lay_l5_b (fun s4 => K (.exit 0) (frOf [(4, (.dat (.sl .byte) s4 (some (4, 5))))])) (winone_Lay_l5 (fun s4 => K (.exit 0) (frOf [(4, (.dat (.sl .byte) s4 (some (4, 5))))])) n) n s4 s15 s16 s17
  rw [← ih]
  kernel_rfl
theorem winone_Lay_k5_0_ok (n : Nat) (s4 : List UInt8) : (kBlockP 0 (E_winone_Lay.cutb 0) (kSeq (evCP E_winone_Lay (evLP E_winone_Lay n) (sub C_winone_Lay [1, 1, 1, 1])) (kFnP E_winone_Lay R_winone_Lay))) (.exit 0) (frOf [(4, (.dat (.sl .byte) s4 (some (4, 5))))]) = winone_Lay_k5_0 n s4 := by
  kernel_rfl
theorem winone_Lay_ev (n : Nat) (t0 : List Int) (o0 : Lab) : evFnP E_winone_Lay n C_winone_Lay R_winone_Lay [.dat (.sl (.int .i32)) t0 o0] = winone_Lay_sh n t0 := by
  unfold winone_Lay_sh
  rw [show winone_Lay_l5 (winone_Lay_k5_0 n) n = (fun s4 s15 s16 s17 => evLP E_winone_Lay n (sub C_winone_Lay [1, 1, 1, 0, 1, 0, 0]) (kBlockP 0 (E_winone_Lay.cutb 0) (kSeq (evCP E_winone_Lay (evLP E_winone_Lay n) (sub C_winone_Lay [1, 1, 1, 1])) (kFnP E_winone_Lay R_winone_Lay))) (frOf [(4, (.dat (.sl .byte) s4 (some (4, 5)))), (15, (.dat (.sl (.int .i32)) s15 none)), (16, (.dat (.int .i64) s16 none)), (17, (.dat (.int .i64) s17 none))])) from by
    funext s4 s15 s16 s17
    refine Eq.trans ?_ (winone_Lay_l5_ok (kBlockP 0 (E_winone_Lay.cutb 0) (kSeq (evCP E_winone_Lay (evLP E_winone_Lay n) (sub C_winone_Lay [1, 1, 1, 1])) (kFnP E_winone_Lay R_winone_Lay))) n s4 s15 s16 s17).symm
    rw [show (fun s4 => (kBlockP 0 (E_winone_Lay.cutb 0) (kSeq (evCP E_winone_Lay (evLP E_winone_Lay n) (sub C_winone_Lay [1, 1, 1, 1])) (kFnP E_winone_Lay R_winone_Lay))) (.exit 0) (frOf [(4, (.dat (.sl .byte) s4 (some (4, 5))))])) = (winone_Lay_k5_0 n) from by
      funext s4
      exact winone_Lay_k5_0_ok n s4]
    all_goals kernel_rfl]
  kernel_rfl
theorem winone_Lay_sound : SoundG G Try.prog 45 s_winone_Lay := by
  refine sound_of_evP' G_stays (E := E_winone_Lay) (fn := Try.f45) (c := C_winone_Lay) (tyOk_of_table rfl tis_ok) (fun w S hg => ⟨⟨(fns_cons (winone_Lacks_sound w S hg) (fns_cons (winone_Put_sound w S hg) fns_nil)), fun f sp h => cns_nil f sp h w S⟩, gl_none w S hg, fun _ _ h => by cases h⟩) follows Try.func45 (by kernel_rfl) (by kernel_rfl) (by kernel_rfl) ?_
  intro avs r h
  unfold s_winone_Lay at h
  split at h
  · simp only [Prod.mk.injEq] at h
    obtain ⟨hp, rfl⟩ := h
    obtain ⟨n, hn⟩ := winone_Lay_math _ hp
    exact ⟨n, _, (winone_Lay_ev n _ _).trans hn, .inl rfl⟩
  · cases h

/-! sheave/scalar.First$1 -/

noncomputable def E_scalar_First_1 : EnvP := ⟨⟨tiOf tis, fnsOf [(87, s_scalar_Is)], cnsOf [], [], 6, (fun _ => none), (fun _ => none), some [2]⟩, fun _ => none, fun _ => none, fun _ => [], fun _ => none⟩
noncomputable def C_scalar_First_1 : Code := Try.f89.body.getD .skip
noncomputable def R_scalar_First_1 : Array ResultVar := Try.f89.results
theorem scalar_First_1_ev (n : Nat) (c0 : Int) (o0 : Lab) : evFnP E_scalar_First_1 n C_scalar_First_1 R_scalar_First_1 [.dat (.int .i32) c0 o0] = scalar_First_1_sh n c0 := by
  kernel_rfl
theorem scalar_First_1_sound : SoundG G Try.prog 89 s_scalar_First_1 := by
  refine sound_of_evP' G_stays (E := E_scalar_First_1) (fn := Try.f89) (c := C_scalar_First_1) (tyOk_of_table rfl tis_ok) (fun w S hg => ⟨⟨(fns_cons (scalar_Is_sound w S hg) fns_nil), fun f sp h => cns_nil f sp h w S⟩, gl_none w S hg, fun _ _ h => by cases h⟩) follows Try.func89 (by kernel_rfl) (by kernel_rfl) (by kernel_rfl) ?_
  intro avs r h
  unfold s_scalar_First_1 at h
  split at h
  · simp only [Prod.mk.injEq, true_and] at h
    subst h
    obtain ⟨n, hn⟩ := scalar_First_1_math _
    exact ⟨n, _, (scalar_First_1_ev n _ _).trans hn, .inl rfl⟩
  · cases h

/-! slices.IndexFunc[[]rune,rune] -/

noncomputable def E_slices_IndexFunc___rune_rune_ : EnvP := ⟨⟨tiOf tis, fnsOf [(89, s_scalar_First_1)], cnsOf [], [], 19, (fun x => if x = 2 then some [0, 1, 7, 8] else none), (fun x => if x = 0 then some [] else if x = 1 then some [0, 1, 7, 8] else none), some [4]⟩, fun _ => none, fun _ => none, fun _ => [], fun _ => none⟩
noncomputable def C_slices_IndexFunc___rune_rune_ : Code := Try.f88.body.getD .skip
noncomputable def R_slices_IndexFunc___rune_rune_ : Array ResultVar := Try.f88.results
theorem slices_IndexFunc___rune_rune__l2_ok (K : Ex → Fr → Option AV) : ∀ (n : Nat) (s0 : List Int) (s7 : Int) (s8 : Int), evLP E_slices_IndexFunc___rune_rune_ n (sub C_slices_IndexFunc___rune_rune_ [1, 0, 1, 0, 0]) K (frOf [(0, (.dat (.sl (.int .i32)) s0 none)), (1, (.fn 89 [])), (7, (.dat (.int .i64) s7 none)), (8, (.dat (.int .i64) s8 none))]) = slices_IndexFunc___rune_rune__l2 (fun s4 => K .ret (frOf [(4, (.dat (.int .i64) s4 none))])) (K (.exit 0) (frOf [])) n s0 s7 s8 := by
  intro n
  induction n with
  | zero => intros; rfl
  | succ n IH =>
  intro s0 s7 s8
  have ih : (fun s0 s7 s8 => evLP E_slices_IndexFunc___rune_rune_ n (sub C_slices_IndexFunc___rune_rune_ [1, 0, 1, 0, 0]) K (frOf [(0, (.dat (.sl (.int .i32)) s0 none)), (1, (.fn 89 [])), (7, (.dat (.int .i64) s7 none)), (8, (.dat (.int .i64) s8 none))])) = slices_IndexFunc___rune_rune__l2 (fun s4 => K .ret (frOf [(4, (.dat (.int .i64) s4 none))])) (K (.exit 0) (frOf [])) n := by
    funext s0 s7 s8
    exact IH s0 s7 s8
  show _ = slices_IndexFunc___rune_rune__l2_b (fun s4 => K .ret (frOf [(4, (.dat (.int .i64) s4 none))])) (K (.exit 0) (frOf [])) (slices_IndexFunc___rune_rune__l2 (fun s4 => K .ret (frOf [(4, (.dat (.int .i64) s4 none))])) (K (.exit 0) (frOf [])) n) n s0 s7 s8
  rw [← ih]
  kernel_rfl
theorem slices_IndexFunc___rune_rune__k2_0_ok (n : Nat)  : (kBlockP 0 (E_slices_IndexFunc___rune_rune_.cutb 0) (kSeq (evCP E_slices_IndexFunc___rune_rune_ (evLP E_slices_IndexFunc___rune_rune_ n) (sub C_slices_IndexFunc___rune_rune_ [1, 1])) (kFnP E_slices_IndexFunc___rune_rune_ R_slices_IndexFunc___rune_rune_))) (.exit 0) (frOf []) = slices_IndexFunc___rune_rune__k2_0 n  := by
  kernel_rfl
theorem slices_IndexFunc___rune_rune__ev (n : Nat) (s0 : List Int) (o0 : Lab) : evFnP E_slices_IndexFunc___rune_rune_ n C_slices_IndexFunc___rune_rune_ R_slices_IndexFunc___rune_rune_ [.dat (.sl (.int .i32)) s0 o0, .fn 89 []] = slices_IndexFunc___rune_rune__sh n s0 := by
  unfold slices_IndexFunc___rune_rune__sh
  rw [show slices_IndexFunc___rune_rune__l2 slices_IndexFunc___rune_rune__ret (slices_IndexFunc___rune_rune__k2_0 n) n = (fun s0 s7 s8 => evLP E_slices_IndexFunc___rune_rune_ n (sub C_slices_IndexFunc___rune_rune_ [1, 0, 1, 0, 0]) (kBlockP 0 (E_slices_IndexFunc___rune_rune_.cutb 0) (kSeq (evCP E_slices_IndexFunc___rune_rune_ (evLP E_slices_IndexFunc___rune_rune_ n) (sub C_slices_IndexFunc___rune_rune_ [1, 1])) (kFnP E_slices_IndexFunc___rune_rune_ R_slices_IndexFunc___rune_rune_))) (frOf [(0, (.dat (.sl (.int .i32)) s0 none)), (1, (.fn 89 [])), (7, (.dat (.int .i64) s7 none)), (8, (.dat (.int .i64) s8 none))])) from by
    funext s0 s7 s8
    refine Eq.trans ?_ (slices_IndexFunc___rune_rune__l2_ok (kBlockP 0 (E_slices_IndexFunc___rune_rune_.cutb 0) (kSeq (evCP E_slices_IndexFunc___rune_rune_ (evLP E_slices_IndexFunc___rune_rune_ n) (sub C_slices_IndexFunc___rune_rune_ [1, 1])) (kFnP E_slices_IndexFunc___rune_rune_ R_slices_IndexFunc___rune_rune_))) n s0 s7 s8).symm
    rw [show ((kBlockP 0 (E_slices_IndexFunc___rune_rune_.cutb 0) (kSeq (evCP E_slices_IndexFunc___rune_rune_ (evLP E_slices_IndexFunc___rune_rune_ n) (sub C_slices_IndexFunc___rune_rune_ [1, 1])) (kFnP E_slices_IndexFunc___rune_rune_ R_slices_IndexFunc___rune_rune_))) (.exit 0) (frOf [])) = (slices_IndexFunc___rune_rune__k2_0 n) from by
      exact slices_IndexFunc___rune_rune__k2_0_ok n ]
    all_goals kernel_rfl]
  kernel_rfl
theorem slices_IndexFunc___rune_rune__sound : SoundG G Try.prog 88 s_slices_IndexFunc___rune_rune_ := by
  refine sound_of_evP' G_stays (E := E_slices_IndexFunc___rune_rune_) (fn := Try.f88) (c := C_slices_IndexFunc___rune_rune_) (tyOk_of_table rfl tis_ok) (fun w S hg => ⟨⟨(fns_cons (scalar_First_1_sound w S hg) fns_nil), fun f sp h => cns_nil f sp h w S⟩, gl_none w S hg, fun _ _ h => by cases h⟩) follows Try.func88 (by kernel_rfl) (by kernel_rfl) (by kernel_rfl) ?_
  intro avs r h
  unfold s_slices_IndexFunc___rune_rune_ at h
  split at h
  · simp only [Prod.mk.injEq] at h
    obtain ⟨hp, rfl⟩ := h
    obtain ⟨n, hn⟩ := slices_IndexFunc___rune_rune__math _ hp
    exact ⟨n, _, (slices_IndexFunc___rune_rune__ev n _ _).trans hn, .inl rfl⟩
  · cases h

/-! sheave/scalar.First -/

noncomputable def E_scalar_First : EnvP := ⟨⟨tiOf tis, fnsOf [(88, s_slices_IndexFunc___rune_rune_)], cnsOf [], [], 5, (fun _ => none), (fun _ => none), some [2]⟩, fun _ => none, fun _ => none, fun _ => [], fun _ => none⟩
noncomputable def C_scalar_First : Code := Try.f75.body.getD .skip
noncomputable def R_scalar_First : Array ResultVar := Try.f75.results
theorem scalar_First_ev (n : Nat) (t0 : List Int) (o0 : Lab) : evFnP E_scalar_First n C_scalar_First R_scalar_First [.dat (.sl (.int .i32)) t0 o0] = scalar_First_sh n t0 := by
  kernel_rfl
theorem scalar_First_sound : SoundG G Try.prog 75 s_scalar_First := by
  refine sound_of_evP' G_stays (E := E_scalar_First) (fn := Try.f75) (c := C_scalar_First) (tyOk_of_table rfl tis_ok) (fun w S hg => ⟨⟨(fns_cons (slices_IndexFunc___rune_rune__sound w S hg) fns_nil), fun f sp h => cns_nil f sp h w S⟩, gl_none w S hg, fun _ _ h => by cases h⟩) follows Try.func75 (by kernel_rfl) (by kernel_rfl) (by kernel_rfl) ?_
  intro avs r h
  unfold s_scalar_First at h
  split at h
  · simp only [Prod.mk.injEq] at h
    obtain ⟨hp, rfl⟩ := h
    obtain ⟨n, hn⟩ := scalar_First_math _ hp
    exact ⟨n, _, (scalar_First_ev n _ _).trans hn, .inl rfl⟩
  · cases h

/-! sheave/scalar.Right -/

noncomputable def E_scalar_Right : EnvP := ⟨⟨tiOf tis, fnsOf [(75, s_scalar_First)], cnsOf [], [], 6, (fun _ => none), (fun _ => none), some [2]⟩, fun _ => none, fun _ => none, fun _ => [], fun _ => none⟩
noncomputable def C_scalar_Right : Code := Try.f63.body.getD .skip
noncomputable def R_scalar_Right : Array ResultVar := Try.f63.results
theorem scalar_Right_ev (n : Nat) (t0 : List Int) (o0 : Lab) : evFnP E_scalar_Right n C_scalar_Right R_scalar_Right [.dat (.sl (.int .i32)) t0 o0] = scalar_Right_sh n t0 := by
  kernel_rfl
theorem scalar_Right_sound : SoundG G Try.prog 63 s_scalar_Right := by
  refine sound_of_evP' G_stays (E := E_scalar_Right) (fn := Try.f63) (c := C_scalar_Right) (tyOk_of_table rfl tis_ok) (fun w S hg => ⟨⟨(fns_cons (scalar_First_sound w S hg) fns_nil), fun f sp h => cns_nil f sp h w S⟩, gl_none w S hg, fun _ _ h => by cases h⟩) follows Try.func63 (by kernel_rfl) (by kernel_rfl) (by kernel_rfl) ?_
  intro avs r h
  unfold s_scalar_Right at h
  split at h
  · simp only [Prod.mk.injEq] at h
    obtain ⟨hp, rfl⟩ := h
    obtain ⟨n, hn⟩ := scalar_Right_math _ hp
    exact ⟨n, _, (scalar_Right_ev n _ _).trans hn, .inl rfl⟩
  · cases h

end Go.Av
