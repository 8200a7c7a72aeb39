import Derived.Test.YtopepdfipgfakaaEcEvI
import Derived.Test.YtopepdfipgfakaaEcN
import Derived.Test.YtopepdfipgfakaaProg
import Derived.KernelRfl
namespace Go.Av
open Go.Proofs
set_option maxRecDepth 100000
set_option linter.unusedVariables false
/-! sheave/sheavelaw30.alive -/

noncomputable def E_law30_alive : EnvP := ⟨⟨tiOf tis, fnsOf [(8, s_ewcost_Len), (10, s_ewcost_Better), (14, s_ewcost_Saved), (17, s_ewcost_Prefix)], cnsOf [], [], 54, (fun _ => none), (fun _ => none), some [0]⟩, fun _ => none, fun _ => none, fun _ => [], fun _ => none⟩
noncomputable def C_law30_alive : Code := Try.f7.body.getD .skip
noncomputable def R_law30_alive : Array ResultVar := Try.f7.results
theorem law30_alive_ev (n : Nat)  : evFnP E_law30_alive n C_law30_alive R_law30_alive [] = law30_alive_sh n  := by
  kernel_rfl
theorem law30_alive_sound : SoundG G Try.prog 7 s_law30_alive := by
  refine sound_of_evP' G_stays (E := E_law30_alive) (fn := Try.f7) (c := C_law30_alive) (tyOk_of_table rfl tis_ok) (fun w S hg => ⟨⟨(fns_cons (ewcost_Len_sound w S hg) (fns_cons (ewcost_Better_sound w S hg) (fns_cons (ewcost_Saved_sound w S hg) (fns_cons (ewcost_Prefix_sound w S hg) fns_nil)))), fun f sp h => cns_nil f sp h w S⟩, gl_none w S hg, fun _ _ h => by cases h⟩) follows Try.func7 (by kernel_rfl) (by kernel_rfl) (by kernel_rfl) ?_
  intro avs r h
  unfold s_law30_alive at h
  split at h
  · simp only [Prod.mk.injEq, true_and] at h
    subst h
    obtain ⟨n, hn⟩ := law30_alive_math 
    exact ⟨n, _, (law30_alive_ev n ).trans hn, .inl rfl⟩
  · cases h

/-! sheave/sheavelaw30.EwcostLens -/

noncomputable def E_law30_EwcostLens : EnvP := ⟨⟨tiOf tis, fnsOf [(7, s_law30_alive), (8, s_ewcost_Len), (9, s_ref30_Len), (10, s_ewcost_Better), (11, s_ref30_Better), (12, s_ewcost_Text), (13, s_ref30_Text), (14, s_ewcost_Saved)], cnsOf [], [], 101, (fun _ => none), (fun _ => none), some [4]⟩, fun _ => none, fun _ => none, fun _ => [], fun _ => none⟩
noncomputable def C_law30_EwcostLens : Code := Try.f3.body.getD .skip
noncomputable def R_law30_EwcostLens : Array ResultVar := Try.f3.results
theorem law30_EwcostLens_ev (n : Nat) (a0 : Int × (Int × (Int × Unit))) (o0 : Lab) (t1 : List Int) (o1 : Lab) : evFnP E_law30_EwcostLens n C_law30_EwcostLens R_law30_EwcostLens [.dat (.pair (.int .i64) (.pair (.int .i64) (.pair (.int .i64) .unit))) a0 o0, .dat (.sl (.int .i32)) t1 o1] = law30_EwcostLens_sh n a0 t1 := by
  kernel_rfl
theorem law30_EwcostLens_sound : SoundG G Try.prog 3 s_law30_EwcostLens := by
  refine sound_of_evP' G_stays (E := E_law30_EwcostLens) (fn := Try.f3) (c := C_law30_EwcostLens) (tyOk_of_table rfl tis_ok) (fun w S hg => ⟨⟨(fns_cons (law30_alive_sound w S hg) (fns_cons (ewcost_Len_sound w S hg) (fns_cons (ref30_Len_sound w S hg) (fns_cons (ewcost_Better_sound w S hg) (fns_cons (ref30_Better_sound w S hg) (fns_cons (ewcost_Text_sound w S hg) (fns_cons (ref30_Text_sound w S hg) (fns_cons (ewcost_Saved_sound w S hg) fns_nil)))))))), fun f sp h => cns_nil f sp h w S⟩, gl_none w S hg, fun _ _ h => by cases h⟩) follows Try.func3 (by kernel_rfl) (by kernel_rfl) (by kernel_rfl) ?_
  intro avs r h
  unfold s_law30_EwcostLens at h
  split at h
  · simp only [Prod.mk.injEq] at h
    obtain ⟨hp, rfl⟩ := h
    obtain ⟨n, hn⟩ := law30_EwcostLens_math _ _ hp
    exact ⟨n, _, (law30_EwcostLens_ev n _ _ _ _).trans hn, .inl rfl⟩
  · cases h

/-! sheave/sheavelaw30.EwcostFits -/

noncomputable def E_law30_EwcostFits : EnvP := ⟨⟨tiOf tis, fnsOf [(7, s_law30_alive), (15, s_ewcost_Fits), (16, s_ref30_Fits), (17, s_ewcost_Prefix), (18, s_ref30_Prefix)], cnsOf [], [], 48, (fun _ => none), (fun _ => none), some [4]⟩, fun _ => none, fun _ => none, fun _ => [], fun _ => none⟩
noncomputable def C_law30_EwcostFits : Code := Try.f4.body.getD .skip
noncomputable def R_law30_EwcostFits : Array ResultVar := Try.f4.results
theorem law30_EwcostFits_ev (n : Nat) (a0 : Int × (Int × (Int × Unit))) (o0 : Lab) (t1 : List Int) (o1 : Lab) : evFnP E_law30_EwcostFits n C_law30_EwcostFits R_law30_EwcostFits [.dat (.pair (.int .i64) (.pair (.int .i64) (.pair (.int .i64) .unit))) a0 o0, .dat (.sl (.int .i32)) t1 o1] = law30_EwcostFits_sh n a0 t1 := by
  kernel_rfl
theorem law30_EwcostFits_sound : SoundG G Try.prog 4 s_law30_EwcostFits := by
  refine sound_of_evP' G_stays (E := E_law30_EwcostFits) (fn := Try.f4) (c := C_law30_EwcostFits) (tyOk_of_table rfl tis_ok) (fun w S hg => ⟨⟨(fns_cons (law30_alive_sound w S hg) (fns_cons (ewcost_Fits_sound w S hg) (fns_cons (ref30_Fits_sound w S hg) (fns_cons (ewcost_Prefix_sound w S hg) (fns_cons (ref30_Prefix_sound w S hg) fns_nil))))), fun f sp h => cns_nil f sp h w S⟩, gl_none w S hg, fun _ _ h => by cases h⟩) follows Try.func4 (by kernel_rfl) (by kernel_rfl) (by kernel_rfl) ?_
  intro avs r h
  unfold s_law30_EwcostFits at h
  split at h
  · simp only [Prod.mk.injEq] at h
    obtain ⟨hp, rfl⟩ := h
    obtain ⟨n, hn⟩ := law30_EwcostFits_math _ _ hp
    exact ⟨n, _, (law30_EwcostFits_ev n _ _ _ _).trans hn, .inl rfl⟩
  · cases h

/-! sheave/sheavelaw30.EwcostLaid -/

noncomputable def E_law30_EwcostLaid : EnvP := ⟨⟨tiOf tis, fnsOf [(7, s_law30_alive), (8, s_ewcost_Len), (15, s_ewcost_Fits), (19, s_ref13_Lay), (20, s_ref29_Lay)], cnsOf [], [], 93, (fun _ => none), (fun _ => none), some [4]⟩, fun _ => none, fun _ => none, fun _ => [], fun _ => none⟩
noncomputable def C_law30_EwcostLaid : Code := Try.f5.body.getD .skip
noncomputable def R_law30_EwcostLaid : Array ResultVar := Try.f5.results
theorem law30_EwcostLaid_ev (n : Nat) (a0 : Int × (Int × (Int × Unit))) (o0 : Lab) (t1 : List Int) (o1 : Lab) : evFnP E_law30_EwcostLaid n C_law30_EwcostLaid R_law30_EwcostLaid [.dat (.pair (.int .i64) (.pair (.int .i64) (.pair (.int .i64) .unit))) a0 o0, .dat (.sl (.int .i32)) t1 o1] = law30_EwcostLaid_sh n a0 t1 := by
  kernel_rfl
theorem law30_EwcostLaid_sound : SoundG G Try.prog 5 s_law30_EwcostLaid := by
  refine sound_of_evP' G_stays (E := E_law30_EwcostLaid) (fn := Try.f5) (c := C_law30_EwcostLaid) (tyOk_of_table rfl tis_ok) (fun w S hg => ⟨⟨(fns_cons (law30_alive_sound w S hg) (fns_cons (ewcost_Len_sound w S hg) (fns_cons (ewcost_Fits_sound w S hg) (fns_cons (ref13_Lay_sound w S hg) (fns_cons (ref29_Lay_sound w S hg) fns_nil))))), fun f sp h => cns_nil f sp h w S⟩, gl_none w S hg, fun _ _ h => by cases h⟩) follows Try.func5 (by kernel_rfl) (by kernel_rfl) (by kernel_rfl) ?_
  intro avs r h
  unfold s_law30_EwcostLaid at h
  split at h
  · simp only [Prod.mk.injEq] at h
    obtain ⟨hp, rfl⟩ := h
    obtain ⟨n, hn⟩ := law30_EwcostLaid_math _ _ hp
    exact ⟨n, _, (law30_EwcostLaid_ev n _ _ _ _).trans hn, .inl rfl⟩
  · cases h

/-! sheave/sheavelaw30.EwcostRises -/

noncomputable def E_law30_EwcostRises : EnvP := ⟨⟨tiOf tis, fnsOf [(7, s_law30_alive), (8, s_ewcost_Len), (15, s_ewcost_Fits), (17, s_ewcost_Prefix)], cnsOf [], [], 92, (fun x => if x = 5 then some [1, 2, 5, 15, 16] else none), (fun x => if x = 0 then some [1, 2] else if x = 1 then some [1, 2, 5, 15, 16] else none), some [4]⟩, fun _ => none, fun _ => none, fun _ => [], fun _ => none⟩
noncomputable def C_law30_EwcostRises : Code := Try.f6.body.getD .skip
noncomputable def R_law30_EwcostRises : Array ResultVar := Try.f6.results
theorem law30_EwcostRises_l5_ok (K : Ex → Fr → Option AV) : ∀ (n : Nat) (t1 : List Int) (a2 : Int × (Int × (Int × Unit))) (last5 : Int) (s15 : Int) (s16 : Int), evLP E_law30_EwcostRises n (sub C_law30_EwcostRises [1, 1, 1, 0, 1, 0, 0]) K (frOf [(1, (.dat (.sl (.int .i32)) t1 none)), (2, (.adr (.pair (.int .i64) (.pair (.int .i64) (.pair (.int .i64) .unit))) a2)), (5, (.dat (.int .i64) last5 none)), (15, (.dat (.int .i64) s15 none)), (16, (.dat (.int .i64) s16 none))]) = law30_EwcostRises_l5 (fun s4 => K .ret (frOf [(4, (.dat .bool s4 none))])) (fun t1 a2 => K (.exit 0) (frOf [(1, (.dat (.sl (.int .i32)) t1 none)), (2, (.adr (.pair (.int .i64) (.pair (.int .i64) (.pair (.int .i64) .unit))) a2))])) n t1 a2 last5 s15 s16 := by
  intro n
  induction n with
  | zero => intros; rfl
  | succ n IH =>
  intro t1 a2 last5 s15 s16
  have ih : (fun t1 a2 last5 s15 s16 => evLP E_law30_EwcostRises n (sub C_law30_EwcostRises [1, 1, 1, 0, 1, 0, 0]) K (frOf [(1, (.dat (.sl (.int .i32)) t1 none)), (2, (.adr (.pair (.int .i64) (.pair (.int .i64) (.pair (.int .i64) .unit))) a2)), (5, (.dat (.int .i64) last5 none)), (15, (.dat (.int .i64) s15 none)), (16, (.dat (.int .i64) s16 none))])) = law30_EwcostRises_l5 (fun s4 => K .ret (frOf [(4, (.dat .bool s4 none))])) (fun t1 a2 => K (.exit 0) (frOf [(1, (.dat (.sl (.int .i32)) t1 none)), (2, (.adr (.pair (.int .i64) (.pair (.int .i64) (.pair (.int .i64) .unit))) a2))])) n := by
    funext t1 a2 last5 s15 s16
    exact IH t1 a2 last5 s15 s16
  show _ = law30_EwcostRises_l5_b (fun s4 => K .ret (frOf [(4, (.dat .bool s4 none))])) (fun t1 a2 => K (.exit 0) (frOf [(1, (.dat (.sl (.int .i32)) t1 none)), (2, (.adr (.pair (.int .i64) (.pair (.int .i64) (.pair (.int .i64) .unit))) a2))])) (law30_EwcostRises_l5 (fun s4 => K .ret (frOf [(4, (.dat .bool s4 none))])) (fun t1 a2 => K (.exit 0) (frOf [(1, (.dat (.sl (.int .i32)) t1 none)), (2, (.adr (.pair (.int .i64) (.pair (.int .i64) (.pair (.int .i64) .unit))) a2))])) n) n t1 a2 last5 s15 s16
  rw [← ih]
  kernel_rfl
theorem law30_EwcostRises_k5_0_ok (n : Nat) (t1 : List Int) (a2 : Int × (Int × (Int × Unit))) : (kBlockP 0 (E_law30_EwcostRises.cutb 0) (kSeq (evCP E_law30_EwcostRises (evLP E_law30_EwcostRises n) (sub C_law30_EwcostRises [1, 1, 1, 1])) (kFnP E_law30_EwcostRises R_law30_EwcostRises))) (.exit 0) (frOf [(1, (.dat (.sl (.int .i32)) t1 none)), (2, (.adr (.pair (.int .i64) (.pair (.int .i64) (.pair (.int .i64) .unit))) a2))]) = law30_EwcostRises_k5_0 n t1 a2 := by
  kernel_rfl
theorem law30_EwcostRises_ev (n : Nat) (a0 : Int × (Int × (Int × Unit))) (o0 : Lab) (t1 : List Int) (o1 : Lab) : evFnP E_law30_EwcostRises n C_law30_EwcostRises R_law30_EwcostRises [.dat (.pair (.int .i64) (.pair (.int .i64) (.pair (.int .i64) .unit))) a0 o0, .dat (.sl (.int .i32)) t1 o1] = law30_EwcostRises_sh n a0 t1 := by
  unfold law30_EwcostRises_sh
  rw [show law30_EwcostRises_l5 law30_EwcostRises_ret (law30_EwcostRises_k5_0 n) n = (fun t1 a2 last5 s15 s16 => evLP E_law30_EwcostRises n (sub C_law30_EwcostRises [1, 1, 1, 0, 1, 0, 0]) (kBlockP 0 (E_law30_EwcostRises.cutb 0) (kSeq (evCP E_law30_EwcostRises (evLP E_law30_EwcostRises n) (sub C_law30_EwcostRises [1, 1, 1, 1])) (kFnP E_law30_EwcostRises R_law30_EwcostRises))) (frOf [(1, (.dat (.sl (.int .i32)) t1 none)), (2, (.adr (.pair (.int .i64) (.pair (.int .i64) (.pair (.int .i64) .unit))) a2)), (5, (.dat (.int .i64) last5 none)), (15, (.dat (.int .i64) s15 none)), (16, (.dat (.int .i64) s16 none))])) from by
    funext t1 a2 last5 s15 s16
    refine Eq.trans ?_ (law30_EwcostRises_l5_ok (kBlockP 0 (E_law30_EwcostRises.cutb 0) (kSeq (evCP E_law30_EwcostRises (evLP E_law30_EwcostRises n) (sub C_law30_EwcostRises [1, 1, 1, 1])) (kFnP E_law30_EwcostRises R_law30_EwcostRises))) n t1 a2 last5 s15 s16).symm
    rw [show (fun t1 a2 => (kBlockP 0 (E_law30_EwcostRises.cutb 0) (kSeq (evCP E_law30_EwcostRises (evLP E_law30_EwcostRises n) (sub C_law30_EwcostRises [1, 1, 1, 1])) (kFnP E_law30_EwcostRises R_law30_EwcostRises))) (.exit 0) (frOf [(1, (.dat (.sl (.int .i32)) t1 none)), (2, (.adr (.pair (.int .i64) (.pair (.int .i64) (.pair (.int .i64) .unit))) a2))])) = (law30_EwcostRises_k5_0 n) from by
      funext t1 a2
      exact law30_EwcostRises_k5_0_ok n t1 a2]
    all_goals kernel_rfl]
  kernel_rfl
theorem law30_EwcostRises_sound : SoundG G Try.prog 6 s_law30_EwcostRises := by
  refine sound_of_evP' G_stays (E := E_law30_EwcostRises) (fn := Try.f6) (c := C_law30_EwcostRises) (tyOk_of_table rfl tis_ok) (fun w S hg => ⟨⟨(fns_cons (law30_alive_sound w S hg) (fns_cons (ewcost_Len_sound w S hg) (fns_cons (ewcost_Fits_sound w S hg) (fns_cons (ewcost_Prefix_sound w S hg) fns_nil)))), fun f sp h => cns_nil f sp h w S⟩, gl_none w S hg, fun _ _ h => by cases h⟩) follows Try.func6 (by kernel_rfl) (by kernel_rfl) (by kernel_rfl) ?_
  intro avs r h
  unfold s_law30_EwcostRises at h
  split at h
  · simp only [Prod.mk.injEq] at h
    obtain ⟨hp, rfl⟩ := h
    obtain ⟨n, hn⟩ := law30_EwcostRises_math _ _ hp
    exact ⟨n, _, (law30_EwcostRises_ev n _ _ _ _).trans hn, .inl rfl⟩
  · cases h
end Go.Av
