import Derived.Test.YtejhjmmdachijaaDoorQpEvD
import Derived.Test.YtejhjmmdachijaaDoorQpN
import Derived.Test.YtejhjmmdachijaaDoorProg
import Derived.KernelRfl
namespace Go.Av
open Go.Proofs
set_option maxRecDepth 100000
set_option linter.unusedVariables false
/-! (*sheave/qpage.page).end -/

noncomputable def E___qpage_page__end : EnvP := ⟨⟨tiOf tis, fnsOf [], cnsOf [], [], 25, (fun _ => none), (fun _ => none), some [25]⟩, (fun x => if x = 11 then some (.osl 5 .byte) else if x = 19 then some (.osl 5 .byte) else none), fun _ => none, fun _ => [], fun _ => none⟩
noncomputable def C___qpage_page__end : Code := Tryd.f40.body.getD .skip
noncomputable def R___qpage_page__end : Array ResultVar := Tryd.f40.results
theorem __qpage_page__end_ev (n : Nat) (p0 : (List UInt8) × (Int × Unit)) (soft1 : Bool) (o1 : Lab) : evFnM E___qpage_page__end n C___qpage_page__end R___qpage_page__end [.pbox (.ppair (.osl 5 .byte) (.ppair (.leaf (.int .i64)) (.leaf .unit))) p0 none, .dat .bool soft1 o1] = __qpage_page__end_sh n p0 soft1 := by
  kernel_rfl
theorem __qpage_page__end_sound : SoundM G Tryd.prog 40 s___qpage_page__end := by
  refine soundM_of_ev G_stays (E := E___qpage_page__end) (fn := Tryd.f40) (c := C___qpage_page__end) (tyOk_of_table rfl tis_ok) (fun w S hg => ⟨⟨fns_nil, fun f sp h => cns_nil f sp h w S⟩, gl_none w S hg, fun _ _ h => by cases h⟩) follows Tryd.func40 (by kernel_rfl) (by kernel_rfl) (by kernel_rfl) ?_
  intro avs r h
  unfold s___qpage_page__end at h
  split at h
  · simp only [Prod.mk.injEq] at h
    obtain ⟨hp, rfl⟩ := h
    obtain ⟨n, hn⟩ := __qpage_page__end_math _ _ hp
    exact ⟨n, (__qpage_page__end_ev n _ _ _).trans hn⟩
  · cases h

/-! (*sheave/qpage.page).put -/

noncomputable def E___qpage_page__put : EnvP := ⟨⟨tiOf tis, fnsOf [], cnsOf [], [], 32, (fun _ => none), (fun _ => none), some [32]⟩, (fun x => if x = 20 then some (.osl 5 .byte) else none), fun _ => none, fun _ => [], (fun x => if x = 40 then some s___qpage_page__end else none)⟩
noncomputable def C___qpage_page__put : Code := Tryd.f38.body.getD .skip
noncomputable def R___qpage_page__put : Array ResultVar := Tryd.f38.results
theorem __qpage_page__put_ev (n : Nat) (p0 : (List UInt8) × (Int × Unit)) (u1 : List UInt8) (o1 : Lab) : evFnM E___qpage_page__put n C___qpage_page__put R___qpage_page__put [.pbox (.ppair (.osl 5 .byte) (.ppair (.leaf (.int .i64)) (.leaf .unit))) p0 none, .dat (.sl .byte) u1 o1] = __qpage_page__put_sh n p0 u1 := by
  kernel_rfl
theorem __qpage_page__put_sound : SoundM G Tryd.prog 38 s___qpage_page__put := by
  refine soundM_of_ev G_stays (E := E___qpage_page__put) (fn := Tryd.f38) (c := C___qpage_page__put) (tyOk_of_table rfl tis_ok) (fun w S hg => ⟨⟨fns_nil, fun f sp h => cns_nil f sp h w S⟩, gl_none w S hg, fun f sp h => (mns_cons (__qpage_page__end_sound w S hg) mns_nil) f sp h⟩) follows Tryd.func38 (by kernel_rfl) (by kernel_rfl) (by kernel_rfl) ?_
  intro avs r h
  unfold s___qpage_page__put at h
  split at h
  · simp only [Prod.mk.injEq] at h
    obtain ⟨hp, rfl⟩ := h
    obtain ⟨n, hn⟩ := __qpage_page__put_math _ _ hp
    exact ⟨n, (__qpage_page__put_ev n _ _ _).trans hn⟩
  · cases h

/-! sheave/qpage.broken -/

noncomputable def E_qpage_broken : EnvP := ⟨⟨tiOf tis, fnsOf [], cnsOf [], [], 45, (fun _ => none), (fun x => if x = 0 then some [] else none), some [4]⟩, fun _ => none, fun _ => none, fun _ => [], fun _ => none⟩
noncomputable def C_qpage_broken : Code := Tryd.f39.body.getD .skip
noncomputable def R_qpage_broken : Array ResultVar := Tryd.f39.results
theorem qpage_broken_ev (n : Nat) (s0 : List UInt8) (o0 : Lab) (at1 : Int) (o1 : Lab) : evFnP E_qpage_broken n C_qpage_broken R_qpage_broken [.dat (.sl .byte) s0 o0, .dat (.int .i64) at1 o1] = qpage_broken_sh n s0 at1 := by
  kernel_rfl
theorem qpage_broken_sound : SoundG G Tryd.prog 39 s_qpage_broken := by
  refine sound_of_evP' G_stays (E := E_qpage_broken) (fn := Tryd.f39) (c := C_qpage_broken) (tyOk_of_table rfl tis_ok) (fun w S hg => ⟨⟨fns_nil, fun f sp h => cns_nil f sp h w S⟩, gl_none w S hg, fun _ _ h => by cases h⟩) follows Tryd.func39 (by kernel_rfl) (by kernel_rfl) (by kernel_rfl) ?_
  intro avs r h
  unfold s_qpage_broken at h
  split at h
  · simp only [Prod.mk.injEq] at h
    obtain ⟨hp, rfl⟩ := h
    obtain ⟨n, hn⟩ := qpage_broken_math _ _ hp
    exact ⟨n, _, (qpage_broken_ev n _ _ _ _).trans hn, .inl rfl⟩
  · cases h

/-! sheave/qpage.Lay -/

noncomputable def E_qpage_Lay : EnvP := ⟨⟨tiOf tis, fnsOf [(22, s_qpage_Unit), (39, s_qpage_broken)], cnsOf [], [], 50, (fun x => if x = 4 then some [0, 3, 4, 5] else none), (fun x => if x = 0 then some [3] else if x = 1 then some [0, 3, 4, 5] else none), some [2]⟩, (fun x => if x = 7 then some (.ppair (.osl 5 .byte) (.ppair (.leaf (.int .i64)) (.leaf .unit))) else if x = 8 then some (.ppair (.osl 5 .byte) (.ppair (.leaf (.int .i64)) (.leaf .unit))) else none), fun _ => none, fun _ => [], (fun x => if x = 38 then some s___qpage_page__put else if x = 40 then some s___qpage_page__end else none)⟩
noncomputable def C_qpage_Lay : Code := Tryd.f16.body.getD .skip
noncomputable def R_qpage_Lay : Array ResultVar := Tryd.f16.results
theorem qpage_Lay_l4_ok (K : Ex → Fr → Option AV) : ∀ (n : Nat) (s0 : List UInt8) (p3 : (List UInt8) × (Int × Unit)) (at5 : Int), evLP E_qpage_Lay n (sub C_qpage_Lay [1, 1, 1, 0, 1, 0, 0]) K (frOf [(0, (.dat (.sl .byte) s0 none)), (3, (.pbox (.ppair (.osl 5 .byte) (.ppair (.leaf (.int .i64)) (.leaf .unit))) p3 none)), (4, (.padr 3 [.clo 38 true])), (5, (.dat (.int .i64) at5 none))]) = qpage_Lay_l4 (fun p3 => K (.exit 0) (frOf [(3, (.pbox (.ppair (.osl 5 .byte) (.ppair (.leaf (.int .i64)) (.leaf .unit))) p3 none))])) n s0 p3 at5 := by
  intro n
  induction n with
  | zero => intros; rfl
  | succ n IH =>
  intro s0 p3 at5
  have ih : (fun s0 p3 at5 => evLP E_qpage_Lay n (sub C_qpage_Lay [1, 1, 1, 0, 1, 0, 0]) K (frOf [(0, (.dat (.sl .byte) s0 none)), (3, (.pbox (.ppair (.osl 5 .byte) (.ppair (.leaf (.int .i64)) (.leaf .unit))) p3 none)), (4, (.padr 3 [.clo 38 true])), (5, (.dat (.int .i64) at5 none))])) = qpage_Lay_l4 (fun p3 => K (.exit 0) (frOf [(3, (.pbox (.ppair (.osl 5 .byte) (.ppair (.leaf (.int .i64)) (.leaf .unit))) p3 none))])) n := by
    funext s0 p3 at5
    exact IH s0 p3 at5
  show _ = qpage_Lay_l4_b (fun p3 => K (.exit 0) (frOf [(3, (.pbox (.ppair (.osl 5 .byte) (.ppair (.leaf (.int .i64)) (.leaf .unit))) p3 none))])) (qpage_Lay_l4 (fun p3 => K (.exit 0) (frOf [(3, (.pbox (.ppair (.osl 5 .byte) (.ppair (.leaf (.int .i64)) (.leaf .unit))) p3 none))])) n) n s0 p3 at5
  rw [← ih]
  kernel_rfl
theorem qpage_Lay_k4_0_ok (n : Nat) (p3 : (List UInt8) × (Int × Unit)) : (kBlockP 0 (E_qpage_Lay.cutb 0) (kSeq (evCP E_qpage_Lay (evLP E_qpage_Lay n) (sub C_qpage_Lay [1, 1, 1, 1])) (kFnP E_qpage_Lay R_qpage_Lay))) (.exit 0) (frOf [(3, (.pbox (.ppair (.osl 5 .byte) (.ppair (.leaf (.int .i64)) (.leaf .unit))) p3 none))]) = qpage_Lay_k4_0 n p3 := by
  kernel_rfl
theorem qpage_Lay_ev (n : Nat) (s0 : List UInt8) (o0 : Lab) : evFnP E_qpage_Lay n C_qpage_Lay R_qpage_Lay [.dat (.sl .byte) s0 o0] = qpage_Lay_sh n s0 := by
  unfold qpage_Lay_sh
  rw [show qpage_Lay_l4 (qpage_Lay_k4_0 n) n = (fun s0 p3 at5 => evLP E_qpage_Lay n (sub C_qpage_Lay [1, 1, 1, 0, 1, 0, 0]) (kBlockP 0 (E_qpage_Lay.cutb 0) (kSeq (evCP E_qpage_Lay (evLP E_qpage_Lay n) (sub C_qpage_Lay [1, 1, 1, 1])) (kFnP E_qpage_Lay R_qpage_Lay))) (frOf [(0, (.dat (.sl .byte) s0 none)), (3, (.pbox (.ppair (.osl 5 .byte) (.ppair (.leaf (.int .i64)) (.leaf .unit))) p3 none)), (4, (.padr 3 [.clo 38 true])), (5, (.dat (.int .i64) at5 none))])) from by
    funext s0 p3 at5
    refine Eq.trans ?_ (qpage_Lay_l4_ok (kBlockP 0 (E_qpage_Lay.cutb 0) (kSeq (evCP E_qpage_Lay (evLP E_qpage_Lay n) (sub C_qpage_Lay [1, 1, 1, 1])) (kFnP E_qpage_Lay R_qpage_Lay))) n s0 p3 at5).symm
    rw [show (fun p3 => (kBlockP 0 (E_qpage_Lay.cutb 0) (kSeq (evCP E_qpage_Lay (evLP E_qpage_Lay n) (sub C_qpage_Lay [1, 1, 1, 1])) (kFnP E_qpage_Lay R_qpage_Lay))) (.exit 0) (frOf [(3, (.pbox (.ppair (.osl 5 .byte) (.ppair (.leaf (.int .i64)) (.leaf .unit))) p3 none))])) = (qpage_Lay_k4_0 n) from by
      funext p3
      exact qpage_Lay_k4_0_ok n p3]
    all_goals kernel_rfl]
  kernel_rfl
theorem qpage_Lay_sound : SoundG G Tryd.prog 16 s_qpage_Lay := by
  refine sound_of_evP' G_stays (E := E_qpage_Lay) (fn := Tryd.f16) (c := C_qpage_Lay) (tyOk_of_table rfl tis_ok) (fun w S hg => ⟨⟨(fns_cons (qpage_Unit_sound w S hg) (fns_cons (qpage_broken_sound w S hg) fns_nil)), fun f sp h => cns_nil f sp h w S⟩, gl_none w S hg, fun f sp h => (mns_cons (__qpage_page__put_sound w S hg) (mns_cons (__qpage_page__end_sound w S hg) mns_nil)) f sp h⟩) follows Tryd.func16 (by kernel_rfl) (by kernel_rfl) (by kernel_rfl) ?_
  intro avs r h
  unfold s_qpage_Lay at h
  split at h
  · simp only [Prod.mk.injEq] at h
    obtain ⟨hp, rfl⟩ := h
    obtain ⟨n, hn⟩ := qpage_Lay_math _ hp
    exact ⟨n, _, (qpage_Lay_ev n _ _).trans hn, .inl rfl⟩
  · cases h

/-! sheave/qpage.Breaks -/

noncomputable def E_qpage_Breaks : EnvP := ⟨⟨tiOf tis, fnsOf [(39, s_qpage_broken)], cnsOf [], [], 30, (fun x => if x = 3 then some [0, 3, 4] else none), (fun x => if x = 0 then some [3] else if x = 1 then some [0, 3, 4] else none), some [2]⟩, fun _ => none, fun _ => none, fun _ => [], fun _ => none⟩
noncomputable def C_qpage_Breaks : Code := Tryd.f17.body.getD .skip
noncomputable def R_qpage_Breaks : Array ResultVar := Tryd.f17.results
theorem qpage_Breaks_l3_ok (K : Ex → Fr → Option AV) : ∀ (n : Nat) (s0 : List UInt8) (out3 : List UInt8) (at4 : Int), evLP E_qpage_Breaks n (sub C_qpage_Breaks [1, 1, 0, 1, 0, 0]) K (frOf [(0, (.dat (.sl .byte) s0 none)), (3, (.dat (.sl .byte) out3 (some (3, 5)))), (4, (.dat (.int .i64) at4 none))]) = qpage_Breaks_l3 (fun out3 => K (.exit 0) (frOf [(3, (.dat (.sl .byte) out3 (some (3, 5))))])) n s0 out3 at4 := by
  intro n
  induction n with
  | zero => intros; rfl
  | succ n IH =>
  intro s0 out3 at4
  have ih : (fun s0 out3 at4 => evLP E_qpage_Breaks n (sub C_qpage_Breaks [1, 1, 0, 1, 0, 0]) K (frOf [(0, (.dat (.sl .byte) s0 none)), (3, (.dat (.sl .byte) out3 (some (3, 5)))), (4, (.dat (.int .i64) at4 none))])) = qpage_Breaks_l3 (fun out3 => K (.exit 0) (frOf [(3, (.dat (.sl .byte) out3 (some (3, 5))))])) n := by
    funext s0 out3 at4
    exact IH s0 out3 at4
  show _ = qpage_Breaks_l3_b (fun out3 => K (.exit 0) (frOf [(3, (.dat (.sl .byte) out3 (some (3, 5))))])) (qpage_Breaks_l3 (fun out3 => K (.exit 0) (frOf [(3, (.dat (.sl .byte) out3 (some (3, 5))))])) n) n s0 out3 at4
  rw [← ih]
  kernel_rfl
theorem qpage_Breaks_k3_0_ok (n : Nat) (out3 : List UInt8) : (kBlockP 0 (E_qpage_Breaks.cutb 0) (kSeq (evCP E_qpage_Breaks (evLP E_qpage_Breaks n) (sub C_qpage_Breaks [1, 1, 1])) (kFnP E_qpage_Breaks R_qpage_Breaks))) (.exit 0) (frOf [(3, (.dat (.sl .byte) out3 (some (3, 5))))]) = qpage_Breaks_k3_0 n out3 := by
  kernel_rfl
theorem qpage_Breaks_ev (n : Nat) (s0 : List UInt8) (o0 : Lab) : evFnP E_qpage_Breaks n C_qpage_Breaks R_qpage_Breaks [.dat (.sl .byte) s0 o0] = qpage_Breaks_sh n s0 := by
  unfold qpage_Breaks_sh
  rw [show qpage_Breaks_l3 (qpage_Breaks_k3_0 n) n = (fun s0 out3 at4 => evLP E_qpage_Breaks n (sub C_qpage_Breaks [1, 1, 0, 1, 0, 0]) (kBlockP 0 (E_qpage_Breaks.cutb 0) (kSeq (evCP E_qpage_Breaks (evLP E_qpage_Breaks n) (sub C_qpage_Breaks [1, 1, 1])) (kFnP E_qpage_Breaks R_qpage_Breaks))) (frOf [(0, (.dat (.sl .byte) s0 none)), (3, (.dat (.sl .byte) out3 (some (3, 5)))), (4, (.dat (.int .i64) at4 none))])) from by
    funext s0 out3 at4
    refine Eq.trans ?_ (qpage_Breaks_l3_ok (kBlockP 0 (E_qpage_Breaks.cutb 0) (kSeq (evCP E_qpage_Breaks (evLP E_qpage_Breaks n) (sub C_qpage_Breaks [1, 1, 1])) (kFnP E_qpage_Breaks R_qpage_Breaks))) n s0 out3 at4).symm
    rw [show (fun out3 => (kBlockP 0 (E_qpage_Breaks.cutb 0) (kSeq (evCP E_qpage_Breaks (evLP E_qpage_Breaks n) (sub C_qpage_Breaks [1, 1, 1])) (kFnP E_qpage_Breaks R_qpage_Breaks))) (.exit 0) (frOf [(3, (.dat (.sl .byte) out3 (some (3, 5))))])) = (qpage_Breaks_k3_0 n) from by
      funext out3
      exact qpage_Breaks_k3_0_ok n out3]
    all_goals kernel_rfl]
  kernel_rfl
theorem qpage_Breaks_sound : SoundG G Tryd.prog 17 s_qpage_Breaks := by
  refine sound_of_evP' G_stays (E := E_qpage_Breaks) (fn := Tryd.f17) (c := C_qpage_Breaks) (tyOk_of_table rfl tis_ok) (fun w S hg => ⟨⟨(fns_cons (qpage_broken_sound w S hg) fns_nil), fun f sp h => cns_nil f sp h w S⟩, gl_none w S hg, fun _ _ h => by cases h⟩) follows Tryd.func17 (by kernel_rfl) (by kernel_rfl) (by kernel_rfl) ?_
  intro avs r h
  unfold s_qpage_Breaks at h
  split at h
  · simp only [Prod.mk.injEq] at h
    obtain ⟨hp, rfl⟩ := h
    obtain ⟨n, hn⟩ := qpage_Breaks_math _ hp
    exact ⟨n, _, (qpage_Breaks_ev n _ _).trans hn, .inl rfl⟩
  · cases h

/-! sheave/sheavelaw18.alive -/

noncomputable def E_law18_alive : EnvP := ⟨⟨tiOf tis, fnsOf [(12, s_qpage_Check), (14, s_qpage_Soft), (16, s_qpage_Lay), (17, s_qpage_Breaks)], cnsOf [], [], 32, (fun _ => none), (fun _ => none), some [0]⟩, fun _ => none, fun _ => none, fun _ => [], fun _ => none⟩
noncomputable def C_law18_alive : Code := Tryd.f11.body.getD .skip
noncomputable def R_law18_alive : Array ResultVar := Tryd.f11.results
theorem law18_alive_ev (n : Nat)  : evFnP E_law18_alive n C_law18_alive R_law18_alive [] = law18_alive_sh n  := by
  kernel_rfl
theorem law18_alive_sound : SoundG G Tryd.prog 11 s_law18_alive := by
  refine sound_of_evP' G_stays (E := E_law18_alive) (fn := Tryd.f11) (c := C_law18_alive) (tyOk_of_table rfl tis_ok) (fun w S hg => ⟨⟨(fns_cons (qpage_Check_sound w S hg) (fns_cons (qpage_Soft_sound w S hg) (fns_cons (qpage_Lay_sound w S hg) (fns_cons (qpage_Breaks_sound w S hg) fns_nil)))), fun f sp h => cns_nil f sp h w S⟩, gl_none w S hg, fun _ _ h => by cases h⟩) follows Tryd.func11 (by kernel_rfl) (by kernel_rfl) (by kernel_rfl) ?_
  intro avs r h
  unfold s_law18_alive at h
  split at h
  · simp only [Prod.mk.injEq, true_and] at h
    subst h
    obtain ⟨n, hn⟩ := law18_alive_math 
    exact ⟨n, _, (law18_alive_ev n ).trans hn, .inl rfl⟩
  · cases h

/-! sheave/sheaveref18.Lines -/

noncomputable def E_ref18_Lines : EnvP := ⟨⟨tiOf tis, fnsOf [], cnsOf [], [], 69, (fun x => if x = 3 then some [0, 4, 5] else none), (fun x => if x = 0 then some [4] else if x = 1 then some [0, 4, 5] else none), some [2, 3]⟩, (fun x => if x = 2 then some (.psl 22 (.osl 5 .byte)) else if x = 8 then some (.psl 22 (.osl 5 .byte)) else if x = 39 then some (.psl 22 (.osl 5 .byte)) else if x = 40 then some (.psl 22 (.osl 5 .byte)) else if x = 54 then some (.osl 5 .byte) else none), fun _ => none, fun _ => [], fun _ => none⟩
noncomputable def C_ref18_Lines : Code := Tryd.f35.body.getD .skip
noncomputable def R_ref18_Lines : Array ResultVar := Tryd.f35.results
theorem ref18_Lines_l3_ok (K : Ex → Fr → Option AV) : ∀ (n : Nat) (s0 : List UInt8) (out4 : List (List UInt8)) (i5 : Int), evLP E_ref18_Lines n (sub C_ref18_Lines [1, 1, 0, 1, 0, 0]) K (frOf [(0, (.dat (.sl .byte) s0 none)), (4, (.pv (.psl 22 (.osl 5 .byte)) out4 none)), (5, (.dat (.int .i64) i5 none))]) = ref18_Lines_l3 (fun out4 => K (.exit 0) (frOf [(4, (.pv (.psl 22 (.osl 5 .byte)) out4 none))])) n s0 out4 i5 := by
  intro n
  induction n with
  | zero => intros; rfl
  | succ n IH =>
  intro s0 out4 i5
  have ih : (fun s0 out4 i5 => evLP E_ref18_Lines n (sub C_ref18_Lines [1, 1, 0, 1, 0, 0]) K (frOf [(0, (.dat (.sl .byte) s0 none)), (4, (.pv (.psl 22 (.osl 5 .byte)) out4 none)), (5, (.dat (.int .i64) i5 none))])) = ref18_Lines_l3 (fun out4 => K (.exit 0) (frOf [(4, (.pv (.psl 22 (.osl 5 .byte)) out4 none))])) n := by
    funext s0 out4 i5
    exact IH s0 out4 i5
  show _ = ref18_Lines_l3_b (fun out4 => K (.exit 0) (frOf [(4, (.pv (.psl 22 (.osl 5 .byte)) out4 none))])) (ref18_Lines_l3 (fun out4 => K (.exit 0) (frOf [(4, (.pv (.psl 22 (.osl 5 .byte)) out4 none))])) n) n s0 out4 i5
  rw [← ih]
  kernel_rfl
theorem ref18_Lines_k3_0_ok (n : Nat) (out4 : List (List UInt8)) : (kBlockP 0 (E_ref18_Lines.cutb 0) (kSeq (evCP E_ref18_Lines (evLP E_ref18_Lines n) (sub C_ref18_Lines [1, 1, 1])) (kFnP E_ref18_Lines R_ref18_Lines))) (.exit 0) (frOf [(4, (.pv (.psl 22 (.osl 5 .byte)) out4 none))]) = ref18_Lines_k3_0 n out4 := by
  kernel_rfl
theorem ref18_Lines_ev (n : Nat) (s0 : List UInt8) (o0 : Lab) : evFnP E_ref18_Lines n C_ref18_Lines R_ref18_Lines [.dat (.sl .byte) s0 o0] = ref18_Lines_sh n s0 := by
  unfold ref18_Lines_sh
  rw [show ref18_Lines_l3 (ref18_Lines_k3_0 n) n = (fun s0 out4 i5 => evLP E_ref18_Lines n (sub C_ref18_Lines [1, 1, 0, 1, 0, 0]) (kBlockP 0 (E_ref18_Lines.cutb 0) (kSeq (evCP E_ref18_Lines (evLP E_ref18_Lines n) (sub C_ref18_Lines [1, 1, 1])) (kFnP E_ref18_Lines R_ref18_Lines))) (frOf [(0, (.dat (.sl .byte) s0 none)), (4, (.pv (.psl 22 (.osl 5 .byte)) out4 none)), (5, (.dat (.int .i64) i5 none))])) from by
    funext s0 out4 i5
    refine Eq.trans ?_ (ref18_Lines_l3_ok (kBlockP 0 (E_ref18_Lines.cutb 0) (kSeq (evCP E_ref18_Lines (evLP E_ref18_Lines n) (sub C_ref18_Lines [1, 1, 1])) (kFnP E_ref18_Lines R_ref18_Lines))) n s0 out4 i5).symm
    rw [show (fun out4 => (kBlockP 0 (E_ref18_Lines.cutb 0) (kSeq (evCP E_ref18_Lines (evLP E_ref18_Lines n) (sub C_ref18_Lines [1, 1, 1])) (kFnP E_ref18_Lines R_ref18_Lines))) (.exit 0) (frOf [(4, (.pv (.psl 22 (.osl 5 .byte)) out4 none))])) = (ref18_Lines_k3_0 n) from by
      funext out4
      exact ref18_Lines_k3_0_ok n out4]
    all_goals kernel_rfl]
  kernel_rfl
theorem ref18_Lines_sound : SoundG G Tryd.prog 35 s_ref18_Lines := by
  refine sound_of_evP' G_stays (E := E_ref18_Lines) (fn := Tryd.f35) (c := C_ref18_Lines) (tyOk_of_table rfl tis_ok) (fun w S hg => ⟨⟨fns_nil, fun f sp h => cns_nil f sp h w S⟩, gl_none w S hg, fun _ _ h => by cases h⟩) follows Tryd.func35 (by kernel_rfl) (by kernel_rfl) (by kernel_rfl) ?_
  intro avs r h
  unfold s_ref18_Lines at h
  split at h
  · simp only [Prod.mk.injEq] at h
    obtain ⟨hp, rfl⟩ := h
    obtain ⟨n, hn⟩ := ref18_Lines_math _ hp
    exact ⟨n, _, (ref18_Lines_ev n _ _).trans hn, .inl rfl⟩
  · cases h

end Go.Av
