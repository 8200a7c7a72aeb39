import Derived.Test.YtcfhfjjohmdaoaaDoorFiEvE
import Derived.Test.YtcfhfjjohmdaoaaDoorFiN
import Derived.Test.YtcfhfjjohmdaoaaDoorProg
import Derived.KernelRfl
namespace Go.Av
open Go.Proofs
set_option maxRecDepth 100000
/-! sheave/sheaveref48.Read -/

noncomputable def E_ref48_Read : EnvP := ⟨⟨tiOf tis, fnsOf [(26, s_ref48_Raw), (31, s_ref48_One)], cnsOf [], [], 40, (fun x => if x = 5 then some [4, 5, 6, 8] else none), (fun x => if x = 0 then some [4, 5] else if x = 1 then some [4, 5, 6, 8] else none), some [2, 3]⟩, fun _ => none, fun _ => none, fun _ => []⟩
noncomputable def C_ref48_Read : Code := Tryd.f25.body.getD .skip
noncomputable def R_ref48_Read : Array ResultVar := Tryd.f25.results
theorem ref48_Read_l5_ok (K : Ex → Fr → Option AV) : ∀ (n : Nat) (out4 : List ((List UInt8) × ((List UInt8) × Unit))) (bad5 : Int) (l6 : List (List UInt8)) (i8 : Int), evLP E_ref48_Read n (sub C_ref48_Read [1, 1, 1, 1, 0, 1, 0, 0]) K (frOf [(4, (.dat (.sl (.pair (.sl .byte) (.pair (.sl .byte) .unit))) out4 (some (4, 50)))), (5, (.dat (.int .i64) bad5 none)), (6, (.dat (.sl (.sl .byte)) l6 none)), (8, (.dat (.int .i64) i8 none))]) = ref48_Read_l5 (fun out4 bad5 => K (.exit 0) (frOf [(4, (.dat (.sl (.pair (.sl .byte) (.pair (.sl .byte) .unit))) out4 (some (4, 50)))), (5, (.dat (.int .i64) bad5 none))])) n out4 bad5 l6 i8 := by
  intro n
  induction n with
  | zero => intros; rfl
  | succ n IH =>
  intro out4 bad5 l6 i8
  have ih : (fun out4 bad5 l6 i8 => evLP E_ref48_Read n (sub C_ref48_Read [1, 1, 1, 1, 0, 1, 0, 0]) K (frOf [(4, (.dat (.sl (.pair (.sl .byte) (.pair (.sl .byte) .unit))) out4 (some (4, 50)))), (5, (.dat (.int .i64) bad5 none)), (6, (.dat (.sl (.sl .byte)) l6 none)), (8, (.dat (.int .i64) i8 none))])) = ref48_Read_l5 (fun out4 bad5 => K (.exit 0) (frOf [(4, (.dat (.sl (.pair (.sl .byte) (.pair (.sl .byte) .unit))) out4 (some (4, 50)))), (5, (.dat (.int .i64) bad5 none))])) n := by
    funext out4 bad5 l6 i8
    exact IH out4 bad5 l6 i8
  show _ = ref48_Read_l5_b (fun out4 bad5 => K (.exit 0) (frOf [(4, (.dat (.sl (.pair (.sl .byte) (.pair (.sl .byte) .unit))) out4 (some (4, 50)))), (5, (.dat (.int .i64) bad5 none))])) (ref48_Read_l5 (fun out4 bad5 => K (.exit 0) (frOf [(4, (.dat (.sl (.pair (.sl .byte) (.pair (.sl .byte) .unit))) out4 (some (4, 50)))), (5, (.dat (.int .i64) bad5 none))])) n) n out4 bad5 l6 i8
  rw [← ih]
  kernel_rfl
theorem ref48_Read_k5_0_ok (n : Nat) (out4 : List ((List UInt8) × ((List UInt8) × Unit))) (bad5 : Int) : (kBlockP 0 (E_ref48_Read.cutb 0) (kSeq (evCP E_ref48_Read (evLP E_ref48_Read n) (sub C_ref48_Read [1, 1, 1, 1, 1])) (kFnP E_ref48_Read R_ref48_Read))) (.exit 0) (frOf [(4, (.dat (.sl (.pair (.sl .byte) (.pair (.sl .byte) .unit))) out4 (some (4, 50)))), (5, (.dat (.int .i64) bad5 none))]) = ref48_Read_k5_0 n out4 bad5 := by
  kernel_rfl
theorem ref48_Read_ev (n : Nat) (s0 : List UInt8) (o0 : Lab) : evFnP E_ref48_Read n C_ref48_Read R_ref48_Read [.dat (.sl .byte) s0 o0] = ref48_Read_sh n s0 := by
  unfold ref48_Read_sh
  rw [show ref48_Read_l5 (ref48_Read_k5_0 n) n = (fun out4 bad5 l6 i8 => evLP E_ref48_Read n (sub C_ref48_Read [1, 1, 1, 1, 0, 1, 0, 0]) (kBlockP 0 (E_ref48_Read.cutb 0) (kSeq (evCP E_ref48_Read (evLP E_ref48_Read n) (sub C_ref48_Read [1, 1, 1, 1, 1])) (kFnP E_ref48_Read R_ref48_Read))) (frOf [(4, (.dat (.sl (.pair (.sl .byte) (.pair (.sl .byte) .unit))) out4 (some (4, 50)))), (5, (.dat (.int .i64) bad5 none)), (6, (.dat (.sl (.sl .byte)) l6 none)), (8, (.dat (.int .i64) i8 none))])) from by
    funext out4 bad5 l6 i8
    refine Eq.trans ?_ (ref48_Read_l5_ok (kBlockP 0 (E_ref48_Read.cutb 0) (kSeq (evCP E_ref48_Read (evLP E_ref48_Read n) (sub C_ref48_Read [1, 1, 1, 1, 1])) (kFnP E_ref48_Read R_ref48_Read))) n out4 bad5 l6 i8).symm
    rw [show (fun out4 bad5 => (kBlockP 0 (E_ref48_Read.cutb 0) (kSeq (evCP E_ref48_Read (evLP E_ref48_Read n) (sub C_ref48_Read [1, 1, 1, 1, 1])) (kFnP E_ref48_Read R_ref48_Read))) (.exit 0) (frOf [(4, (.dat (.sl (.pair (.sl .byte) (.pair (.sl .byte) .unit))) out4 (some (4, 50)))), (5, (.dat (.int .i64) bad5 none))])) = (ref48_Read_k5_0 n) from by
      funext out4 bad5
      exact ref48_Read_k5_0_ok n out4 bad5]
    all_goals kernel_rfl]
  kernel_rfl
theorem ref48_Read_sound : SoundG G Tryd.prog 25 s_ref48_Read := by
  refine sound_of_evP' G_stays (E := E_ref48_Read) (fn := Tryd.f25) (c := C_ref48_Read) (tyOk_of_table rfl tis_ok) (fun w S hg => ⟨⟨(fns_cons (ref48_Raw_sound w S hg) (fns_cons (ref48_One_sound w S hg) fns_nil)), fun f sp h => cns_nil f sp h w S⟩, gl_none w S hg⟩) follows Tryd.func25 (by kernel_rfl) (by kernel_rfl) (by kernel_rfl) ?_
  intro avs r h
  unfold s_ref48_Read at h
  split at h
  · simp only [Prod.mk.injEq] at h
    obtain ⟨hp, rfl⟩ := h
    obtain ⟨n, hn⟩ := ref48_Read_math _ hp
    exact ⟨n, _, (ref48_Read_ev n _ _).trans hn, .inl rfl⟩
  · cases h

/-! sheave/sheavelaw48.same -/

noncomputable def E_law48_same : EnvP := ⟨⟨tiOf tis, fnsOf [(15, s_ref01_Like)], cnsOf [], [], 43, (fun x => if x = 4 then some [0, 1, 12, 13] else none), (fun x => if x = 0 then some [] else if x = 1 then some [0, 1, 12, 13] else none), some [4]⟩, fun _ => none, fun _ => none, fun _ => []⟩
noncomputable def C_law48_same : Code := Tryd.f28.body.getD .skip
noncomputable def R_law48_same : Array ResultVar := Tryd.f28.results
theorem law48_same_l4_ok (K : Ex → Fr → Option AV) : ∀ (n : Nat) (a0 : List ((List UInt8) × ((List UInt8) × Unit))) (b1 : List ((List UInt8) × ((List UInt8) × Unit))) (s12 : Int) (s13 : Int), evLP E_law48_same n (sub C_law48_same [1, 1, 0, 1, 0, 0]) K (frOf [(0, (.dat (.sl (.pair (.sl .byte) (.pair (.sl .byte) .unit))) a0 none)), (1, (.dat (.sl (.pair (.sl .byte) (.pair (.sl .byte) .unit))) b1 none)), (12, (.dat (.int .i64) s12 none)), (13, (.dat (.int .i64) s13 none))]) = law48_same_l4 (fun s4 => K .ret (frOf [(4, (.dat .bool s4 none))])) (K (.exit 0) (frOf [])) n a0 b1 s12 s13 := by
  intro n
  induction n with
  | zero => intros; rfl
  | succ n IH =>
  intro a0 b1 s12 s13
  have ih : (fun a0 b1 s12 s13 => evLP E_law48_same n (sub C_law48_same [1, 1, 0, 1, 0, 0]) K (frOf [(0, (.dat (.sl (.pair (.sl .byte) (.pair (.sl .byte) .unit))) a0 none)), (1, (.dat (.sl (.pair (.sl .byte) (.pair (.sl .byte) .unit))) b1 none)), (12, (.dat (.int .i64) s12 none)), (13, (.dat (.int .i64) s13 none))])) = law48_same_l4 (fun s4 => K .ret (frOf [(4, (.dat .bool s4 none))])) (K (.exit 0) (frOf [])) n := by
    funext a0 b1 s12 s13
    exact IH a0 b1 s12 s13
  show _ = law48_same_l4_b (fun s4 => K .ret (frOf [(4, (.dat .bool s4 none))])) (K (.exit 0) (frOf [])) (law48_same_l4 (fun s4 => K .ret (frOf [(4, (.dat .bool s4 none))])) (K (.exit 0) (frOf [])) n) n a0 b1 s12 s13
  rw [← ih]
  kernel_rfl
theorem law48_same_k4_0_ok (n : Nat)  : (kBlockP 0 (E_law48_same.cutb 0) (kSeq (evCP E_law48_same (evLP E_law48_same n) (sub C_law48_same [1, 1, 1])) (kFnP E_law48_same R_law48_same))) (.exit 0) (frOf []) = law48_same_k4_0 n  := by
  kernel_rfl
theorem law48_same_ev (n : Nat) (a0 : List ((List UInt8) × ((List UInt8) × Unit))) (o0 : Lab) (b1 : List ((List UInt8) × ((List UInt8) × Unit))) (o1 : Lab) : evFnP E_law48_same n C_law48_same R_law48_same [.dat (.sl (.pair (.sl .byte) (.pair (.sl .byte) .unit))) a0 o0, .dat (.sl (.pair (.sl .byte) (.pair (.sl .byte) .unit))) b1 o1] = law48_same_sh n a0 b1 := by
  unfold law48_same_sh
  rw [show law48_same_l4 law48_same_ret (law48_same_k4_0 n) n = (fun a0 b1 s12 s13 => evLP E_law48_same n (sub C_law48_same [1, 1, 0, 1, 0, 0]) (kBlockP 0 (E_law48_same.cutb 0) (kSeq (evCP E_law48_same (evLP E_law48_same n) (sub C_law48_same [1, 1, 1])) (kFnP E_law48_same R_law48_same))) (frOf [(0, (.dat (.sl (.pair (.sl .byte) (.pair (.sl .byte) .unit))) a0 none)), (1, (.dat (.sl (.pair (.sl .byte) (.pair (.sl .byte) .unit))) b1 none)), (12, (.dat (.int .i64) s12 none)), (13, (.dat (.int .i64) s13 none))])) from by
    funext a0 b1 s12 s13
    refine Eq.trans ?_ (law48_same_l4_ok (kBlockP 0 (E_law48_same.cutb 0) (kSeq (evCP E_law48_same (evLP E_law48_same n) (sub C_law48_same [1, 1, 1])) (kFnP E_law48_same R_law48_same))) n a0 b1 s12 s13).symm
    rw [show ((kBlockP 0 (E_law48_same.cutb 0) (kSeq (evCP E_law48_same (evLP E_law48_same n) (sub C_law48_same [1, 1, 1])) (kFnP E_law48_same R_law48_same))) (.exit 0) (frOf [])) = (law48_same_k4_0 n) from by
      exact law48_same_k4_0_ok n ]
    all_goals kernel_rfl]
  kernel_rfl
theorem law48_same_sound : SoundG G Tryd.prog 28 s_law48_same := by
  refine sound_of_evP' G_stays (E := E_law48_same) (fn := Tryd.f28) (c := C_law48_same) (tyOk_of_table rfl tis_ok) (fun w S hg => ⟨⟨(fns_cons (ref01_Like_sound w S hg) fns_nil), fun f sp h => cns_nil f sp h w S⟩, gl_none w S hg⟩) follows Tryd.func28 (by kernel_rfl) (by kernel_rfl) (by kernel_rfl) ?_
  intro avs r h
  unfold s_law48_same at h
  split at h
  · simp only [Prod.mk.injEq] at h
    obtain ⟨hp, rfl⟩ := h
    obtain ⟨n, hn⟩ := law48_same_math _ _ hp
    exact ⟨n, _, (law48_same_ev n _ _ _ _).trans hn, .inl rfl⟩
  · cases h

/-! sheave/sheavelaw48.far -/

noncomputable def E_law48_far : EnvP := ⟨⟨tiOf tis, fnsOf [], cnsOf [], [], 29, (fun x => if x = 2 then some [0, 9, 10, 11] else none), (fun x => if x = 0 then some [0] else if x = 1 then some [0, 9, 10, 11] else none), some [2]⟩, fun _ => none, fun _ => none, fun _ => []⟩
noncomputable def C_law48_far : Code := Tryd.f32.body.getD .skip
noncomputable def R_law48_far : Array ResultVar := Tryd.f32.results
theorem law48_far_l2_ok (K : Ex → Fr → Option AV) : ∀ (n : Nat) (l0 : List ((List UInt8) × ((List UInt8) × Unit))) (s9 : List ((List UInt8) × ((List UInt8) × Unit))) (s10 : Int) (s11 : Int), evLP E_law48_far n (sub C_law48_far [1, 0, 1, 0, 0]) K (frOf [(0, (.dat (.sl (.pair (.sl .byte) (.pair (.sl .byte) .unit))) l0 none)), (9, (.dat (.sl (.pair (.sl .byte) (.pair (.sl .byte) .unit))) s9 none)), (10, (.dat (.int .i64) s10 none)), (11, (.dat (.int .i64) s11 none))]) = law48_far_l2 (fun s2 => K .ret (frOf [(2, (.dat .bool s2 none))])) (fun l0 => K (.exit 0) (frOf [(0, (.dat (.sl (.pair (.sl .byte) (.pair (.sl .byte) .unit))) l0 none))])) n l0 s9 s10 s11 := by
  intro n
  induction n with
  | zero => intros; rfl
  | succ n IH =>
  intro l0 s9 s10 s11
  have ih : (fun l0 s9 s10 s11 => evLP E_law48_far n (sub C_law48_far [1, 0, 1, 0, 0]) K (frOf [(0, (.dat (.sl (.pair (.sl .byte) (.pair (.sl .byte) .unit))) l0 none)), (9, (.dat (.sl (.pair (.sl .byte) (.pair (.sl .byte) .unit))) s9 none)), (10, (.dat (.int .i64) s10 none)), (11, (.dat (.int .i64) s11 none))])) = law48_far_l2 (fun s2 => K .ret (frOf [(2, (.dat .bool s2 none))])) (fun l0 => K (.exit 0) (frOf [(0, (.dat (.sl (.pair (.sl .byte) (.pair (.sl .byte) .unit))) l0 none))])) n := by
    funext l0 s9 s10 s11
    exact IH l0 s9 s10 s11
  show _ = law48_far_l2_b (fun s2 => K .ret (frOf [(2, (.dat .bool s2 none))])) (fun l0 => K (.exit 0) (frOf [(0, (.dat (.sl (.pair (.sl .byte) (.pair (.sl .byte) .unit))) l0 none))])) (law48_far_l2 (fun s2 => K .ret (frOf [(2, (.dat .bool s2 none))])) (fun l0 => K (.exit 0) (frOf [(0, (.dat (.sl (.pair (.sl .byte) (.pair (.sl .byte) .unit))) l0 none))])) n) n l0 s9 s10 s11
  rw [← ih]
  kernel_rfl
theorem law48_far_k2_0_ok (n : Nat) (l0 : List ((List UInt8) × ((List UInt8) × Unit))) : (kBlockP 0 (E_law48_far.cutb 0) (kSeq (evCP E_law48_far (evLP E_law48_far n) (sub C_law48_far [1, 1])) (kFnP E_law48_far R_law48_far))) (.exit 0) (frOf [(0, (.dat (.sl (.pair (.sl .byte) (.pair (.sl .byte) .unit))) l0 none))]) = law48_far_k2_0 n l0 := by
  kernel_rfl
theorem law48_far_ev (n : Nat) (l0 : List ((List UInt8) × ((List UInt8) × Unit))) (o0 : Lab) : evFnP E_law48_far n C_law48_far R_law48_far [.dat (.sl (.pair (.sl .byte) (.pair (.sl .byte) .unit))) l0 o0] = law48_far_sh n l0 := by
  unfold law48_far_sh
  rw [show law48_far_l2 law48_far_ret (law48_far_k2_0 n) n = (fun l0 s9 s10 s11 => evLP E_law48_far n (sub C_law48_far [1, 0, 1, 0, 0]) (kBlockP 0 (E_law48_far.cutb 0) (kSeq (evCP E_law48_far (evLP E_law48_far n) (sub C_law48_far [1, 1])) (kFnP E_law48_far R_law48_far))) (frOf [(0, (.dat (.sl (.pair (.sl .byte) (.pair (.sl .byte) .unit))) l0 none)), (9, (.dat (.sl (.pair (.sl .byte) (.pair (.sl .byte) .unit))) s9 none)), (10, (.dat (.int .i64) s10 none)), (11, (.dat (.int .i64) s11 none))])) from by
    funext l0 s9 s10 s11
    refine Eq.trans ?_ (law48_far_l2_ok (kBlockP 0 (E_law48_far.cutb 0) (kSeq (evCP E_law48_far (evLP E_law48_far n) (sub C_law48_far [1, 1])) (kFnP E_law48_far R_law48_far))) n l0 s9 s10 s11).symm
    rw [show (fun l0 => (kBlockP 0 (E_law48_far.cutb 0) (kSeq (evCP E_law48_far (evLP E_law48_far n) (sub C_law48_far [1, 1])) (kFnP E_law48_far R_law48_far))) (.exit 0) (frOf [(0, (.dat (.sl (.pair (.sl .byte) (.pair (.sl .byte) .unit))) l0 none))])) = (law48_far_k2_0 n) from by
      funext l0
      exact law48_far_k2_0_ok n l0]
    all_goals kernel_rfl]
  kernel_rfl
theorem law48_far_sound : SoundG G Tryd.prog 32 s_law48_far := by
  refine sound_of_evP' G_stays (E := E_law48_far) (fn := Tryd.f32) (c := C_law48_far) (tyOk_of_table rfl tis_ok) (fun w S hg => ⟨⟨fns_nil, fun f sp h => cns_nil f sp h w S⟩, gl_none w S hg⟩) follows Tryd.func32 (by kernel_rfl) (by kernel_rfl) (by kernel_rfl) ?_
  intro avs r h
  unfold s_law48_far at h
  split at h
  · simp only [Prod.mk.injEq] at h
    obtain ⟨hp, rfl⟩ := h
    obtain ⟨n, hn⟩ := law48_far_math _ hp
    exact ⟨n, _, (law48_far_ev n _ _).trans hn, .inl rfl⟩
  · cases h

/-! sheave/sheavelaw48.alive -/

noncomputable def E_law48_alive : EnvP := ⟨⟨tiOf tis, fnsOf [(24, s_field_Read), (27, s_field_Raw), (29, s_field_Body), (56, s_field_Find)], cnsOf [], [], 48, (fun _ => none), (fun _ => none), some [0]⟩, fun _ => none, fun _ => none, fun _ => []⟩
noncomputable def C_law48_alive : Code := Tryd.f23.body.getD .skip
noncomputable def R_law48_alive : Array ResultVar := Tryd.f23.results
theorem law48_alive_ev (n : Nat)  : evFnP E_law48_alive n C_law48_alive R_law48_alive [] = law48_alive_sh n  := by
  kernel_rfl
theorem law48_alive_sound : SoundG G Tryd.prog 23 s_law48_alive := by
  refine sound_of_evP' G_stays (E := E_law48_alive) (fn := Tryd.f23) (c := C_law48_alive) (tyOk_of_table rfl tis_ok) (fun w S hg => ⟨⟨(fns_cons (field_Read_sound w S hg) (fns_cons (field_Raw_sound w S hg) (fns_cons (field_Body_sound w S hg) (fns_cons (field_Find_sound w S hg) fns_nil)))), fun f sp h => cns_nil f sp h w S⟩, gl_none w S hg⟩) follows Tryd.func23 (by kernel_rfl) (by kernel_rfl) (by kernel_rfl) ?_
  intro avs r h
  unfold s_law48_alive at h
  split at h
  · simp only [Prod.mk.injEq, true_and] at h
    subst h
    obtain ⟨n, hn⟩ := law48_alive_math 
    exact ⟨n, _, (law48_alive_ev n ).trans hn, .inl rfl⟩
  · cases h

/-! sheave/sheavelaw48.FieldReads -/

noncomputable def E_law48_FieldReads : EnvP := ⟨⟨tiOf tis, fnsOf [(15, s_ref01_Like), (23, s_law48_alive), (24, s_field_Read), (25, s_ref48_Read), (26, s_ref48_Raw), (27, s_field_Raw), (28, s_law48_same), (29, s_field_Body), (30, s_field_One), (31, s_ref48_One)], cnsOf [], [], 105, (fun x => if x = 10 then some [7, 9, 60, 61] else none), (fun x => if x = 0 then some [] else if x = 1 then some [7, 9, 60, 61] else none), some [2]⟩, fun _ => none, fun _ => none, fun _ => []⟩
noncomputable def C_law48_FieldReads : Code := Tryd.f6.body.getD .skip
noncomputable def R_law48_FieldReads : Array ResultVar := Tryd.f6.results
theorem law48_FieldReads_l10_ok (K : Ex → Fr → Option AV) : ∀ (n : Nat) (raw7 : List (List UInt8)) (x9 : List (List UInt8)) (s60 : Int) (s61 : Int), evLP E_law48_FieldReads n (sub C_law48_FieldReads [1, 1, 1, 1, 1, 1, 1, 0, 1, 0, 0]) K (frOf [(7, (.dat (.sl (.sl .byte)) raw7 none)), (9, (.dat (.sl (.sl .byte)) x9 none)), (60, (.dat (.int .i64) s60 none)), (61, (.dat (.int .i64) s61 none))]) = law48_FieldReads_l10 (fun s2 => K .ret (frOf [(2, (.dat .bool s2 none))])) (K (.exit 0) (frOf [])) n raw7 x9 s60 s61 := by
  intro n
  induction n with
  | zero => intros; rfl
  | succ n IH =>
  intro raw7 x9 s60 s61
  have ih : (fun raw7 x9 s60 s61 => evLP E_law48_FieldReads n (sub C_law48_FieldReads [1, 1, 1, 1, 1, 1, 1, 0, 1, 0, 0]) K (frOf [(7, (.dat (.sl (.sl .byte)) raw7 none)), (9, (.dat (.sl (.sl .byte)) x9 none)), (60, (.dat (.int .i64) s60 none)), (61, (.dat (.int .i64) s61 none))])) = law48_FieldReads_l10 (fun s2 => K .ret (frOf [(2, (.dat .bool s2 none))])) (K (.exit 0) (frOf [])) n := by
    funext raw7 x9 s60 s61
    exact IH raw7 x9 s60 s61
  show _ = law48_FieldReads_l10_b (fun s2 => K .ret (frOf [(2, (.dat .bool s2 none))])) (K (.exit 0) (frOf [])) (law48_FieldReads_l10 (fun s2 => K .ret (frOf [(2, (.dat .bool s2 none))])) (K (.exit 0) (frOf [])) n) n raw7 x9 s60 s61
  rw [← ih]
  kernel_rfl
theorem law48_FieldReads_k10_0_ok (n : Nat)  : (kBlockP 0 (E_law48_FieldReads.cutb 0) (kSeq (evCP E_law48_FieldReads (evLP E_law48_FieldReads n) (sub C_law48_FieldReads [1, 1, 1, 1, 1, 1, 1, 1])) (kFnP E_law48_FieldReads R_law48_FieldReads))) (.exit 0) (frOf []) = law48_FieldReads_k10_0 n  := by
  kernel_rfl
theorem law48_FieldReads_ev (n : Nat) (s0 : List UInt8) (o0 : Lab) : evFnP E_law48_FieldReads n C_law48_FieldReads R_law48_FieldReads [.dat (.sl .byte) s0 o0] = law48_FieldReads_sh n s0 := by
  unfold law48_FieldReads_sh
  rw [show law48_FieldReads_l10 law48_FieldReads_ret (law48_FieldReads_k10_0 n) n = (fun raw7 x9 s60 s61 => evLP E_law48_FieldReads n (sub C_law48_FieldReads [1, 1, 1, 1, 1, 1, 1, 0, 1, 0, 0]) (kBlockP 0 (E_law48_FieldReads.cutb 0) (kSeq (evCP E_law48_FieldReads (evLP E_law48_FieldReads n) (sub C_law48_FieldReads [1, 1, 1, 1, 1, 1, 1, 1])) (kFnP E_law48_FieldReads R_law48_FieldReads))) (frOf [(7, (.dat (.sl (.sl .byte)) raw7 none)), (9, (.dat (.sl (.sl .byte)) x9 none)), (60, (.dat (.int .i64) s60 none)), (61, (.dat (.int .i64) s61 none))])) from by
    funext raw7 x9 s60 s61
    refine Eq.trans ?_ (law48_FieldReads_l10_ok (kBlockP 0 (E_law48_FieldReads.cutb 0) (kSeq (evCP E_law48_FieldReads (evLP E_law48_FieldReads n) (sub C_law48_FieldReads [1, 1, 1, 1, 1, 1, 1, 1])) (kFnP E_law48_FieldReads R_law48_FieldReads))) n raw7 x9 s60 s61).symm
    rw [show ((kBlockP 0 (E_law48_FieldReads.cutb 0) (kSeq (evCP E_law48_FieldReads (evLP E_law48_FieldReads n) (sub C_law48_FieldReads [1, 1, 1, 1, 1, 1, 1, 1])) (kFnP E_law48_FieldReads R_law48_FieldReads))) (.exit 0) (frOf [])) = (law48_FieldReads_k10_0 n) from by
      exact law48_FieldReads_k10_0_ok n ]
    all_goals kernel_rfl]
  kernel_rfl
theorem law48_FieldReads_sound : SoundG G Tryd.prog 6 s_law48_FieldReads := by
  refine sound_of_evP' G_stays (E := E_law48_FieldReads) (fn := Tryd.f6) (c := C_law48_FieldReads) (tyOk_of_table rfl tis_ok) (fun w S hg => ⟨⟨(fns_cons (ref01_Like_sound w S hg) (fns_cons (law48_alive_sound w S hg) (fns_cons (field_Read_sound w S hg) (fns_cons (ref48_Read_sound w S hg) (fns_cons (ref48_Raw_sound w S hg) (fns_cons (field_Raw_sound w S hg) (fns_cons (law48_same_sound w S hg) (fns_cons (field_Body_sound w S hg) (fns_cons (field_One_sound w S hg) (fns_cons (ref48_One_sound w S hg) fns_nil)))))))))), fun f sp h => cns_nil f sp h w S⟩, gl_none w S hg⟩) follows Tryd.func6 (by kernel_rfl) (by kernel_rfl) (by kernel_rfl) ?_
  intro avs r h
  unfold s_law48_FieldReads at h
  split at h
  · simp only [Prod.mk.injEq, true_and] at h
    subst h
    obtain ⟨n, hn⟩ := law48_FieldReads_math _
    exact ⟨n, _, (law48_FieldReads_ev n _ _).trans hn, .inl rfl⟩
  · cases h

/-! sheave/sheavelaw48.FieldOne -/

noncomputable def E_law48_FieldOne : EnvP := ⟨⟨tiOf tis, fnsOf [(23, s_law48_alive), (28, s_law48_same), (30, s_field_One), (31, s_ref48_One)], cnsOf [], [], 34, (fun _ => none), (fun _ => none), some [2]⟩, fun _ => none, fun _ => none, fun _ => []⟩
noncomputable def C_law48_FieldOne : Code := Tryd.f7.body.getD .skip
noncomputable def R_law48_FieldOne : Array ResultVar := Tryd.f7.results
theorem law48_FieldOne_ev (n : Nat) (raw0 : List UInt8) (o0 : Lab) : evFnP E_law48_FieldOne n C_law48_FieldOne R_law48_FieldOne [.dat (.sl .byte) raw0 o0] = law48_FieldOne_sh n raw0 := by
  kernel_rfl
theorem law48_FieldOne_sound : SoundG G Tryd.prog 7 s_law48_FieldOne := by
  refine sound_of_evP' G_stays (E := E_law48_FieldOne) (fn := Tryd.f7) (c := C_law48_FieldOne) (tyOk_of_table rfl tis_ok) (fun w S hg => ⟨⟨(fns_cons (law48_alive_sound w S hg) (fns_cons (law48_same_sound w S hg) (fns_cons (field_One_sound w S hg) (fns_cons (ref48_One_sound w S hg) fns_nil)))), fun f sp h => cns_nil f sp h w S⟩, gl_none w S hg⟩) follows Tryd.func7 (by kernel_rfl) (by kernel_rfl) (by kernel_rfl) ?_
  intro avs r h
  unfold s_law48_FieldOne at h
  split at h
  · simp only [Prod.mk.injEq, true_and] at h
    subst h
    obtain ⟨n, hn⟩ := law48_FieldOne_math _
    exact ⟨n, _, (law48_FieldOne_ev n _ _).trans hn, .inl rfl⟩
  · cases h

/-! sheave/sheavelaw48.FieldBack -/

noncomputable def E_law48_FieldBack : EnvP := ⟨⟨tiOf tis, fnsOf [(15, s_ref01_Like), (23, s_law48_alive), (24, s_field_Read), (28, s_law48_same), (29, s_field_Body), (32, s_law48_far), (33, s_field_Lay)], cnsOf [], [], 70, (fun x => if x = 5 then some [0, 1, 5, 21, 22, 23] else none), (fun x => if x = 0 then some [0, 1, 5] else if x = 1 then some [0, 1, 5, 21, 22, 23] else none), some [4]⟩, fun _ => none, fun _ => none, fun _ => []⟩
noncomputable def C_law48_FieldBack : Code := Tryd.f8.body.getD .skip
noncomputable def R_law48_FieldBack : Array ResultVar := Tryd.f8.results
theorem law48_FieldBack_l5_ok (K : Ex → Fr → Option AV) : ∀ (n : Nat) (l0 : List ((List UInt8) × ((List UInt8) × Unit))) (behind1 : List UInt8) (x5 : List ((List UInt8) × ((List UInt8) × Unit))) (s21 : List ((List UInt8) × ((List UInt8) × Unit))) (s22 : Int) (s23 : Int), evLP E_law48_FieldBack n (sub C_law48_FieldBack [1, 1, 1, 0, 1, 0, 0]) K (frOf [(0, (.dat (.sl (.pair (.sl .byte) (.pair (.sl .byte) .unit))) l0 none)), (1, (.dat (.sl .byte) behind1 none)), (5, (.dat (.sl (.pair (.sl .byte) (.pair (.sl .byte) .unit))) x5 (some (5, 47)))), (21, (.dat (.sl (.pair (.sl .byte) (.pair (.sl .byte) .unit))) s21 none)), (22, (.dat (.int .i64) s22 none)), (23, (.dat (.int .i64) s23 none))]) = law48_FieldBack_l5 (fun l0 behind1 x5 => K (.exit 0) (frOf [(0, (.dat (.sl (.pair (.sl .byte) (.pair (.sl .byte) .unit))) l0 none)), (1, (.dat (.sl .byte) behind1 none)), (5, (.dat (.sl (.pair (.sl .byte) (.pair (.sl .byte) .unit))) x5 (some (5, 47))))])) n l0 behind1 x5 s21 s22 s23 := by
  intro n
  induction n with
  | zero => intros; rfl
  | succ n IH =>
  intro l0 behind1 x5 s21 s22 s23
  have ih : (fun l0 behind1 x5 s21 s22 s23 => evLP E_law48_FieldBack n (sub C_law48_FieldBack [1, 1, 1, 0, 1, 0, 0]) K (frOf [(0, (.dat (.sl (.pair (.sl .byte) (.pair (.sl .byte) .unit))) l0 none)), (1, (.dat (.sl .byte) behind1 none)), (5, (.dat (.sl (.pair (.sl .byte) (.pair (.sl .byte) .unit))) x5 (some (5, 47)))), (21, (.dat (.sl (.pair (.sl .byte) (.pair (.sl .byte) .unit))) s21 none)), (22, (.dat (.int .i64) s22 none)), (23, (.dat (.int .i64) s23 none))])) = law48_FieldBack_l5 (fun l0 behind1 x5 => K (.exit 0) (frOf [(0, (.dat (.sl (.pair (.sl .byte) (.pair (.sl .byte) .unit))) l0 none)), (1, (.dat (.sl .byte) behind1 none)), (5, (.dat (.sl (.pair (.sl .byte) (.pair (.sl .byte) .unit))) x5 (some (5, 47))))])) n := by
    funext l0 behind1 x5 s21 s22 s23
    exact IH l0 behind1 x5 s21 s22 s23
  show _ = law48_FieldBack_l5_b (fun l0 behind1 x5 => K (.exit 0) (frOf [(0, (.dat (.sl (.pair (.sl .byte) (.pair (.sl .byte) .unit))) l0 none)), (1, (.dat (.sl .byte) behind1 none)), (5, (.dat (.sl (.pair (.sl .byte) (.pair (.sl .byte) .unit))) x5 (some (5, 47))))])) (law48_FieldBack_l5 (fun l0 behind1 x5 => K (.exit 0) (frOf [(0, (.dat (.sl (.pair (.sl .byte) (.pair (.sl .byte) .unit))) l0 none)), (1, (.dat (.sl .byte) behind1 none)), (5, (.dat (.sl (.pair (.sl .byte) (.pair (.sl .byte) .unit))) x5 (some (5, 47))))])) n) n l0 behind1 x5 s21 s22 s23
  rw [← ih]
  kernel_rfl
theorem law48_FieldBack_k5_0_ok (n : Nat) (l0 : List ((List UInt8) × ((List UInt8) × Unit))) (behind1 : List UInt8) (x5 : List ((List UInt8) × ((List UInt8) × Unit))) : (kBlockP 0 (E_law48_FieldBack.cutb 0) (kSeq (evCP E_law48_FieldBack (evLP E_law48_FieldBack n) (sub C_law48_FieldBack [1, 1, 1, 1])) (kFnP E_law48_FieldBack R_law48_FieldBack))) (.exit 0) (frOf [(0, (.dat (.sl (.pair (.sl .byte) (.pair (.sl .byte) .unit))) l0 none)), (1, (.dat (.sl .byte) behind1 none)), (5, (.dat (.sl (.pair (.sl .byte) (.pair (.sl .byte) .unit))) x5 (some (5, 47))))]) = law48_FieldBack_k5_0 n l0 behind1 x5 := by
  kernel_rfl
theorem law48_FieldBack_ev (n : Nat) (l0 : List ((List UInt8) × ((List UInt8) × Unit))) (o0 : Lab) (behind1 : List UInt8) (o1 : Lab) : evFnP E_law48_FieldBack n C_law48_FieldBack R_law48_FieldBack [.dat (.sl (.pair (.sl .byte) (.pair (.sl .byte) .unit))) l0 o0, .dat (.sl .byte) behind1 o1] = law48_FieldBack_sh n l0 behind1 := by
  unfold law48_FieldBack_sh
  rw [show law48_FieldBack_l5 (law48_FieldBack_k5_0 n) n = (fun l0 behind1 x5 s21 s22 s23 => evLP E_law48_FieldBack n (sub C_law48_FieldBack [1, 1, 1, 0, 1, 0, 0]) (kBlockP 0 (E_law48_FieldBack.cutb 0) (kSeq (evCP E_law48_FieldBack (evLP E_law48_FieldBack n) (sub C_law48_FieldBack [1, 1, 1, 1])) (kFnP E_law48_FieldBack R_law48_FieldBack))) (frOf [(0, (.dat (.sl (.pair (.sl .byte) (.pair (.sl .byte) .unit))) l0 none)), (1, (.dat (.sl .byte) behind1 none)), (5, (.dat (.sl (.pair (.sl .byte) (.pair (.sl .byte) .unit))) x5 (some (5, 47)))), (21, (.dat (.sl (.pair (.sl .byte) (.pair (.sl .byte) .unit))) s21 none)), (22, (.dat (.int .i64) s22 none)), (23, (.dat (.int .i64) s23 none))])) from by
    funext l0 behind1 x5 s21 s22 s23
    refine Eq.trans ?_ (law48_FieldBack_l5_ok (kBlockP 0 (E_law48_FieldBack.cutb 0) (kSeq (evCP E_law48_FieldBack (evLP E_law48_FieldBack n) (sub C_law48_FieldBack [1, 1, 1, 1])) (kFnP E_law48_FieldBack R_law48_FieldBack))) n l0 behind1 x5 s21 s22 s23).symm
    rw [show (fun l0 behind1 x5 => (kBlockP 0 (E_law48_FieldBack.cutb 0) (kSeq (evCP E_law48_FieldBack (evLP E_law48_FieldBack n) (sub C_law48_FieldBack [1, 1, 1, 1])) (kFnP E_law48_FieldBack R_law48_FieldBack))) (.exit 0) (frOf [(0, (.dat (.sl (.pair (.sl .byte) (.pair (.sl .byte) .unit))) l0 none)), (1, (.dat (.sl .byte) behind1 none)), (5, (.dat (.sl (.pair (.sl .byte) (.pair (.sl .byte) .unit))) x5 (some (5, 47))))])) = (law48_FieldBack_k5_0 n) from by
      funext l0 behind1 x5
      exact law48_FieldBack_k5_0_ok n l0 behind1 x5]
    all_goals kernel_rfl]
  kernel_rfl
theorem law48_FieldBack_sound : SoundG G Tryd.prog 8 s_law48_FieldBack := by
  refine sound_of_evP' G_stays (E := E_law48_FieldBack) (fn := Tryd.f8) (c := C_law48_FieldBack) (tyOk_of_table rfl tis_ok) (fun w S hg => ⟨⟨(fns_cons (ref01_Like_sound w S hg) (fns_cons (law48_alive_sound w S hg) (fns_cons (field_Read_sound w S hg) (fns_cons (law48_same_sound w S hg) (fns_cons (field_Body_sound w S hg) (fns_cons (law48_far_sound w S hg) (fns_cons (field_Lay_sound w S hg) fns_nil))))))), fun f sp h => cns_nil f sp h w S⟩, gl_none w S hg⟩) follows Tryd.func8 (by kernel_rfl) (by kernel_rfl) (by kernel_rfl) ?_
  intro avs r h
  unfold s_law48_FieldBack at h
  split at h
  · simp only [Prod.mk.injEq, true_and] at h
    subst h
    obtain ⟨n, hn⟩ := law48_FieldBack_math _ _
    exact ⟨n, _, (law48_FieldBack_ev n _ _ _ _).trans hn, .inl rfl⟩
  · cases h
end Go.Av
