import Derived.Test.YtnfehbljinflbaaDoorEtEvD
import Derived.Test.YtnfehbljinflbaaDoorEtN
import Derived.Test.YtnfehbljinflbaaDoorProg
import Derived.KernelRfl
namespace Go.Av
open Go.Proofs
set_option maxRecDepth 100000
/-! bytes.Split -/

noncomputable def E_bytes_Split : EnvP := ⟨⟨tiOf tis, fnsOf [(59, s_bytes_genSplit)], cnsOf [], [], 8, (fun _ => none), (fun _ => none), some [4]⟩, fun _ => none, fun _ => none, fun _ => []⟩
noncomputable def C_bytes_Split : Code := Tryd.f47.body.getD .skip
noncomputable def R_bytes_Split : Array ResultVar := Tryd.f47.results
theorem bytes_Split_ev (n : Nat) (s0 : List UInt8) (o0 : Lab) (sep1 : List UInt8) (o1 : Lab) : evFnP E_bytes_Split n C_bytes_Split R_bytes_Split [.dat (.sl .byte) s0 o0, .dat (.sl .byte) sep1 o1] = bytes_Split_sh n s0 sep1 := by
  kernel_rfl
theorem bytes_Split_sound : SoundG G Tryd.prog 47 s_bytes_Split := by
  refine sound_of_evP' G_stays (E := E_bytes_Split) (fn := Tryd.f47) (c := C_bytes_Split) (tyOk_of_table rfl tis_ok) (fun w S hg => ⟨⟨(fns_cons (bytes_genSplit_sound w S hg) fns_nil), fun f sp h => cns_nil f sp h w S⟩, gl_none w S hg⟩) follows Tryd.func47 (by kernel_rfl) (by kernel_rfl) (by kernel_rfl) ?_
  intro avs r h
  unfold s_bytes_Split at h
  split at h
  · simp only [Prod.mk.injEq] at h
    obtain ⟨hp, rfl⟩ := h
    obtain ⟨n, hn⟩ := bytes_Split_math _ _ hp
    exact ⟨n, _, (bytes_Split_ev n _ _ _ _).trans hn, .inl rfl⟩
  · cases h

/-! sheave/ewform.code -/

noncomputable def E_ewform_code : EnvP := ⟨⟨tiOf tis, fnsOf [(60, s_octet_Fold)], cnsOf [], [], 10, (fun _ => none), (fun x => if x = 0 then some [] else none), some [2]⟩, fun _ => none, fun _ => none, fun _ => []⟩
noncomputable def C_ewform_code : Code := Tryd.f48.body.getD .skip
noncomputable def R_ewform_code : Array ResultVar := Tryd.f48.results
theorem ewform_code_ev (n : Nat) (s0 : List UInt8) (o0 : Lab) : evFnP E_ewform_code n C_ewform_code R_ewform_code [.dat (.sl .byte) s0 o0] = ewform_code_sh n s0 := by
  kernel_rfl
theorem ewform_code_sound : SoundG G Tryd.prog 48 s_ewform_code := by
  refine sound_of_evP' G_stays (E := E_ewform_code) (fn := Tryd.f48) (c := C_ewform_code) (tyOk_of_table rfl tis_ok) (fun w S hg => ⟨⟨(fns_cons (octet_Fold_sound w S hg) fns_nil), fun f sp h => cns_nil f sp h w S⟩, gl_none w S hg⟩) follows Tryd.func48 (by kernel_rfl) (by kernel_rfl) (by kernel_rfl) ?_
  intro avs r h
  unfold s_ewform_code at h
  split at h
  · simp only [Prod.mk.injEq] at h
    obtain ⟨hp, rfl⟩ := h
    obtain ⟨n, hn⟩ := ewform_code_math _ hp
    exact ⟨n, _, (ewform_code_ev n _ _).trans hn, .inl rfl⟩
  · cases h

/-! sheave/ewform.full -/

noncomputable def E_ewform_full : EnvP := ⟨⟨tiOf tis, fnsOf [(61, s_octet_All)], cnsOf [], [], 13, (fun _ => none), (fun _ => none), some [4]⟩, fun _ => none, fun _ => none, fun _ => []⟩
noncomputable def C_ewform_full : Code := Tryd.f49.body.getD .skip
noncomputable def R_ewform_full : Array ResultVar := Tryd.f49.results
theorem ewform_full_ev (n : Nat) (s0 : List UInt8) (o0 : Lab) (kinds1 : Int) (o1 : Lab) : evFnP E_ewform_full n C_ewform_full R_ewform_full [.dat (.sl .byte) s0 o0, .dat (.int .i64) kinds1 o1] = ewform_full_sh n s0 kinds1 := by
  kernel_rfl
theorem ewform_full_sound : SoundG G Tryd.prog 49 s_ewform_full := by
  refine sound_of_evP' G_stays (E := E_ewform_full) (fn := Tryd.f49) (c := C_ewform_full) (tyOk_of_table rfl tis_ok) (fun w S hg => ⟨⟨(fns_cons (octet_All_sound w S hg) fns_nil), fun f sp h => cns_nil f sp h w S⟩, gl_none w S hg⟩) follows Tryd.func49 (by kernel_rfl) (by kernel_rfl) (by kernel_rfl) ?_
  intro avs r h
  unfold s_ewform_full at h
  split at h
  · simp only [Prod.mk.injEq] at h
    obtain ⟨hp, rfl⟩ := h
    obtain ⟨n, hn⟩ := ewform_full_math _ _ hp
    exact ⟨n, _, (ewform_full_ev n _ _ _ _).trans hn, .inl rfl⟩
  · cases h

/-! sheave/ewform.Parse -/

noncomputable def E_ewform_Parse : EnvP := ⟨⟨tiOf tis, fnsOf [(21, s_bytes_Clone), (47, s_bytes_Split), (48, s_ewform_code), (49, s_ewform_full)], cnsOf [], [], 64, (fun _ => none), (fun x => if x = 0 then some [2, 5] else none), some [2, 3]⟩, fun _ => none, fun _ => none, fun _ => []⟩
noncomputable def C_ewform_Parse : Code := Tryd.f35.body.getD .skip
noncomputable def R_ewform_Parse : Array ResultVar := Tryd.f35.results
theorem ewform_Parse_ev (n : Nat) (s0 : List UInt8) (o0 : Lab) : evFnP E_ewform_Parse n C_ewform_Parse R_ewform_Parse [.dat (.sl .byte) s0 o0] = ewform_Parse_sh n s0 := by
  kernel_rfl
theorem ewform_Parse_sound : SoundG G Tryd.prog 35 s_ewform_Parse := by
  refine sound_of_evP' G_stays (E := E_ewform_Parse) (fn := Tryd.f35) (c := C_ewform_Parse) (tyOk_of_table rfl tis_ok) (fun w S hg => ⟨⟨(fns_cons (bytes_Clone_sound w S hg) (fns_cons (bytes_Split_sound w S hg) (fns_cons (ewform_code_sound w S hg) (fns_cons (ewform_full_sound w S hg) fns_nil)))), fun f sp h => cns_nil f sp h w S⟩, gl_none w S hg⟩) follows Tryd.func35 (by kernel_rfl) (by kernel_rfl) (by kernel_rfl) ?_
  intro avs r h
  unfold s_ewform_Parse at h
  split at h
  · simp only [Prod.mk.injEq] at h
    obtain ⟨hp, rfl⟩ := h
    obtain ⟨n, hn⟩ := ewform_Parse_math _ hp
    exact ⟨n, _, (ewform_Parse_ev n _ _).trans hn, .inl rfl⟩
  · cases h

/-! sheave/ewform.Is -/

noncomputable def E_ewform_Is : EnvP := ⟨⟨tiOf tis, fnsOf [(35, s_ewform_Parse)], cnsOf [], [], 12, (fun _ => none), (fun _ => none), some [2]⟩, fun _ => none, fun _ => none, fun _ => []⟩
noncomputable def C_ewform_Is : Code := Tryd.f23.body.getD .skip
noncomputable def R_ewform_Is : Array ResultVar := Tryd.f23.results
theorem ewform_Is_ev (n : Nat) (s0 : List UInt8) (o0 : Lab) : evFnP E_ewform_Is n C_ewform_Is R_ewform_Is [.dat (.sl .byte) s0 o0] = ewform_Is_sh n s0 := by
  kernel_rfl
theorem ewform_Is_sound : SoundG G Tryd.prog 23 s_ewform_Is := by
  refine sound_of_evP' G_stays (E := E_ewform_Is) (fn := Tryd.f23) (c := C_ewform_Is) (tyOk_of_table rfl tis_ok) (fun w S hg => ⟨⟨(fns_cons (ewform_Parse_sound w S hg) fns_nil), fun f sp h => cns_nil f sp h w S⟩, gl_none w S hg⟩) follows Tryd.func23 (by kernel_rfl) (by kernel_rfl) (by kernel_rfl) ?_
  intro avs r h
  unfold s_ewform_Is at h
  split at h
  · simp only [Prod.mk.injEq] at h
    obtain ⟨hp, rfl⟩ := h
    obtain ⟨n, hn⟩ := ewform_Is_math _ hp
    exact ⟨n, _, (ewform_Is_ev n _ _).trans hn, .inl rfl⟩
  · cases h

/-! sheave/ewtok.Kind -/

noncomputable def E_ewtok_Kind : EnvP := ⟨⟨tiOf tis, fnsOf [(22, s_bytes_Trim), (23, s_ewform_Is)], cnsOf [], [], 16, (fun _ => none), (fun x => if x = 0 then some [] else none), some [2]⟩, fun _ => none, fun _ => none, fun _ => []⟩
noncomputable def C_ewtok_Kind : Code := Tryd.f12.body.getD .skip
noncomputable def R_ewtok_Kind : Array ResultVar := Tryd.f12.results
theorem ewtok_Kind_ev (n : Nat) (run0 : List UInt8) (o0 : Lab) : evFnP E_ewtok_Kind n C_ewtok_Kind R_ewtok_Kind [.dat (.sl .byte) run0 o0] = ewtok_Kind_sh n run0 := by
  kernel_rfl
theorem ewtok_Kind_sound : SoundG G Tryd.prog 12 s_ewtok_Kind := by
  refine sound_of_evP' G_stays (E := E_ewtok_Kind) (fn := Tryd.f12) (c := C_ewtok_Kind) (tyOk_of_table rfl tis_ok) (fun w S hg => ⟨⟨(fns_cons (bytes_Trim_sound w S hg) (fns_cons (ewform_Is_sound w S hg) fns_nil)), fun f sp h => cns_nil f sp h w S⟩, gl_none w S hg⟩) follows Tryd.func12 (by kernel_rfl) (by kernel_rfl) (by kernel_rfl) ?_
  intro avs r h
  unfold s_ewtok_Kind at h
  split at h
  · simp only [Prod.mk.injEq] at h
    obtain ⟨hp, rfl⟩ := h
    obtain ⟨n, hn⟩ := ewtok_Kind_math _ hp
    exact ⟨n, _, (ewtok_Kind_ev n _ _).trans hn, .inl rfl⟩
  · cases h

/-! sheave/ewtok.leading -/

noncomputable def E_ewtok_leading : EnvP := ⟨⟨tiOf tis, fnsOf [(26, s_bytes_TrimLeft)], cnsOf [], [], 9, (fun _ => none), (fun _ => none), some [2]⟩, fun _ => none, fun _ => none, fun _ => []⟩
noncomputable def C_ewtok_leading : Code := Tryd.f19.body.getD .skip
noncomputable def R_ewtok_leading : Array ResultVar := Tryd.f19.results
theorem ewtok_leading_ev (n : Nat) (s0 : List UInt8) (o0 : Lab) : evFnP E_ewtok_leading n C_ewtok_leading R_ewtok_leading [.dat (.sl .byte) s0 o0] = ewtok_leading_sh n s0 := by
  kernel_rfl
theorem ewtok_leading_sound : SoundG G Tryd.prog 19 s_ewtok_leading := by
  refine sound_of_evP' G_stays (E := E_ewtok_leading) (fn := Tryd.f19) (c := C_ewtok_leading) (tyOk_of_table rfl tis_ok) (fun w S hg => ⟨⟨(fns_cons (bytes_TrimLeft_sound w S hg) fns_nil), fun f sp h => cns_nil f sp h w S⟩, gl_none w S hg⟩) follows Tryd.func19 (by kernel_rfl) (by kernel_rfl) (by kernel_rfl) ?_
  intro avs r h
  unfold s_ewtok_leading at h
  split at h
  · simp only [Prod.mk.injEq] at h
    obtain ⟨hp, rfl⟩ := h
    obtain ⟨n, hn⟩ := ewtok_leading_math _ hp
    exact ⟨n, _, (ewtok_leading_ev n _ _).trans hn, .inl rfl⟩
  · cases h

/-! sheave/ewtok.run -/

noncomputable def E_ewtok_run : EnvP := ⟨⟨tiOf tis, fnsOf [(27, s_bytes_IndexAny)], cnsOf [], [], 11, (fun _ => none), (fun _ => none), some [2]⟩, fun _ => none, fun _ => none, fun _ => []⟩
noncomputable def C_ewtok_run : Code := Tryd.f20.body.getD .skip
noncomputable def R_ewtok_run : Array ResultVar := Tryd.f20.results
theorem ewtok_run_ev (n : Nat) (s0 : List UInt8) (o0 : Lab) : evFnP E_ewtok_run n C_ewtok_run R_ewtok_run [.dat (.sl .byte) s0 o0] = ewtok_run_sh n s0 := by
  kernel_rfl
theorem ewtok_run_sound : SoundG G Tryd.prog 20 s_ewtok_run := by
  refine sound_of_evP' G_stays (E := E_ewtok_run) (fn := Tryd.f20) (c := C_ewtok_run) (tyOk_of_table rfl tis_ok) (fun w S hg => ⟨⟨(fns_cons (bytes_IndexAny_sound w S hg) fns_nil), fun f sp h => cns_nil f sp h w S⟩, gl_none w S hg⟩) follows Tryd.func20 (by kernel_rfl) (by kernel_rfl) (by kernel_rfl) ?_
  intro avs r h
  unfold s_ewtok_run at h
  split at h
  · simp only [Prod.mk.injEq] at h
    obtain ⟨hp, rfl⟩ := h
    obtain ⟨n, hn⟩ := ewtok_run_math _ hp
    exact ⟨n, _, (ewtok_run_ev n _ _).trans hn, .inl rfl⟩
  · cases h

/-! sheave/ewtok.Pieces -/

noncomputable def E_ewtok_Pieces : EnvP := ⟨⟨tiOf tis, fnsOf [(12, s_ewtok_Kind), (19, s_ewtok_leading), (20, s_ewtok_run), (21, s_bytes_Clone)], cnsOf [], [], 29, (fun x => if x = 2 then some [0, 3] else none), (fun x => if x = 0 then some [3] else if x = 1 then some [0, 3] else none), some [2]⟩, fun _ => none, fun _ => none, fun _ => []⟩
noncomputable def C_ewtok_Pieces : Code := Tryd.f11.body.getD .skip
noncomputable def R_ewtok_Pieces : Array ResultVar := Tryd.f11.results
theorem ewtok_Pieces_l2_ok (K : Ex → Fr → Option AV) : ∀ (n : Nat) (s0 : List UInt8) (l3 : List (Int × ((List UInt8) × Unit))), evLP E_ewtok_Pieces n (sub C_ewtok_Pieces [1, 1, 0, 0, 0]) K (frOf [(0, (.dat (.sl .byte) s0 none)), (3, (.dat (.sl (.pair (.int .i64) (.pair (.sl .byte) .unit))) l3 (some (3, 28))))]) = ewtok_Pieces_l2 (fun l3 => K (.exit 0) (frOf [(3, (.dat (.sl (.pair (.int .i64) (.pair (.sl .byte) .unit))) l3 (some (3, 28))))])) n s0 l3 := by
  intro n
  induction n with
  | zero => intros; rfl
  | succ n IH =>
  intro s0 l3
  have ih : (fun s0 l3 => evLP E_ewtok_Pieces n (sub C_ewtok_Pieces [1, 1, 0, 0, 0]) K (frOf [(0, (.dat (.sl .byte) s0 none)), (3, (.dat (.sl (.pair (.int .i64) (.pair (.sl .byte) .unit))) l3 (some (3, 28))))])) = ewtok_Pieces_l2 (fun l3 => K (.exit 0) (frOf [(3, (.dat (.sl (.pair (.int .i64) (.pair (.sl .byte) .unit))) l3 (some (3, 28))))])) n := by
    funext s0 l3
    exact IH s0 l3
  show _ = ewtok_Pieces_l2_b (fun l3 => K (.exit 0) (frOf [(3, (.dat (.sl (.pair (.int .i64) (.pair (.sl .byte) .unit))) l3 (some (3, 28))))])) (ewtok_Pieces_l2 (fun l3 => K (.exit 0) (frOf [(3, (.dat (.sl (.pair (.int .i64) (.pair (.sl .byte) .unit))) l3 (some (3, 28))))])) n) n s0 l3
  rw [← ih]
  kernel_rfl
theorem ewtok_Pieces_k2_0_ok (n : Nat) (l3 : List (Int × ((List UInt8) × Unit))) : (kBlockP 0 (E_ewtok_Pieces.cutb 0) (kSeq (evCP E_ewtok_Pieces (evLP E_ewtok_Pieces n) (sub C_ewtok_Pieces [1, 1, 1])) (kFnP E_ewtok_Pieces R_ewtok_Pieces))) (.exit 0) (frOf [(3, (.dat (.sl (.pair (.int .i64) (.pair (.sl .byte) .unit))) l3 (some (3, 28))))]) = ewtok_Pieces_k2_0 n l3 := by
  kernel_rfl
theorem ewtok_Pieces_ev (n : Nat) (s0 : List UInt8) (o0 : Lab) : evFnP E_ewtok_Pieces n C_ewtok_Pieces R_ewtok_Pieces [.dat (.sl .byte) s0 o0] = ewtok_Pieces_sh n s0 := by
  unfold ewtok_Pieces_sh
  rw [show ewtok_Pieces_l2 (ewtok_Pieces_k2_0 n) n = (fun s0 l3 => evLP E_ewtok_Pieces n (sub C_ewtok_Pieces [1, 1, 0, 0, 0]) (kBlockP 0 (E_ewtok_Pieces.cutb 0) (kSeq (evCP E_ewtok_Pieces (evLP E_ewtok_Pieces n) (sub C_ewtok_Pieces [1, 1, 1])) (kFnP E_ewtok_Pieces R_ewtok_Pieces))) (frOf [(0, (.dat (.sl .byte) s0 none)), (3, (.dat (.sl (.pair (.int .i64) (.pair (.sl .byte) .unit))) l3 (some (3, 28))))])) from by
    funext s0 l3
    refine Eq.trans ?_ (ewtok_Pieces_l2_ok (kBlockP 0 (E_ewtok_Pieces.cutb 0) (kSeq (evCP E_ewtok_Pieces (evLP E_ewtok_Pieces n) (sub C_ewtok_Pieces [1, 1, 1])) (kFnP E_ewtok_Pieces R_ewtok_Pieces))) n s0 l3).symm
    rw [show (fun l3 => (kBlockP 0 (E_ewtok_Pieces.cutb 0) (kSeq (evCP E_ewtok_Pieces (evLP E_ewtok_Pieces n) (sub C_ewtok_Pieces [1, 1, 1])) (kFnP E_ewtok_Pieces R_ewtok_Pieces))) (.exit 0) (frOf [(3, (.dat (.sl (.pair (.int .i64) (.pair (.sl .byte) .unit))) l3 (some (3, 28))))])) = (ewtok_Pieces_k2_0 n) from by
      funext l3
      exact ewtok_Pieces_k2_0_ok n l3]
    all_goals kernel_rfl]
  kernel_rfl
theorem ewtok_Pieces_sound : SoundG G Tryd.prog 11 s_ewtok_Pieces := by
  refine sound_of_evP' G_stays (E := E_ewtok_Pieces) (fn := Tryd.f11) (c := C_ewtok_Pieces) (tyOk_of_table rfl tis_ok) (fun w S hg => ⟨⟨(fns_cons (ewtok_Kind_sound w S hg) (fns_cons (ewtok_leading_sound w S hg) (fns_cons (ewtok_run_sound w S hg) (fns_cons (bytes_Clone_sound w S hg) fns_nil)))), fun f sp h => cns_nil f sp h w S⟩, gl_none w S hg⟩) follows Tryd.func11 (by kernel_rfl) (by kernel_rfl) (by kernel_rfl) ?_
  intro avs r h
  unfold s_ewtok_Pieces at h
  split at h
  · simp only [Prod.mk.injEq] at h
    obtain ⟨hp, rfl⟩ := h
    obtain ⟨n, hn⟩ := ewtok_Pieces_math _ hp
    exact ⟨n, _, (ewtok_Pieces_ev n _ _).trans hn, .inl rfl⟩
  · cases h

/-! sheave/ewtok.Hidden -/

noncomputable def E_ewtok_Hidden : EnvP := ⟨⟨tiOf tis, fnsOf [], cnsOf [], [], 51, (fun x => if x = 3 then some [0, 3, 9, 10, 11] else none), (fun x => if x = 0 then some [3] else if x = 1 then some [0, 3, 9, 10, 11] else none), some [2]⟩, (fun x => if x = 2 then some (.psl 4 (.leaf .bool)) else if x = 8 then some (.psl 4 (.leaf .bool)) else none), fun _ => none, fun _ => []⟩
noncomputable def C_ewtok_Hidden : Code := Tryd.f7.body.getD .skip
noncomputable def R_ewtok_Hidden : Array ResultVar := Tryd.f7.results
theorem ewtok_Hidden_l3_ok (K : Ex → Fr → Option AV) : ∀ (n : Nat) (l0 : List (Int × ((List UInt8) × Unit))) (out3 : List Bool) (s9 : List (Int × ((List UInt8) × Unit))) (s10 : Int) (s11 : Int), evLP E_ewtok_Hidden n (sub C_ewtok_Hidden [1, 1, 0, 1, 0, 0]) K (frOf [(0, (.dat (.sl (.pair (.int .i64) (.pair (.sl .byte) .unit))) l0 none)), (3, (.pv (.psl 4 (.leaf .bool)) out3 none)), (9, (.dat (.sl (.pair (.int .i64) (.pair (.sl .byte) .unit))) s9 none)), (10, (.dat (.int .i64) s10 none)), (11, (.dat (.int .i64) s11 none))]) = ewtok_Hidden_l3 (fun out3 => K (.exit 0) (frOf [(3, (.pv (.psl 4 (.leaf .bool)) out3 none))])) n l0 out3 s9 s10 s11 := by
  intro n
  induction n with
  | zero => intros; rfl
  | succ n IH =>
  intro l0 out3 s9 s10 s11
  have ih : (fun l0 out3 s9 s10 s11 => evLP E_ewtok_Hidden n (sub C_ewtok_Hidden [1, 1, 0, 1, 0, 0]) K (frOf [(0, (.dat (.sl (.pair (.int .i64) (.pair (.sl .byte) .unit))) l0 none)), (3, (.pv (.psl 4 (.leaf .bool)) out3 none)), (9, (.dat (.sl (.pair (.int .i64) (.pair (.sl .byte) .unit))) s9 none)), (10, (.dat (.int .i64) s10 none)), (11, (.dat (.int .i64) s11 none))])) = ewtok_Hidden_l3 (fun out3 => K (.exit 0) (frOf [(3, (.pv (.psl 4 (.leaf .bool)) out3 none))])) n := by
    funext l0 out3 s9 s10 s11
    exact IH l0 out3 s9 s10 s11
  show _ = ewtok_Hidden_l3_b (fun out3 => K (.exit 0) (frOf [(3, (.pv (.psl 4 (.leaf .bool)) out3 none))])) (ewtok_Hidden_l3 (fun out3 => K (.exit 0) (frOf [(3, (.pv (.psl 4 (.leaf .bool)) out3 none))])) n) n l0 out3 s9 s10 s11
  rw [← ih]
  kernel_rfl
theorem ewtok_Hidden_k3_0_ok (n : Nat) (out3 : List Bool) : (kBlockP 0 (E_ewtok_Hidden.cutb 0) (kSeq (evCP E_ewtok_Hidden (evLP E_ewtok_Hidden n) (sub C_ewtok_Hidden [1, 1, 1])) (kFnP E_ewtok_Hidden R_ewtok_Hidden))) (.exit 0) (frOf [(3, (.pv (.psl 4 (.leaf .bool)) out3 none))]) = ewtok_Hidden_k3_0 n out3 := by
  kernel_rfl
theorem ewtok_Hidden_ev (n : Nat) (l0 : List (Int × ((List UInt8) × Unit))) (o0 : Lab) : evFnP E_ewtok_Hidden n C_ewtok_Hidden R_ewtok_Hidden [.dat (.sl (.pair (.int .i64) (.pair (.sl .byte) .unit))) l0 o0] = ewtok_Hidden_sh n l0 := by
  unfold ewtok_Hidden_sh
  rw [show ewtok_Hidden_l3 (ewtok_Hidden_k3_0 n) n = (fun l0 out3 s9 s10 s11 => evLP E_ewtok_Hidden n (sub C_ewtok_Hidden [1, 1, 0, 1, 0, 0]) (kBlockP 0 (E_ewtok_Hidden.cutb 0) (kSeq (evCP E_ewtok_Hidden (evLP E_ewtok_Hidden n) (sub C_ewtok_Hidden [1, 1, 1])) (kFnP E_ewtok_Hidden R_ewtok_Hidden))) (frOf [(0, (.dat (.sl (.pair (.int .i64) (.pair (.sl .byte) .unit))) l0 none)), (3, (.pv (.psl 4 (.leaf .bool)) out3 none)), (9, (.dat (.sl (.pair (.int .i64) (.pair (.sl .byte) .unit))) s9 none)), (10, (.dat (.int .i64) s10 none)), (11, (.dat (.int .i64) s11 none))])) from by
    funext l0 out3 s9 s10 s11
    refine Eq.trans ?_ (ewtok_Hidden_l3_ok (kBlockP 0 (E_ewtok_Hidden.cutb 0) (kSeq (evCP E_ewtok_Hidden (evLP E_ewtok_Hidden n) (sub C_ewtok_Hidden [1, 1, 1])) (kFnP E_ewtok_Hidden R_ewtok_Hidden))) n l0 out3 s9 s10 s11).symm
    rw [show (fun out3 => (kBlockP 0 (E_ewtok_Hidden.cutb 0) (kSeq (evCP E_ewtok_Hidden (evLP E_ewtok_Hidden n) (sub C_ewtok_Hidden [1, 1, 1])) (kFnP E_ewtok_Hidden R_ewtok_Hidden))) (.exit 0) (frOf [(3, (.pv (.psl 4 (.leaf .bool)) out3 none))])) = (ewtok_Hidden_k3_0 n) from by
      funext out3
      exact ewtok_Hidden_k3_0_ok n out3]
    all_goals kernel_rfl]
  kernel_rfl
theorem ewtok_Hidden_sound : SoundG G Tryd.prog 7 s_ewtok_Hidden := by
  refine sound_of_evP' G_stays (E := E_ewtok_Hidden) (fn := Tryd.f7) (c := C_ewtok_Hidden) (tyOk_of_table rfl tis_ok) (fun w S hg => ⟨⟨fns_nil, fun f sp h => cns_nil f sp h w S⟩, gl_none w S hg⟩) follows Tryd.func7 (by kernel_rfl) (by kernel_rfl) (by kernel_rfl) ?_
  intro avs r h
  unfold s_ewtok_Hidden at h
  split at h
  · simp only [Prod.mk.injEq] at h
    obtain ⟨hp, rfl⟩ := h
    obtain ⟨n, hn⟩ := ewtok_Hidden_math _ hp
    exact ⟨n, _, (ewtok_Hidden_ev n _ _).trans hn, .inl rfl⟩
  · cases h

/-! sheave/ewtok.Shown -/

noncomputable def E_ewtok_Shown : EnvP := ⟨⟨tiOf tis, fnsOf [(7, s_ewtok_Hidden), (11, s_ewtok_Pieces)], cnsOf [], [], 28, (fun x => if x = 4 then some [3, 4, 10, 11, 12] else none), (fun x => if x = 0 then some [3] else if x = 1 then some [3, 4, 10, 11, 12] else none), some [2]⟩, fun _ => none, fun _ => none, fun _ => []⟩
noncomputable def C_ewtok_Shown : Code := Tryd.f13.body.getD .skip
noncomputable def R_ewtok_Shown : Array ResultVar := Tryd.f13.results
theorem ewtok_Shown_l4_ok (K : Ex → Fr → Option AV) : ∀ (n : Nat) (out3 : List (Int × ((List UInt8) × Unit))) (l4 : List (Int × ((List UInt8) × Unit))) (s10 : List Bool) (s11 : Int) (s12 : Int), evLP E_ewtok_Shown n (sub C_ewtok_Shown [1, 1, 1, 0, 1, 0, 0]) K (frOf [(3, (.dat (.sl (.pair (.int .i64) (.pair (.sl .byte) .unit))) out3 (some (3, 28)))), (4, (.dat (.sl (.pair (.int .i64) (.pair (.sl .byte) .unit))) l4 (some (4, 28)))), (10, (.dat (.sl .bool) s10 (some (10, 4)))), (11, (.dat (.int .i64) s11 none)), (12, (.dat (.int .i64) s12 none))]) = ewtok_Shown_l4 (fun out3 => K (.exit 0) (frOf [(3, (.dat (.sl (.pair (.int .i64) (.pair (.sl .byte) .unit))) out3 (some (3, 28))))])) n out3 l4 s10 s11 s12 := by
  intro n
  induction n with
  | zero => intros; rfl
  | succ n IH =>
  intro out3 l4 s10 s11 s12
  have ih : (fun out3 l4 s10 s11 s12 => evLP E_ewtok_Shown n (sub C_ewtok_Shown [1, 1, 1, 0, 1, 0, 0]) K (frOf [(3, (.dat (.sl (.pair (.int .i64) (.pair (.sl .byte) .unit))) out3 (some (3, 28)))), (4, (.dat (.sl (.pair (.int .i64) (.pair (.sl .byte) .unit))) l4 (some (4, 28)))), (10, (.dat (.sl .bool) s10 (some (10, 4)))), (11, (.dat (.int .i64) s11 none)), (12, (.dat (.int .i64) s12 none))])) = ewtok_Shown_l4 (fun out3 => K (.exit 0) (frOf [(3, (.dat (.sl (.pair (.int .i64) (.pair (.sl .byte) .unit))) out3 (some (3, 28))))])) n := by
    funext out3 l4 s10 s11 s12
    exact IH out3 l4 s10 s11 s12
  show _ = ewtok_Shown_l4_b (fun out3 => K (.exit 0) (frOf [(3, (.dat (.sl (.pair (.int .i64) (.pair (.sl .byte) .unit))) out3 (some (3, 28))))])) (ewtok_Shown_l4 (fun out3 => K (.exit 0) (frOf [(3, (.dat (.sl (.pair (.int .i64) (.pair (.sl .byte) .unit))) out3 (some (3, 28))))])) n) n out3 l4 s10 s11 s12
  rw [← ih]
  kernel_rfl
theorem ewtok_Shown_k4_0_ok (n : Nat) (out3 : List (Int × ((List UInt8) × Unit))) : (kBlockP 0 (E_ewtok_Shown.cutb 0) (kSeq (evCP E_ewtok_Shown (evLP E_ewtok_Shown n) (sub C_ewtok_Shown [1, 1, 1, 1])) (kFnP E_ewtok_Shown R_ewtok_Shown))) (.exit 0) (frOf [(3, (.dat (.sl (.pair (.int .i64) (.pair (.sl .byte) .unit))) out3 (some (3, 28))))]) = ewtok_Shown_k4_0 n out3 := by
  kernel_rfl
theorem ewtok_Shown_ev (n : Nat) (s0 : List UInt8) (o0 : Lab) : evFnP E_ewtok_Shown n C_ewtok_Shown R_ewtok_Shown [.dat (.sl .byte) s0 o0] = ewtok_Shown_sh n s0 := by
  unfold ewtok_Shown_sh
  rw [show ewtok_Shown_l4 (ewtok_Shown_k4_0 n) n = (fun out3 l4 s10 s11 s12 => evLP E_ewtok_Shown n (sub C_ewtok_Shown [1, 1, 1, 0, 1, 0, 0]) (kBlockP 0 (E_ewtok_Shown.cutb 0) (kSeq (evCP E_ewtok_Shown (evLP E_ewtok_Shown n) (sub C_ewtok_Shown [1, 1, 1, 1])) (kFnP E_ewtok_Shown R_ewtok_Shown))) (frOf [(3, (.dat (.sl (.pair (.int .i64) (.pair (.sl .byte) .unit))) out3 (some (3, 28)))), (4, (.dat (.sl (.pair (.int .i64) (.pair (.sl .byte) .unit))) l4 (some (4, 28)))), (10, (.dat (.sl .bool) s10 (some (10, 4)))), (11, (.dat (.int .i64) s11 none)), (12, (.dat (.int .i64) s12 none))])) from by
    funext out3 l4 s10 s11 s12
    refine Eq.trans ?_ (ewtok_Shown_l4_ok (kBlockP 0 (E_ewtok_Shown.cutb 0) (kSeq (evCP E_ewtok_Shown (evLP E_ewtok_Shown n) (sub C_ewtok_Shown [1, 1, 1, 1])) (kFnP E_ewtok_Shown R_ewtok_Shown))) n out3 l4 s10 s11 s12).symm
    rw [show (fun out3 => (kBlockP 0 (E_ewtok_Shown.cutb 0) (kSeq (evCP E_ewtok_Shown (evLP E_ewtok_Shown n) (sub C_ewtok_Shown [1, 1, 1, 1])) (kFnP E_ewtok_Shown R_ewtok_Shown))) (.exit 0) (frOf [(3, (.dat (.sl (.pair (.int .i64) (.pair (.sl .byte) .unit))) out3 (some (3, 28))))])) = (ewtok_Shown_k4_0 n) from by
      funext out3
      exact ewtok_Shown_k4_0_ok n out3]
    all_goals kernel_rfl]
  kernel_rfl
theorem ewtok_Shown_sound : SoundG G Tryd.prog 13 s_ewtok_Shown := by
  refine sound_of_evP' G_stays (E := E_ewtok_Shown) (fn := Tryd.f13) (c := C_ewtok_Shown) (tyOk_of_table rfl tis_ok) (fun w S hg => ⟨⟨(fns_cons (ewtok_Hidden_sound w S hg) (fns_cons (ewtok_Pieces_sound w S hg) fns_nil)), fun f sp h => cns_nil f sp h w S⟩, gl_none w S hg⟩) follows Tryd.func13 (by kernel_rfl) (by kernel_rfl) (by kernel_rfl) ?_
  intro avs r h
  unfold s_ewtok_Shown at h
  split at h
  · simp only [Prod.mk.injEq] at h
    obtain ⟨hp, rfl⟩ := h
    obtain ⟨n, hn⟩ := ewtok_Shown_math _ hp
    exact ⟨n, _, (ewtok_Shown_ev n _ _).trans hn, .inl rfl⟩
  · cases h

end Go.Av
