import Derived.Test.YtcfhfjjohmdaoaaDoorFiEvC
import Derived.Test.YtcfhfjjohmdaoaaDoorFiN
import Derived.Test.YtcfhfjjohmdaoaaDoorProg
import Derived.KernelRfl
namespace Go.Av
open Go.Proofs
set_option maxRecDepth 100000
/-! sheave/octet.All -/

noncomputable def E_octet_All : EnvP := ⟨⟨tiOf tis, fnsOf [(116, s_octet_Count)], cnsOf [], [], 11, (fun _ => none), (fun _ => none), some [4]⟩, fun _ => none, fun _ => none, fun _ => []⟩
noncomputable def C_octet_All : Code := Tryd.f87.body.getD .skip
noncomputable def R_octet_All : Array ResultVar := Tryd.f87.results
theorem octet_All_ev (n : Nat) (s0 : List UInt8) (o0 : Lab) (kinds1 : Int) (o1 : Lab) : evFnP E_octet_All n C_octet_All R_octet_All [.dat (.sl .byte) s0 o0, .dat (.int .i64) kinds1 o1] = octet_All_sh n s0 kinds1 := by
  kernel_rfl
theorem octet_All_sound : SoundG G Tryd.prog 87 s_octet_All := by
  refine sound_of_evP' G_stays (E := E_octet_All) (fn := Tryd.f87) (c := C_octet_All) (tyOk_of_table rfl tis_ok) (fun w S hg => ⟨⟨(fns_cons (octet_Count_sound w S hg) fns_nil), fun f sp h => cns_nil f sp h w S⟩, gl_none w S hg⟩) follows Tryd.func87 (by kernel_rfl) (by kernel_rfl) (by kernel_rfl) ?_
  intro avs r h
  unfold s_octet_All at h
  split at h
  · simp only [Prod.mk.injEq] at h
    obtain ⟨hp, rfl⟩ := h
    obtain ⟨n, hn⟩ := octet_All_math _ _ hp
    exact ⟨n, _, (octet_All_ev n _ _ _ _).trans hn, .inl rfl⟩
  · cases h

/-! sheave/octet.Trim -/

noncomputable def E_octet_Trim : EnvP := ⟨⟨tiOf tis, fnsOf [(60, s_bytes_Clone), (86, s_bytes_Trim)], cnsOf [], [], 6, (fun _ => none), (fun _ => none), some [2]⟩, fun _ => none, fun _ => none, fun _ => []⟩
noncomputable def C_octet_Trim : Code := Tryd.f61.body.getD .skip
noncomputable def R_octet_Trim : Array ResultVar := Tryd.f61.results
theorem octet_Trim_ev (n : Nat) (s0 : List UInt8) (o0 : Lab) : evFnP E_octet_Trim n C_octet_Trim R_octet_Trim [.dat (.sl .byte) s0 o0] = octet_Trim_sh n s0 := by
  kernel_rfl
theorem octet_Trim_sound : SoundG G Tryd.prog 61 s_octet_Trim := by
  refine sound_of_evP' G_stays (E := E_octet_Trim) (fn := Tryd.f61) (c := C_octet_Trim) (tyOk_of_table rfl tis_ok) (fun w S hg => ⟨⟨(fns_cons (bytes_Clone_sound w S hg) (fns_cons (bytes_Trim_sound w S hg) fns_nil)), fun f sp h => cns_nil f sp h w S⟩, gl_none w S hg⟩) follows Tryd.func61 (by kernel_rfl) (by kernel_rfl) (by kernel_rfl) ?_
  intro avs r h
  unfold s_octet_Trim at h
  split at h
  · simp only [Prod.mk.injEq] at h
    obtain ⟨hp, rfl⟩ := h
    obtain ⟨n, hn⟩ := octet_Trim_math _ hp
    exact ⟨n, _, (octet_Trim_ev n _ _).trans hn, .inl rfl⟩
  · cases h

/-! sheave/field.blank -/

noncomputable def E_field_blank : EnvP := ⟨⟨tiOf tis, fnsOf [(52, s_octet_Is)], cnsOf [], [], 12, (fun _ => none), (fun _ => none), some [2]⟩, fun _ => none, fun _ => none, fun _ => []⟩
noncomputable def C_field_blank : Code := Tryd.f62.body.getD .skip
noncomputable def R_field_blank : Array ResultVar := Tryd.f62.results
theorem field_blank_ev (n : Nat) (s0 : List UInt8) (o0 : Lab) : evFnP E_field_blank n C_field_blank R_field_blank [.dat (.sl .byte) s0 o0] = field_blank_sh n s0 := by
  kernel_rfl
theorem field_blank_sound : SoundG G Tryd.prog 62 s_field_blank := by
  refine sound_of_evP' G_stays (E := E_field_blank) (fn := Tryd.f62) (c := C_field_blank) (tyOk_of_table rfl tis_ok) (fun w S hg => ⟨⟨(fns_cons (octet_Is_sound w S hg) fns_nil), fun f sp h => cns_nil f sp h w S⟩, gl_none w S hg⟩) follows Tryd.func62 (by kernel_rfl) (by kernel_rfl) (by kernel_rfl) ?_
  intro avs r h
  unfold s_field_blank at h
  split at h
  · simp only [Prod.mk.injEq, true_and] at h
    subst h
    obtain ⟨n, hn⟩ := field_blank_math _
    exact ⟨n, _, (field_blank_ev n _ _).trans hn, .inl rfl⟩
  · cases h

/-! sheave/field.isName -/

noncomputable def E_field_isName : EnvP := ⟨⟨tiOf tis, fnsOf [(87, s_octet_All), (88, s_bytes_Contains)], cnsOf [], [], 17, (fun _ => none), (fun _ => none), some [2]⟩, fun _ => none, fun _ => none, fun _ => []⟩
noncomputable def C_field_isName : Code := Tryd.f63.body.getD .skip
noncomputable def R_field_isName : Array ResultVar := Tryd.f63.results
theorem field_isName_ev (n : Nat) (s0 : List UInt8) (o0 : Lab) : evFnP E_field_isName n C_field_isName R_field_isName [.dat (.sl .byte) s0 o0] = field_isName_sh n s0 := by
  kernel_rfl
theorem field_isName_sound : SoundG G Tryd.prog 63 s_field_isName := by
  refine sound_of_evP' G_stays (E := E_field_isName) (fn := Tryd.f63) (c := C_field_isName) (tyOk_of_table rfl tis_ok) (fun w S hg => ⟨⟨(fns_cons (octet_All_sound w S hg) (fns_cons (bytes_Contains_sound w S hg) fns_nil)), fun f sp h => cns_nil f sp h w S⟩, gl_none w S hg⟩) follows Tryd.func63 (by kernel_rfl) (by kernel_rfl) (by kernel_rfl) ?_
  intro avs r h
  unfold s_field_isName at h
  split at h
  · simp only [Prod.mk.injEq] at h
    obtain ⟨hp, rfl⟩ := h
    obtain ⟨n, hn⟩ := field_isName_math _ hp
    exact ⟨n, _, (field_isName_ev n _ _).trans hn, .inl rfl⟩
  · cases h

/-! sheave/field.parts -/

noncomputable def E_field_parts : EnvP := ⟨⟨tiOf tis, fnsOf [(51, s_bytes_Cut), (60, s_bytes_Clone), (62, s_field_blank)], cnsOf [], [], 53, (fun x => if x = 2 then some [0, 4] else none), (fun x => if x = 0 then some [4] else if x = 1 then some [0, 4] else if x = 2 then some [0, 4, 5] else none), some [2, 1000003]⟩, (fun x => if x = 2 then some (.psl 22 (.osl 5 .byte)) else if x = 4 then some (.psl 22 (.osl 5 .byte)) else if x = 43 then some (.osl 5 .byte) else if x = 45 then some (.osl 5 .byte) else if x = 50 then some (.psl 22 (.osl 5 .byte)) else if x = 51 then some (.psl 22 (.osl 5 .byte)) else none), fun _ => none, fun _ => []⟩
noncomputable def C_field_parts : Code := Tryd.f59.body.getD .skip
noncomputable def R_field_parts : Array ResultVar := Tryd.f59.results
theorem field_parts_l2_ok (K : Ex → Fr → Option AV) : ∀ (n : Nat) (s0 : List UInt8) (l4 : List (List UInt8)), evLP E_field_parts n (sub C_field_parts [1, 0, 1, 1, 0, 0, 0]) K (frOf [(0, (.dat (.sl .byte) s0 none)), (4, (.pv (.psl 22 (.osl 5 .byte)) l4 none))]) = field_parts_l2 (fun s2 s3 => K .ret (frOf [(2, (.dat (.sl (.sl .byte)) s2 none)), (3, (.dat (.sl .byte) s3 none))])) (fun l4 => K (.exit 0) (frOf [(4, (.pv (.psl 22 (.osl 5 .byte)) l4 none))])) n s0 l4 := by
  intro n
  induction n with
  | zero => intros; rfl
  | succ n IH =>
  intro s0 l4
  have ih : (fun s0 l4 => evLP E_field_parts n (sub C_field_parts [1, 0, 1, 1, 0, 0, 0]) K (frOf [(0, (.dat (.sl .byte) s0 none)), (4, (.pv (.psl 22 (.osl 5 .byte)) l4 none))])) = field_parts_l2 (fun s2 s3 => K .ret (frOf [(2, (.dat (.sl (.sl .byte)) s2 none)), (3, (.dat (.sl .byte) s3 none))])) (fun l4 => K (.exit 0) (frOf [(4, (.pv (.psl 22 (.osl 5 .byte)) l4 none))])) n := by
    funext s0 l4
    exact IH s0 l4
  show _ = field_parts_l2_b (fun s2 s3 => K .ret (frOf [(2, (.dat (.sl (.sl .byte)) s2 none)), (3, (.dat (.sl .byte) s3 none))])) (fun l4 => K (.exit 0) (frOf [(4, (.pv (.psl 22 (.osl 5 .byte)) l4 none))])) (field_parts_l2 (fun s2 s3 => K .ret (frOf [(2, (.dat (.sl (.sl .byte)) s2 none)), (3, (.dat (.sl .byte) s3 none))])) (fun l4 => K (.exit 0) (frOf [(4, (.pv (.psl 22 (.osl 5 .byte)) l4 none))])) n) n s0 l4
  rw [← ih]
  kernel_rfl
theorem field_parts_k2_0_ok (n : Nat) (l4 : List (List UInt8)) : (kBlockP 0 (E_field_parts.cutb 0) (kSeq (evCP E_field_parts (evLP E_field_parts n) (sub C_field_parts [1, 0, 1, 1, 1])) (kFnP E_field_parts R_field_parts))) (.exit 0) (frOf [(4, (.pv (.psl 22 (.osl 5 .byte)) l4 none))]) = field_parts_k2_0 n l4 := by
  kernel_rfl
theorem field_parts_ev (n : Nat) (s0 : List UInt8) (o0 : Lab) : evFnP E_field_parts n C_field_parts R_field_parts [.dat (.sl .byte) s0 o0] = field_parts_sh n s0 := by
  unfold field_parts_sh
  rw [show field_parts_l2 field_parts_ret (field_parts_k2_0 n) n = (fun s0 l4 => evLP E_field_parts n (sub C_field_parts [1, 0, 1, 1, 0, 0, 0]) (kBlockP 0 (E_field_parts.cutb 0) (kSeq (evCP E_field_parts (evLP E_field_parts n) (sub C_field_parts [1, 0, 1, 1, 1])) (kFnP E_field_parts R_field_parts))) (frOf [(0, (.dat (.sl .byte) s0 none)), (4, (.pv (.psl 22 (.osl 5 .byte)) l4 none))])) from by
    funext s0 l4
    refine Eq.trans ?_ (field_parts_l2_ok (kBlockP 0 (E_field_parts.cutb 0) (kSeq (evCP E_field_parts (evLP E_field_parts n) (sub C_field_parts [1, 0, 1, 1, 1])) (kFnP E_field_parts R_field_parts))) n s0 l4).symm
    rw [show (fun l4 => (kBlockP 0 (E_field_parts.cutb 0) (kSeq (evCP E_field_parts (evLP E_field_parts n) (sub C_field_parts [1, 0, 1, 1, 1])) (kFnP E_field_parts R_field_parts))) (.exit 0) (frOf [(4, (.pv (.psl 22 (.osl 5 .byte)) l4 none))])) = (field_parts_k2_0 n) from by
      funext l4
      exact field_parts_k2_0_ok n l4]
    all_goals kernel_rfl]
  kernel_rfl
theorem field_parts_sound : SoundG G Tryd.prog 59 s_field_parts := by
  refine sound_of_evP' G_stays (E := E_field_parts) (fn := Tryd.f59) (c := C_field_parts) (tyOk_of_table rfl tis_ok) (fun w S hg => ⟨⟨(fns_cons (bytes_Cut_sound w S hg) (fns_cons (bytes_Clone_sound w S hg) (fns_cons (field_blank_sound w S hg) fns_nil))), fun f sp h => cns_nil f sp h w S⟩, gl_none w S hg⟩) follows Tryd.func59 (by kernel_rfl) (by kernel_rfl) (by kernel_rfl) ?_
  intro avs r h
  unfold s_field_parts at h
  split at h
  · simp only [Prod.mk.injEq] at h
    obtain ⟨hp, rfl⟩ := h
    obtain ⟨n, hn⟩ := field_parts_math _ hp
    exact ⟨n, _, (field_parts_ev n _ _).trans hn, .inl rfl⟩
  · cases h

/-! sheave/field.Raw -/

noncomputable def E_field_Raw : EnvP := ⟨⟨tiOf tis, fnsOf [(59, s_field_parts)], cnsOf [], [], 11, (fun _ => none), (fun _ => none), some [2]⟩, fun _ => none, fun _ => none, fun _ => []⟩
noncomputable def C_field_Raw : Code := Tryd.f27.body.getD .skip
noncomputable def R_field_Raw : Array ResultVar := Tryd.f27.results
theorem field_Raw_ev (n : Nat) (s0 : List UInt8) (o0 : Lab) : evFnP E_field_Raw n C_field_Raw R_field_Raw [.dat (.sl .byte) s0 o0] = field_Raw_sh n s0 := by
  kernel_rfl
theorem field_Raw_sound : SoundG G Tryd.prog 27 s_field_Raw := by
  refine sound_of_evP' G_stays (E := E_field_Raw) (fn := Tryd.f27) (c := C_field_Raw) (tyOk_of_table rfl tis_ok) (fun w S hg => ⟨⟨(fns_cons (field_parts_sound w S hg) fns_nil), fun f sp h => cns_nil f sp h w S⟩, gl_none w S hg⟩) follows Tryd.func27 (by kernel_rfl) (by kernel_rfl) (by kernel_rfl) ?_
  intro avs r h
  unfold s_field_Raw at h
  split at h
  · simp only [Prod.mk.injEq] at h
    obtain ⟨hp, rfl⟩ := h
    obtain ⟨n, hn⟩ := field_Raw_math _ hp
    exact ⟨n, _, (field_Raw_ev n _ _).trans hn, .inl rfl⟩
  · cases h

/-! sheave/field.Body -/

noncomputable def E_field_Body : EnvP := ⟨⟨tiOf tis, fnsOf [(59, s_field_parts), (60, s_bytes_Clone)], cnsOf [], [], 12, (fun _ => none), (fun _ => none), some [2]⟩, fun _ => none, fun _ => none, fun _ => []⟩
noncomputable def C_field_Body : Code := Tryd.f29.body.getD .skip
noncomputable def R_field_Body : Array ResultVar := Tryd.f29.results
theorem field_Body_ev (n : Nat) (s0 : List UInt8) (o0 : Lab) : evFnP E_field_Body n C_field_Body R_field_Body [.dat (.sl .byte) s0 o0] = field_Body_sh n s0 := by
  kernel_rfl
theorem field_Body_sound : SoundG G Tryd.prog 29 s_field_Body := by
  refine sound_of_evP' G_stays (E := E_field_Body) (fn := Tryd.f29) (c := C_field_Body) (tyOk_of_table rfl tis_ok) (fun w S hg => ⟨⟨(fns_cons (field_parts_sound w S hg) (fns_cons (bytes_Clone_sound w S hg) fns_nil)), fun f sp h => cns_nil f sp h w S⟩, gl_none w S hg⟩) follows Tryd.func29 (by kernel_rfl) (by kernel_rfl) (by kernel_rfl) ?_
  intro avs r h
  unfold s_field_Body at h
  split at h
  · simp only [Prod.mk.injEq] at h
    obtain ⟨hp, rfl⟩ := h
    obtain ⟨n, hn⟩ := field_Body_math _ hp
    exact ⟨n, _, (field_Body_ev n _ _).trans hn, .inl rfl⟩
  · cases h

/-! sheave/field.One -/

noncomputable def E_field_One : EnvP := ⟨⟨tiOf tis, fnsOf [(16, s_fold_Unfold), (51, s_bytes_Cut), (61, s_octet_Trim), (62, s_field_blank), (63, s_field_isName)], cnsOf [], [], 35, (fun _ => none), (fun _ => none), some [2, 3]⟩, fun _ => none, fun _ => none, fun _ => []⟩
noncomputable def C_field_One : Code := Tryd.f30.body.getD .skip
noncomputable def R_field_One : Array ResultVar := Tryd.f30.results
theorem field_One_ev (n : Nat) (raw0 : List UInt8) (o0 : Lab) : evFnP E_field_One n C_field_One R_field_One [.dat (.sl .byte) raw0 o0] = field_One_sh n raw0 := by
  kernel_rfl
theorem field_One_sound : SoundG G Tryd.prog 30 s_field_One := by
  refine sound_of_evP' G_stays (E := E_field_One) (fn := Tryd.f30) (c := C_field_One) (tyOk_of_table rfl tis_ok) (fun w S hg => ⟨⟨(fns_cons (fold_Unfold_sound w S hg) (fns_cons (bytes_Cut_sound w S hg) (fns_cons (octet_Trim_sound w S hg) (fns_cons (field_blank_sound w S hg) (fns_cons (field_isName_sound w S hg) fns_nil))))), fun f sp h => cns_nil f sp h w S⟩, gl_none w S hg⟩) follows Tryd.func30 (by kernel_rfl) (by kernel_rfl) (by kernel_rfl) ?_
  intro avs r h
  unfold s_field_One at h
  split at h
  · simp only [Prod.mk.injEq] at h
    obtain ⟨hp, rfl⟩ := h
    obtain ⟨n, hn⟩ := field_One_math _ hp
    exact ⟨n, _, (field_One_ev n _ _).trans hn, .inl rfl⟩
  · cases h

/-! sheave/field.Read -/

noncomputable def E_field_Read : EnvP := ⟨⟨tiOf tis, fnsOf [(27, s_field_Raw), (30, s_field_One)], cnsOf [], [], 33, (fun x => if x = 4 then some [4, 5, 11, 12, 13] else none), (fun x => if x = 0 then some [4, 5] else if x = 1 then some [4, 5, 11, 12, 13] else none), some [2, 3]⟩, fun _ => none, fun _ => none, fun _ => []⟩
noncomputable def C_field_Read : Code := Tryd.f24.body.getD .skip
noncomputable def R_field_Read : Array ResultVar := Tryd.f24.results
theorem field_Read_l4_ok (K : Ex → Fr → Option AV) : ∀ (n : Nat) (l4 : List ((List UInt8) × ((List UInt8) × Unit))) (bad5 : Int) (s11 : List (List UInt8)) (s12 : Int) (s13 : Int), evLP E_field_Read n (sub C_field_Read [1, 1, 1, 0, 1, 0, 0]) K (frOf [(4, (.dat (.sl (.pair (.sl .byte) (.pair (.sl .byte) .unit))) l4 (some (4, 47)))), (5, (.dat (.int .i64) bad5 none)), (11, (.dat (.sl (.sl .byte)) s11 none)), (12, (.dat (.int .i64) s12 none)), (13, (.dat (.int .i64) s13 none))]) = field_Read_l4 (fun l4 bad5 => K (.exit 0) (frOf [(4, (.dat (.sl (.pair (.sl .byte) (.pair (.sl .byte) .unit))) l4 (some (4, 47)))), (5, (.dat (.int .i64) bad5 none))])) n l4 bad5 s11 s12 s13 := by
  intro n
  induction n with
  | zero => intros; rfl
  | succ n IH =>
  intro l4 bad5 s11 s12 s13
  have ih : (fun l4 bad5 s11 s12 s13 => evLP E_field_Read n (sub C_field_Read [1, 1, 1, 0, 1, 0, 0]) K (frOf [(4, (.dat (.sl (.pair (.sl .byte) (.pair (.sl .byte) .unit))) l4 (some (4, 47)))), (5, (.dat (.int .i64) bad5 none)), (11, (.dat (.sl (.sl .byte)) s11 none)), (12, (.dat (.int .i64) s12 none)), (13, (.dat (.int .i64) s13 none))])) = field_Read_l4 (fun l4 bad5 => K (.exit 0) (frOf [(4, (.dat (.sl (.pair (.sl .byte) (.pair (.sl .byte) .unit))) l4 (some (4, 47)))), (5, (.dat (.int .i64) bad5 none))])) n := by
    funext l4 bad5 s11 s12 s13
    exact IH l4 bad5 s11 s12 s13
  show _ = field_Read_l4_b (fun l4 bad5 => K (.exit 0) (frOf [(4, (.dat (.sl (.pair (.sl .byte) (.pair (.sl .byte) .unit))) l4 (some (4, 47)))), (5, (.dat (.int .i64) bad5 none))])) (field_Read_l4 (fun l4 bad5 => K (.exit 0) (frOf [(4, (.dat (.sl (.pair (.sl .byte) (.pair (.sl .byte) .unit))) l4 (some (4, 47)))), (5, (.dat (.int .i64) bad5 none))])) n) n l4 bad5 s11 s12 s13
  rw [← ih]
  kernel_rfl
theorem field_Read_k4_0_ok (n : Nat) (l4 : List ((List UInt8) × ((List UInt8) × Unit))) (bad5 : Int) : (kBlockP 0 (E_field_Read.cutb 0) (kSeq (evCP E_field_Read (evLP E_field_Read n) (sub C_field_Read [1, 1, 1, 1])) (kFnP E_field_Read R_field_Read))) (.exit 0) (frOf [(4, (.dat (.sl (.pair (.sl .byte) (.pair (.sl .byte) .unit))) l4 (some (4, 47)))), (5, (.dat (.int .i64) bad5 none))]) = field_Read_k4_0 n l4 bad5 := by
  kernel_rfl
theorem field_Read_ev (n : Nat) (s0 : List UInt8) (o0 : Lab) : evFnP E_field_Read n C_field_Read R_field_Read [.dat (.sl .byte) s0 o0] = field_Read_sh n s0 := by
  unfold field_Read_sh
  rw [show field_Read_l4 (field_Read_k4_0 n) n = (fun l4 bad5 s11 s12 s13 => evLP E_field_Read n (sub C_field_Read [1, 1, 1, 0, 1, 0, 0]) (kBlockP 0 (E_field_Read.cutb 0) (kSeq (evCP E_field_Read (evLP E_field_Read n) (sub C_field_Read [1, 1, 1, 1])) (kFnP E_field_Read R_field_Read))) (frOf [(4, (.dat (.sl (.pair (.sl .byte) (.pair (.sl .byte) .unit))) l4 (some (4, 47)))), (5, (.dat (.int .i64) bad5 none)), (11, (.dat (.sl (.sl .byte)) s11 none)), (12, (.dat (.int .i64) s12 none)), (13, (.dat (.int .i64) s13 none))])) from by
    funext l4 bad5 s11 s12 s13
    refine Eq.trans ?_ (field_Read_l4_ok (kBlockP 0 (E_field_Read.cutb 0) (kSeq (evCP E_field_Read (evLP E_field_Read n) (sub C_field_Read [1, 1, 1, 1])) (kFnP E_field_Read R_field_Read))) n l4 bad5 s11 s12 s13).symm
    rw [show (fun l4 bad5 => (kBlockP 0 (E_field_Read.cutb 0) (kSeq (evCP E_field_Read (evLP E_field_Read n) (sub C_field_Read [1, 1, 1, 1])) (kFnP E_field_Read R_field_Read))) (.exit 0) (frOf [(4, (.dat (.sl (.pair (.sl .byte) (.pair (.sl .byte) .unit))) l4 (some (4, 47)))), (5, (.dat (.int .i64) bad5 none))])) = (field_Read_k4_0 n) from by
      funext l4 bad5
      exact field_Read_k4_0_ok n l4 bad5]
    all_goals kernel_rfl]
  kernel_rfl
theorem field_Read_sound : SoundG G Tryd.prog 24 s_field_Read := by
  refine sound_of_evP' G_stays (E := E_field_Read) (fn := Tryd.f24) (c := C_field_Read) (tyOk_of_table rfl tis_ok) (fun w S hg => ⟨⟨(fns_cons (field_Raw_sound w S hg) (fns_cons (field_One_sound w S hg) fns_nil)), fun f sp h => cns_nil f sp h w S⟩, gl_none w S hg⟩) follows Tryd.func24 (by kernel_rfl) (by kernel_rfl) (by kernel_rfl) ?_
  intro avs r h
  unfold s_field_Read at h
  split at h
  · simp only [Prod.mk.injEq] at h
    obtain ⟨hp, rfl⟩ := h
    obtain ⟨n, hn⟩ := field_Read_math _ hp
    exact ⟨n, _, (field_Read_ev n _ _).trans hn, .inl rfl⟩
  · cases h

/-! sheave/field.check -/

noncomputable def E_field_check : EnvP := ⟨⟨tiOf tis, fnsOf [(53, s_bytes_ContainsAny), (61, s_octet_Trim), (63, s_field_isName)], cnsOf [], [], 21, (fun _ => none), (fun x => if x = 0 then some [] else none), some [2]⟩, fun _ => none, fun _ => none, fun _ => []⟩
noncomputable def C_field_check : Code := Tryd.f67.body.getD .skip
noncomputable def R_field_check : Array ResultVar := Tryd.f67.results
theorem field_check_ev (n : Nat) (f0 : (List UInt8) × ((List UInt8) × Unit)) (o0 : Lab) : evFnP E_field_check n C_field_check R_field_check [.dat (.pair (.sl .byte) (.pair (.sl .byte) .unit)) f0 o0] = field_check_sh n f0 := by
  kernel_rfl
theorem field_check_sound : SoundG G Tryd.prog 67 s_field_check := by
  refine sound_of_evP' G_stays (E := E_field_check) (fn := Tryd.f67) (c := C_field_check) (tyOk_of_table rfl tis_ok) (fun w S hg => ⟨⟨(fns_cons (bytes_ContainsAny_sound w S hg) (fns_cons (octet_Trim_sound w S hg) (fns_cons (field_isName_sound w S hg) fns_nil))), fun f sp h => cns_nil f sp h w S⟩, gl_none w S hg⟩) follows Tryd.func67 (by kernel_rfl) (by kernel_rfl) (by kernel_rfl) ?_
  intro avs r h
  unfold s_field_check at h
  split at h
  · simp only [Prod.mk.injEq] at h
    obtain ⟨hp, rfl⟩ := h
    obtain ⟨n, hn⟩ := field_check_math _ hp
    exact ⟨n, _, (field_check_ev n _ _).trans hn, .inl rfl⟩
  · cases h

/-! sheave/field.Lay -/

noncomputable def E_field_Lay : EnvP := ⟨⟨tiOf tis, fnsOf [(55, s_lines_Join), (60, s_bytes_Clone), (67, s_field_check)], cnsOf [], [], 33, (fun x => if x = 3 then some [4, 8, 9, 10] else none), (fun x => if x = 0 then some [4] else if x = 1 then some [4, 8, 9, 10] else none), some [2, 3]⟩, fun _ => none, fun _ => none, fun _ => []⟩
noncomputable def C_field_Lay : Code := Tryd.f33.body.getD .skip
noncomputable def R_field_Lay : Array ResultVar := Tryd.f33.results
theorem field_Lay_l3_ok (K : Ex → Fr → Option AV) : ∀ (n : Nat) (out4 : List (List UInt8)) (s8 : List ((List UInt8) × ((List UInt8) × Unit))) (s9 : Int) (s10 : Int), evLP E_field_Lay n (sub C_field_Lay [1, 1, 0, 1, 0, 0]) K (frOf [(4, (.dat (.sl (.sl .byte)) out4 (some (4, 22)))), (8, (.dat (.sl (.pair (.sl .byte) (.pair (.sl .byte) .unit))) s8 none)), (9, (.dat (.int .i64) s9 none)), (10, (.dat (.int .i64) s10 none))]) = field_Lay_l3 (fun s2 s3 => K .ret (frOf [(2, (.dat (.sl .byte) s2 (some (2, 5)))), (3, (.dat (.int .i64) s3 none))])) (fun out4 => K (.exit 0) (frOf [(4, (.dat (.sl (.sl .byte)) out4 (some (4, 22))))])) n out4 s8 s9 s10 := by
  intro n
  induction n with
  | zero => intros; rfl
  | succ n IH =>
  intro out4 s8 s9 s10
  have ih : (fun out4 s8 s9 s10 => evLP E_field_Lay n (sub C_field_Lay [1, 1, 0, 1, 0, 0]) K (frOf [(4, (.dat (.sl (.sl .byte)) out4 (some (4, 22)))), (8, (.dat (.sl (.pair (.sl .byte) (.pair (.sl .byte) .unit))) s8 none)), (9, (.dat (.int .i64) s9 none)), (10, (.dat (.int .i64) s10 none))])) = field_Lay_l3 (fun s2 s3 => K .ret (frOf [(2, (.dat (.sl .byte) s2 (some (2, 5)))), (3, (.dat (.int .i64) s3 none))])) (fun out4 => K (.exit 0) (frOf [(4, (.dat (.sl (.sl .byte)) out4 (some (4, 22))))])) n := by
    funext out4 s8 s9 s10
    exact IH out4 s8 s9 s10
  show _ = field_Lay_l3_b (fun s2 s3 => K .ret (frOf [(2, (.dat (.sl .byte) s2 (some (2, 5)))), (3, (.dat (.int .i64) s3 none))])) (fun out4 => K (.exit 0) (frOf [(4, (.dat (.sl (.sl .byte)) out4 (some (4, 22))))])) (field_Lay_l3 (fun s2 s3 => K .ret (frOf [(2, (.dat (.sl .byte) s2 (some (2, 5)))), (3, (.dat (.int .i64) s3 none))])) (fun out4 => K (.exit 0) (frOf [(4, (.dat (.sl (.sl .byte)) out4 (some (4, 22))))])) n) n out4 s8 s9 s10
  rw [← ih]
  kernel_rfl
theorem field_Lay_k3_0_ok (n : Nat) (out4 : List (List UInt8)) : (kBlockP 0 (E_field_Lay.cutb 0) (kSeq (evCP E_field_Lay (evLP E_field_Lay n) (sub C_field_Lay [1, 1, 1])) (kFnP E_field_Lay R_field_Lay))) (.exit 0) (frOf [(4, (.dat (.sl (.sl .byte)) out4 (some (4, 22))))]) = field_Lay_k3_0 n out4 := by
  kernel_rfl
theorem field_Lay_ev (n : Nat) (l0 : List ((List UInt8) × ((List UInt8) × Unit))) (o0 : Lab) : evFnP E_field_Lay n C_field_Lay R_field_Lay [.dat (.sl (.pair (.sl .byte) (.pair (.sl .byte) .unit))) l0 o0] = field_Lay_sh n l0 := by
  unfold field_Lay_sh
  rw [show field_Lay_l3 field_Lay_ret (field_Lay_k3_0 n) n = (fun out4 s8 s9 s10 => evLP E_field_Lay n (sub C_field_Lay [1, 1, 0, 1, 0, 0]) (kBlockP 0 (E_field_Lay.cutb 0) (kSeq (evCP E_field_Lay (evLP E_field_Lay n) (sub C_field_Lay [1, 1, 1])) (kFnP E_field_Lay R_field_Lay))) (frOf [(4, (.dat (.sl (.sl .byte)) out4 (some (4, 22)))), (8, (.dat (.sl (.pair (.sl .byte) (.pair (.sl .byte) .unit))) s8 none)), (9, (.dat (.int .i64) s9 none)), (10, (.dat (.int .i64) s10 none))])) from by
    funext out4 s8 s9 s10
    refine Eq.trans ?_ (field_Lay_l3_ok (kBlockP 0 (E_field_Lay.cutb 0) (kSeq (evCP E_field_Lay (evLP E_field_Lay n) (sub C_field_Lay [1, 1, 1])) (kFnP E_field_Lay R_field_Lay))) n out4 s8 s9 s10).symm
    rw [show (fun out4 => (kBlockP 0 (E_field_Lay.cutb 0) (kSeq (evCP E_field_Lay (evLP E_field_Lay n) (sub C_field_Lay [1, 1, 1])) (kFnP E_field_Lay R_field_Lay))) (.exit 0) (frOf [(4, (.dat (.sl (.sl .byte)) out4 (some (4, 22))))])) = (field_Lay_k3_0 n) from by
      funext out4
      exact field_Lay_k3_0_ok n out4]
    all_goals kernel_rfl]
  kernel_rfl
theorem field_Lay_sound : SoundG G Tryd.prog 33 s_field_Lay := by
  refine sound_of_evP' G_stays (E := E_field_Lay) (fn := Tryd.f33) (c := C_field_Lay) (tyOk_of_table rfl tis_ok) (fun w S hg => ⟨⟨(fns_cons (lines_Join_sound w S hg) (fns_cons (bytes_Clone_sound w S hg) (fns_cons (field_check_sound w S hg) fns_nil))), fun f sp h => cns_nil f sp h w S⟩, gl_none w S hg⟩) follows Tryd.func33 (by kernel_rfl) (by kernel_rfl) (by kernel_rfl) ?_
  intro avs r h
  unfold s_field_Lay at h
  split at h
  · simp only [Prod.mk.injEq] at h
    obtain ⟨hp, rfl⟩ := h
    obtain ⟨n, hn⟩ := field_Lay_math _ hp
    exact ⟨n, _, (field_Lay_ev n _ _).trans hn, .inl rfl⟩
  · cases h

/-! sheave/field.Find -/

noncomputable def E_field_Find : EnvP := ⟨⟨tiOf tis, fnsOf [(60, s_bytes_Clone), (84, s_octet_Same)], cnsOf [], [], 31, (fun x => if x = 4 then some [1, 6, 7, 10, 11, 12] else none), (fun x => if x = 0 then some [6, 7] else if x = 1 then some [1, 6, 7, 10, 11, 12] else none), some [4, 5]⟩, fun _ => none, fun _ => none, fun _ => []⟩
noncomputable def C_field_Find : Code := Tryd.f56.body.getD .skip
noncomputable def R_field_Find : Array ResultVar := Tryd.f56.results
theorem field_Find_l4_ok (K : Ex → Fr → Option AV) : ∀ (n : Nat) (name1 : List UInt8) (v6 : List UInt8) (n7 : Int) (s10 : List ((List UInt8) × ((List UInt8) × Unit))) (s11 : Int) (s12 : Int), evLP E_field_Find n (sub C_field_Find [1, 1, 1, 0, 1, 0, 0]) K (frOf [(1, (.dat (.sl .byte) name1 none)), (6, (.dat (.sl .byte) v6 (some (6, 5)))), (7, (.dat (.int .i64) n7 none)), (10, (.dat (.sl (.pair (.sl .byte) (.pair (.sl .byte) .unit))) s10 none)), (11, (.dat (.int .i64) s11 none)), (12, (.dat (.int .i64) s12 none))]) = field_Find_l4 (fun v6 n7 => K (.exit 0) (frOf [(6, (.dat (.sl .byte) v6 (some (6, 5)))), (7, (.dat (.int .i64) n7 none))])) n name1 v6 n7 s10 s11 s12 := by
  intro n
  induction n with
  | zero => intros; rfl
  | succ n IH =>
  intro name1 v6 n7 s10 s11 s12
  have ih : (fun name1 v6 n7 s10 s11 s12 => evLP E_field_Find n (sub C_field_Find [1, 1, 1, 0, 1, 0, 0]) K (frOf [(1, (.dat (.sl .byte) name1 none)), (6, (.dat (.sl .byte) v6 (some (6, 5)))), (7, (.dat (.int .i64) n7 none)), (10, (.dat (.sl (.pair (.sl .byte) (.pair (.sl .byte) .unit))) s10 none)), (11, (.dat (.int .i64) s11 none)), (12, (.dat (.int .i64) s12 none))])) = field_Find_l4 (fun v6 n7 => K (.exit 0) (frOf [(6, (.dat (.sl .byte) v6 (some (6, 5)))), (7, (.dat (.int .i64) n7 none))])) n := by
    funext name1 v6 n7 s10 s11 s12
    exact IH name1 v6 n7 s10 s11 s12
  show _ = field_Find_l4_b (fun v6 n7 => K (.exit 0) (frOf [(6, (.dat (.sl .byte) v6 (some (6, 5)))), (7, (.dat (.int .i64) n7 none))])) (field_Find_l4 (fun v6 n7 => K (.exit 0) (frOf [(6, (.dat (.sl .byte) v6 (some (6, 5)))), (7, (.dat (.int .i64) n7 none))])) n) n name1 v6 n7 s10 s11 s12
  rw [← ih]
  kernel_rfl
theorem field_Find_k4_0_ok (n : Nat) (v6 : List UInt8) (n7 : Int) : (kBlockP 0 (E_field_Find.cutb 0) (kSeq (evCP E_field_Find (evLP E_field_Find n) (sub C_field_Find [1, 1, 1, 1])) (kFnP E_field_Find R_field_Find))) (.exit 0) (frOf [(6, (.dat (.sl .byte) v6 (some (6, 5)))), (7, (.dat (.int .i64) n7 none))]) = field_Find_k4_0 n v6 n7 := by
  kernel_rfl
theorem field_Find_ev (n : Nat) (l0 : List ((List UInt8) × ((List UInt8) × Unit))) (o0 : Lab) (name1 : List UInt8) (o1 : Lab) : evFnP E_field_Find n C_field_Find R_field_Find [.dat (.sl (.pair (.sl .byte) (.pair (.sl .byte) .unit))) l0 o0, .dat (.sl .byte) name1 o1] = field_Find_sh n l0 name1 := by
  unfold field_Find_sh
  rw [show field_Find_l4 (field_Find_k4_0 n) n = (fun name1 v6 n7 s10 s11 s12 => evLP E_field_Find n (sub C_field_Find [1, 1, 1, 0, 1, 0, 0]) (kBlockP 0 (E_field_Find.cutb 0) (kSeq (evCP E_field_Find (evLP E_field_Find n) (sub C_field_Find [1, 1, 1, 1])) (kFnP E_field_Find R_field_Find))) (frOf [(1, (.dat (.sl .byte) name1 none)), (6, (.dat (.sl .byte) v6 (some (6, 5)))), (7, (.dat (.int .i64) n7 none)), (10, (.dat (.sl (.pair (.sl .byte) (.pair (.sl .byte) .unit))) s10 none)), (11, (.dat (.int .i64) s11 none)), (12, (.dat (.int .i64) s12 none))])) from by
    funext name1 v6 n7 s10 s11 s12
    refine Eq.trans ?_ (field_Find_l4_ok (kBlockP 0 (E_field_Find.cutb 0) (kSeq (evCP E_field_Find (evLP E_field_Find n) (sub C_field_Find [1, 1, 1, 1])) (kFnP E_field_Find R_field_Find))) n name1 v6 n7 s10 s11 s12).symm
    rw [show (fun v6 n7 => (kBlockP 0 (E_field_Find.cutb 0) (kSeq (evCP E_field_Find (evLP E_field_Find n) (sub C_field_Find [1, 1, 1, 1])) (kFnP E_field_Find R_field_Find))) (.exit 0) (frOf [(6, (.dat (.sl .byte) v6 (some (6, 5)))), (7, (.dat (.int .i64) n7 none))])) = (field_Find_k4_0 n) from by
      funext v6 n7
      exact field_Find_k4_0_ok n v6 n7]
    all_goals kernel_rfl]
  kernel_rfl
theorem field_Find_sound : SoundG G Tryd.prog 56 s_field_Find := by
  refine sound_of_evP' G_stays (E := E_field_Find) (fn := Tryd.f56) (c := C_field_Find) (tyOk_of_table rfl tis_ok) (fun w S hg => ⟨⟨(fns_cons (bytes_Clone_sound w S hg) (fns_cons (octet_Same_sound w S hg) fns_nil)), fun f sp h => cns_nil f sp h w S⟩, gl_none w S hg⟩) follows Tryd.func56 (by kernel_rfl) (by kernel_rfl) (by kernel_rfl) ?_
  intro avs r h
  unfold s_field_Find at h
  split at h
  · simp only [Prod.mk.injEq] at h
    obtain ⟨hp, rfl⟩ := h
    obtain ⟨n, hn⟩ := field_Find_math _ _ hp
    exact ⟨n, _, (field_Find_ev n _ _ _ _).trans hn, .inl rfl⟩
  · cases h

/-! sheave/sheaveref01.has -/

noncomputable def E_ref01_has : EnvP := ⟨⟨tiOf tis, fnsOf [], cnsOf [], [], 17, (fun x => if x = 2 then some [0, 1, 5] else none), (fun x => if x = 0 then some [] else if x = 1 then some [0, 1, 5] else none), some [4]⟩, fun _ => none, fun _ => none, fun _ => []⟩
noncomputable def C_ref01_has : Code := Tryd.f112.body.getD .skip
noncomputable def R_ref01_has : Array ResultVar := Tryd.f112.results
theorem ref01_has_l2_ok (K : Ex → Fr → Option AV) : ∀ (n : Nat) (s0 : List UInt8) (c1 : UInt8) (i5 : Int), evLP E_ref01_has n (sub C_ref01_has [1, 0, 1, 0, 0]) K (frOf [(0, (.dat .str s0 none)), (1, (.dat .byte c1 none)), (5, (.dat (.int .i64) i5 none))]) = ref01_has_l2 (fun s4 => K .ret (frOf [(4, (.dat .bool s4 none))])) (K (.exit 0) (frOf [])) n s0 c1 i5 := by
  intro n
  induction n with
  | zero => intros; rfl
  | succ n IH =>
  intro s0 c1 i5
  have ih : (fun s0 c1 i5 => evLP E_ref01_has n (sub C_ref01_has [1, 0, 1, 0, 0]) K (frOf [(0, (.dat .str s0 none)), (1, (.dat .byte c1 none)), (5, (.dat (.int .i64) i5 none))])) = ref01_has_l2 (fun s4 => K .ret (frOf [(4, (.dat .bool s4 none))])) (K (.exit 0) (frOf [])) n := by
    funext s0 c1 i5
    exact IH s0 c1 i5
  show _ = ref01_has_l2_b (fun s4 => K .ret (frOf [(4, (.dat .bool s4 none))])) (K (.exit 0) (frOf [])) (ref01_has_l2 (fun s4 => K .ret (frOf [(4, (.dat .bool s4 none))])) (K (.exit 0) (frOf [])) n) n s0 c1 i5
  rw [← ih]
  kernel_rfl
theorem ref01_has_k2_0_ok (n : Nat)  : (kBlockP 0 (E_ref01_has.cutb 0) (kSeq (evCP E_ref01_has (evLP E_ref01_has n) (sub C_ref01_has [1, 1])) (kFnP E_ref01_has R_ref01_has))) (.exit 0) (frOf []) = ref01_has_k2_0 n  := by
  kernel_rfl
theorem ref01_has_ev (n : Nat) (s0 : List UInt8) (o0 : Lab) (c1 : UInt8) (o1 : Lab) : evFnP E_ref01_has n C_ref01_has R_ref01_has [.dat .str s0 o0, .dat .byte c1 o1] = ref01_has_sh n s0 c1 := by
  unfold ref01_has_sh
  rw [show ref01_has_l2 ref01_has_ret (ref01_has_k2_0 n) n = (fun s0 c1 i5 => evLP E_ref01_has n (sub C_ref01_has [1, 0, 1, 0, 0]) (kBlockP 0 (E_ref01_has.cutb 0) (kSeq (evCP E_ref01_has (evLP E_ref01_has n) (sub C_ref01_has [1, 1])) (kFnP E_ref01_has R_ref01_has))) (frOf [(0, (.dat .str s0 none)), (1, (.dat .byte c1 none)), (5, (.dat (.int .i64) i5 none))])) from by
    funext s0 c1 i5
    refine Eq.trans ?_ (ref01_has_l2_ok (kBlockP 0 (E_ref01_has.cutb 0) (kSeq (evCP E_ref01_has (evLP E_ref01_has n) (sub C_ref01_has [1, 1])) (kFnP E_ref01_has R_ref01_has))) n s0 c1 i5).symm
    rw [show ((kBlockP 0 (E_ref01_has.cutb 0) (kSeq (evCP E_ref01_has (evLP E_ref01_has n) (sub C_ref01_has [1, 1])) (kFnP E_ref01_has R_ref01_has))) (.exit 0) (frOf [])) = (ref01_has_k2_0 n) from by
      exact ref01_has_k2_0_ok n ]
    all_goals kernel_rfl]
  kernel_rfl
theorem ref01_has_sound : SoundG G Tryd.prog 112 s_ref01_has := by
  refine sound_of_evP' G_stays (E := E_ref01_has) (fn := Tryd.f112) (c := C_ref01_has) (tyOk_of_table rfl tis_ok) (fun w S hg => ⟨⟨fns_nil, fun f sp h => cns_nil f sp h w S⟩, gl_none w S hg⟩) follows Tryd.func112 (by kernel_rfl) (by kernel_rfl) (by kernel_rfl) ?_
  intro avs r h
  unfold s_ref01_has at h
  split at h
  · simp only [Prod.mk.injEq] at h
    obtain ⟨hp, rfl⟩ := h
    obtain ⟨n, hn⟩ := ref01_has_math _ _ hp
    exact ⟨n, _, (ref01_has_ev n _ _ _ _).trans hn, .inl rfl⟩
  · cases h

end Go.Av
