import Derived.Test.YtejhjmmdachijaaDoorQrEvF
import Derived.Test.YtejhjmmdachijaaDoorQpN
import Derived.Test.YtejhjmmdachijaaDoorProg
import Derived.KernelRfl
namespace Go.Av
set_option linter.unusedSimpArgs false
open Go.Proofs
set_option maxRecDepth 100000
set_option linter.unusedVariables false
noncomputable def E_z47 : EnvP := ⟨⟨tiOf tis, fnsOf [(61, s_z61)], cnsOf [], [], 58, (fun _ => none), (fun _ => none), some [6, 7]⟩, fun _ => none, fun _ => none, fun _ => [], fun _ => none, fun _ => none, fun _ => none⟩
noncomputable def C_z47 : Code := Tryd.f47.body.getD .skip
noncomputable def R_z47 : Array ResultVar := Tryd.f47.results
theorem z47_ev (n : Nat) (s0 : List UInt8) (o0 : Lab) (at1 : Int) (o1 : Lab) (sign2 : UInt8) (o2 : Lab) : evFnP E_z47 n C_z47 R_z47 [.dat (.sl .byte) s0 o0, .dat (.int .i64) at1 o1, .dat .byte sign2 o2] = z47_sh n s0 at1 sign2 := by
  kernel_rfl
theorem z47_sound : SoundG G Tryd.prog 47 s_z47 := by
  refine sound_of_evP' G_stays (E := E_z47) (fn := Tryd.f47) (c := C_z47) (tyOk_of_table rfl tis_ok) (fun w S hg => ⟨⟨(fns_cons (z61_sound w S hg) fns_nil), fun f sp h => cns_nil f sp h w S⟩, gl_none w S hg, (fun _ _ h => by cases h), (fun f sp h => rns_nil f sp h), (fun f it h => its_nil f it h)⟩) follows Tryd.func47 (by kernel_rfl) (by kernel_rfl) (by kernel_rfl) ?_
  intro avs r h
  unfold s_z47 at h
  split at h
  · simp only [Prod.mk.injEq] at h
    obtain ⟨hp, rfl⟩ := h
    obtain ⟨n, hn⟩ := z47_math _ _ _ hp
    exact ⟨n, _, (z47_ev n _ _ _ _ _ _).trans hn, .inl rfl⟩
  · cases h
noncomputable def E_z26 : EnvP := ⟨⟨tiOf tis, fnsOf [(43, s_z43), (47, s_z47)], cnsOf [], [], 82, (fun x => if x = 1 then some [0] else if x = 9 then some [0, 5, 6, 7, 8] else none), (fun x => if x = 0 then some [0] else if x = 1 then some [0] else if x = 2 then some [5, 6, 7] else if x = 3 then some [0, 5, 6, 7, 8] else none), some [2, 3, 4]⟩, fun _ => none, fun _ => none, fun _ => [], fun _ => none, fun _ => none, fun _ => none⟩
noncomputable def C_z26 : Code := Tryd.f26.body.getD .skip
noncomputable def R_z26 : Array ResultVar := Tryd.f26.results
theorem z26_l1_ok (K : Ex → Fr → Option AV) : ∀ (n : Nat) (l0 : List UInt8), evLP E_z26 n (sub C_z26 [1, 0, 0, 0]) K (frOf [(0, (.dat (.sl .byte) l0 none))]) = z26_l1 (fun l0 => K (.exit 0) (frOf [(0, (.dat (.sl .byte) l0 none))])) n l0 := by
  intro n
  induction n with
  | zero => intros; rfl
  | succ n IH =>
  intro l0
  have ih : (fun l0 => evLP E_z26 n (sub C_z26 [1, 0, 0, 0]) K (frOf [(0, (.dat (.sl .byte) l0 none))])) = z26_l1 (fun l0 => K (.exit 0) (frOf [(0, (.dat (.sl .byte) l0 none))])) n := by
    funext l0
    exact IH l0
  show _ = z26_l1_b (fun l0 => K (.exit 0) (frOf [(0, (.dat (.sl .byte) l0 none))])) (z26_l1 (fun l0 => K (.exit 0) (frOf [(0, (.dat (.sl .byte) l0 none))])) n) n l0
  rw [← ih]
  kernel_rfl
theorem z26_l9_ok (K : Ex → Fr → Option AV) : ∀ (n : Nat) (l0 : List UInt8) (soft5 : Bool) (out6 : List UInt8) (strange7 : Int) (i8 : Int), evLP E_z26 n (sub C_z26 [1, 1, 1, 1, 1, 1, 0, 1, 0, 0]) K (frOf [(0, (.dat (.sl .byte) l0 none)), (5, (.dat .bool soft5 none)), (6, (.dat (.sl .byte) out6 (some (6, 5)))), (7, (.dat (.int .i64) strange7 none)), (8, (.dat (.int .i64) i8 none))]) = z26_l9 (fun soft5 out6 strange7 => K (.exit 2) (frOf [(5, (.dat .bool soft5 none)), (6, (.dat (.sl .byte) out6 (some (6, 5)))), (7, (.dat (.int .i64) strange7 none))])) n l0 soft5 out6 strange7 i8 := by
  intro n
  induction n with
  | zero => intros; rfl
  | succ n IH =>
  intro l0 soft5 out6 strange7 i8
  have ih : (fun l0 soft5 out6 strange7 i8 => evLP E_z26 n (sub C_z26 [1, 1, 1, 1, 1, 1, 0, 1, 0, 0]) K (frOf [(0, (.dat (.sl .byte) l0 none)), (5, (.dat .bool soft5 none)), (6, (.dat (.sl .byte) out6 (some (6, 5)))), (7, (.dat (.int .i64) strange7 none)), (8, (.dat (.int .i64) i8 none))])) = z26_l9 (fun soft5 out6 strange7 => K (.exit 2) (frOf [(5, (.dat .bool soft5 none)), (6, (.dat (.sl .byte) out6 (some (6, 5)))), (7, (.dat (.int .i64) strange7 none))])) n := by
    funext l0 soft5 out6 strange7 i8
    exact IH l0 soft5 out6 strange7 i8
  show _ = z26_l9_b (fun soft5 out6 strange7 => K (.exit 2) (frOf [(5, (.dat .bool soft5 none)), (6, (.dat (.sl .byte) out6 (some (6, 5)))), (7, (.dat (.int .i64) strange7 none))])) (z26_l9 (fun soft5 out6 strange7 => K (.exit 2) (frOf [(5, (.dat .bool soft5 none)), (6, (.dat (.sl .byte) out6 (some (6, 5)))), (7, (.dat (.int .i64) strange7 none))])) n) n l0 soft5 out6 strange7 i8
  rw [← ih]
  kernel_rfl
theorem z26_k9_2_ok (n : Nat) (soft5 : Bool) (out6 : List UInt8) (strange7 : Int) : (kBlockP 2 (E_z26.cutb 2) (kSeq (evCP E_z26 (evLP E_z26 n) (sub C_z26 [1, 1, 1, 1, 1, 1, 1])) (kFnP E_z26 R_z26))) (.exit 2) (frOf [(5, (.dat .bool soft5 none)), (6, (.dat (.sl .byte) out6 (some (6, 5)))), (7, (.dat (.int .i64) strange7 none))]) = z26_k9_2 n soft5 out6 strange7 := by
  kernel_rfl
theorem z26_k1_0_ok (n : Nat) (l0 : List UInt8) : (kBlockP 0 (E_z26.cutb 0) (kSeq (evCP E_z26 (evLP E_z26 n) (sub C_z26 [1, 1])) (kFnP E_z26 R_z26))) (.exit 0) (frOf [(0, (.dat (.sl .byte) l0 none))]) = z26_k1_0 n l0 := by
  unfold z26_k1_0
  rw [show z26_l9 (z26_k9_2 n) n = (fun l0 soft5 out6 strange7 i8 => evLP E_z26 n (sub C_z26 [1, 1, 1, 1, 1, 1, 0, 1, 0, 0]) (kBlockP 2 (E_z26.cutb 2) (kSeq (evCP E_z26 (evLP E_z26 n) (sub C_z26 [1, 1, 1, 1, 1, 1, 1])) (kFnP E_z26 R_z26))) (frOf [(0, (.dat (.sl .byte) l0 none)), (5, (.dat .bool soft5 none)), (6, (.dat (.sl .byte) out6 (some (6, 5)))), (7, (.dat (.int .i64) strange7 none)), (8, (.dat (.int .i64) i8 none))])) from by
    funext l0 soft5 out6 strange7 i8
    refine Eq.trans ?_ (z26_l9_ok (kBlockP 2 (E_z26.cutb 2) (kSeq (evCP E_z26 (evLP E_z26 n) (sub C_z26 [1, 1, 1, 1, 1, 1, 1])) (kFnP E_z26 R_z26))) n l0 soft5 out6 strange7 i8).symm
    rw [show (fun soft5 out6 strange7 => (kBlockP 2 (E_z26.cutb 2) (kSeq (evCP E_z26 (evLP E_z26 n) (sub C_z26 [1, 1, 1, 1, 1, 1, 1])) (kFnP E_z26 R_z26))) (.exit 2) (frOf [(5, (.dat .bool soft5 none)), (6, (.dat (.sl .byte) out6 (some (6, 5)))), (7, (.dat (.int .i64) strange7 none))])) = (z26_k9_2 n) from by
      funext soft5 out6 strange7
      exact z26_k9_2_ok n soft5 out6 strange7]
    all_goals kernel_rfl]
  kernel_rfl
theorem z26_ev (n : Nat) (l0 : List UInt8) (o0 : Lab) : evFnP E_z26 n C_z26 R_z26 [.dat (.sl .byte) l0 o0] = z26_sh n l0 := by
  unfold z26_sh
  rw [show z26_l1 (z26_k1_0 n) n = (fun l0 => evLP E_z26 n (sub C_z26 [1, 0, 0, 0]) (kBlockP 0 (E_z26.cutb 0) (kSeq (evCP E_z26 (evLP E_z26 n) (sub C_z26 [1, 1])) (kFnP E_z26 R_z26))) (frOf [(0, (.dat (.sl .byte) l0 none))])) from by
    funext l0
    refine Eq.trans ?_ (z26_l1_ok (kBlockP 0 (E_z26.cutb 0) (kSeq (evCP E_z26 (evLP E_z26 n) (sub C_z26 [1, 1])) (kFnP E_z26 R_z26))) n l0).symm
    rw [show (fun l0 => (kBlockP 0 (E_z26.cutb 0) (kSeq (evCP E_z26 (evLP E_z26 n) (sub C_z26 [1, 1])) (kFnP E_z26 R_z26))) (.exit 0) (frOf [(0, (.dat (.sl .byte) l0 none))])) = (z26_k1_0 n) from by
      funext l0
      exact z26_k1_0_ok n l0]
    all_goals kernel_rfl]
  kernel_rfl
theorem z26_sound : SoundG G Tryd.prog 26 s_z26 := by
  refine sound_of_evP' G_stays (E := E_z26) (fn := Tryd.f26) (c := C_z26) (tyOk_of_table rfl tis_ok) (fun w S hg => ⟨⟨(fns_cons (z43_sound w S hg) (fns_cons (z47_sound w S hg) fns_nil)), fun f sp h => cns_nil f sp h w S⟩, gl_none w S hg, (fun _ _ h => by cases h), (fun f sp h => rns_nil f sp h), (fun f it h => its_nil f it h)⟩) follows Tryd.func26 (by kernel_rfl) (by kernel_rfl) (by kernel_rfl) ?_
  intro avs r h
  unfold s_z26 at h
  split at h
  · simp only [Prod.mk.injEq] at h
    obtain ⟨hp, rfl⟩ := h
    obtain ⟨n, hn⟩ := z26_math _ hp
    exact ⟨n, _, (z26_ev n _ _).trans hn, .inl rfl⟩
  · cases h
noncomputable def E_z28 : EnvP := ⟨⟨tiOf tis, fnsOf [(26, s_z26)], cnsOf [], [], 97, (fun x => if x = 4 then some [0, 4, 5, 6, 7] else none), (fun x => if x = 0 then some [4, 6] else if x = 1 then some [0, 4, 5, 6, 7] else none), some [2, 3]⟩, fun _ => none, fun _ => none, fun _ => [], fun _ => none, fun _ => none, fun _ => none⟩
noncomputable def C_z28 : Code := Tryd.f28.body.getD .skip
noncomputable def R_z28 : Array ResultVar := Tryd.f28.results
theorem z28_l4_ok (K : Ex → Fr → Option AV) : ∀ (n : Nat) (s0 : List UInt8) (out4 : List UInt8) (line5 : List UInt8) (strange6 : Int) (i7 : Int), evLP E_z28 n (sub C_z28 [1, 1, 1, 0, 1, 0, 0]) K (frOf [(0, (.dat (.sl .byte) s0 none)), (4, (.dat (.sl .byte) out4 (some (4, 5)))), (5, (.dat (.sl .byte) line5 (some (5, 5)))), (6, (.dat (.int .i64) strange6 none)), (7, (.dat (.int .i64) i7 none))]) = z28_l4 (fun out4 strange6 => K (.exit 0) (frOf [(4, (.dat (.sl .byte) out4 (some (4, 5)))), (6, (.dat (.int .i64) strange6 none))])) n s0 out4 line5 strange6 i7 := by
  intro n
  induction n with
  | zero => intros; rfl
  | succ n IH =>
  intro s0 out4 line5 strange6 i7
  have ih : (fun s0 out4 line5 strange6 i7 => evLP E_z28 n (sub C_z28 [1, 1, 1, 0, 1, 0, 0]) K (frOf [(0, (.dat (.sl .byte) s0 none)), (4, (.dat (.sl .byte) out4 (some (4, 5)))), (5, (.dat (.sl .byte) line5 (some (5, 5)))), (6, (.dat (.int .i64) strange6 none)), (7, (.dat (.int .i64) i7 none))])) = z28_l4 (fun out4 strange6 => K (.exit 0) (frOf [(4, (.dat (.sl .byte) out4 (some (4, 5)))), (6, (.dat (.int .i64) strange6 none))])) n := by
    funext s0 out4 line5 strange6 i7
    exact IH s0 out4 line5 strange6 i7
  show _ = z28_l4_b (fun out4 strange6 => K (.exit 0) (frOf [(4, (.dat (.sl .byte) out4 (some (4, 5)))), (6, (.dat (.int .i64) strange6 none))])) (z28_l4 (fun out4 strange6 => K (.exit 0) (frOf [(4, (.dat (.sl .byte) out4 (some (4, 5)))), (6, (.dat (.int .i64) strange6 none))])) n) n s0 out4 line5 strange6 i7
  rw [← ih]
  kernel_rfl
theorem z28_k4_0_ok (n : Nat) (out4 : List UInt8) (strange6 : Int) : (kBlockP 0 (E_z28.cutb 0) (kSeq (evCP E_z28 (evLP E_z28 n) (sub C_z28 [1, 1, 1, 1])) (kFnP E_z28 R_z28))) (.exit 0) (frOf [(4, (.dat (.sl .byte) out4 (some (4, 5)))), (6, (.dat (.int .i64) strange6 none))]) = z28_k4_0 n out4 strange6 := by
  kernel_rfl
theorem z28_ev (n : Nat) (s0 : List UInt8) (o0 : Lab) : evFnP E_z28 n C_z28 R_z28 [.dat (.sl .byte) s0 o0] = z28_sh n s0 := by
  unfold z28_sh
  rw [show z28_l4 (z28_k4_0 n) n = (fun s0 out4 line5 strange6 i7 => evLP E_z28 n (sub C_z28 [1, 1, 1, 0, 1, 0, 0]) (kBlockP 0 (E_z28.cutb 0) (kSeq (evCP E_z28 (evLP E_z28 n) (sub C_z28 [1, 1, 1, 1])) (kFnP E_z28 R_z28))) (frOf [(0, (.dat (.sl .byte) s0 none)), (4, (.dat (.sl .byte) out4 (some (4, 5)))), (5, (.dat (.sl .byte) line5 (some (5, 5)))), (6, (.dat (.int .i64) strange6 none)), (7, (.dat (.int .i64) i7 none))])) from by
    funext s0 out4 line5 strange6 i7
    refine Eq.trans ?_ (z28_l4_ok (kBlockP 0 (E_z28.cutb 0) (kSeq (evCP E_z28 (evLP E_z28 n) (sub C_z28 [1, 1, 1, 1])) (kFnP E_z28 R_z28))) n s0 out4 line5 strange6 i7).symm
    rw [show (fun out4 strange6 => (kBlockP 0 (E_z28.cutb 0) (kSeq (evCP E_z28 (evLP E_z28 n) (sub C_z28 [1, 1, 1, 1])) (kFnP E_z28 R_z28))) (.exit 0) (frOf [(4, (.dat (.sl .byte) out4 (some (4, 5)))), (6, (.dat (.int .i64) strange6 none))])) = (z28_k4_0 n) from by
      funext out4 strange6
      exact z28_k4_0_ok n out4 strange6]
    all_goals kernel_rfl]
  kernel_rfl
theorem z28_sound : SoundG G Tryd.prog 28 s_z28 := by
  refine sound_of_evP' G_stays (E := E_z28) (fn := Tryd.f28) (c := C_z28) (tyOk_of_table rfl tis_ok) (fun w S hg => ⟨⟨(fns_cons (z26_sound w S hg) fns_nil), fun f sp h => cns_nil f sp h w S⟩, gl_none w S hg, (fun _ _ h => by cases h), (fun f sp h => rns_nil f sp h), (fun f it h => its_nil f it h)⟩) follows Tryd.func28 (by kernel_rfl) (by kernel_rfl) (by kernel_rfl) ?_
  intro avs r h
  unfold s_z28 at h
  split at h
  · simp only [Prod.mk.injEq] at h
    obtain ⟨hp, rfl⟩ := h
    obtain ⟨n, hn⟩ := z28_math _ hp
    exact ⟨n, _, (z28_ev n _ _).trans hn, .inl rfl⟩
  · cases h
noncomputable def E_z33 : EnvP := ⟨⟨tiOf tis, fnsOf [(49, s_z49)], cnsOf [], [], 23, (fun _ => none), (fun _ => none), some [4, 1000005, 6]⟩, fun _ => none, fun _ => none, fun _ => [], fun _ => none, fun _ => none, fun _ => none⟩
noncomputable def C_z33 : Code := Tryd.f33.body.getD .skip
noncomputable def R_z33 : Array ResultVar := Tryd.f33.results
theorem z33_ev (n : Nat) (s0 : List UInt8) (o0 : Lab) (sep1 : List UInt8) (o1 : Lab) : evFnP E_z33 n C_z33 R_z33 [.dat (.sl .byte) s0 o0, .dat (.sl .byte) sep1 o1] = z33_sh n s0 sep1 := by
  kernel_rfl
theorem z33_sound : SoundG G Tryd.prog 33 s_z33 := by
  refine sound_of_evP' G_stays (E := E_z33) (fn := Tryd.f33) (c := C_z33) (tyOk_of_table rfl tis_ok) (fun w S hg => ⟨⟨(fns_cons (z49_sound w S hg) fns_nil), fun f sp h => cns_nil f sp h w S⟩, gl_none w S hg, (fun _ _ h => by cases h), (fun f sp h => rns_nil f sp h), (fun f it h => its_nil f it h)⟩) follows Tryd.func33 (by kernel_rfl) (by kernel_rfl) (by kernel_rfl) ?_
  intro avs r h
  unfold s_z33 at h
  split at h
  · simp only [Prod.mk.injEq] at h
    obtain ⟨hp, rfl⟩ := h
    obtain ⟨n, hn⟩ := z33_math _ _ hp
    exact ⟨n, _, (z33_ev n _ _ _ _).trans hn, .inl rfl⟩
  · cases h
noncomputable def E_z71 : EnvP := ⟨⟨tiOf tis, fnsOf [(63, s_z63)], cnsOf [], [], 9, (fun _ => none), (fun _ => none), some [4]⟩, fun _ => none, fun _ => none, fun _ => [], fun _ => none, fun _ => none, fun _ => none⟩
noncomputable def C_z71 : Code := Tryd.f71.body.getD .skip
noncomputable def R_z71 : Array ResultVar := Tryd.f71.results
theorem z71_ev (n : Nat) (b0 : List UInt8) (o0 : Lab) (chars1 : List UInt8) (o1 : Lab) : evFnP E_z71 n C_z71 R_z71 [.dat (.sl .byte) b0 o0, .dat .str chars1 o1] = z71_sh n b0 chars1 := by
  kernel_rfl
theorem z71_sound : SoundG G Tryd.prog 71 s_z71 := by
  refine sound_of_evP' G_stays (E := E_z71) (fn := Tryd.f71) (c := C_z71) (tyOk_of_table rfl tis_ok) (fun w S hg => ⟨⟨(fns_cons (z63_sound w S hg) fns_nil), fun f sp h => cns_nil f sp h w S⟩, gl_none w S hg, (fun _ _ h => by cases h), (fun f sp h => rns_nil f sp h), (fun f it h => its_nil f it h)⟩) follows Tryd.func71 (by kernel_rfl) (by kernel_rfl) (by kernel_rfl) ?_
  intro avs r h
  unfold s_z71 at h
  split at h
  · simp only [Prod.mk.injEq] at h
    obtain ⟨hp, rfl⟩ := h
    obtain ⟨n, hn⟩ := z71_math _ _ hp
    exact ⟨n, _, (z71_ev n _ _ _ _).trans hn, .inl rfl⟩
  · cases h
noncomputable def E_z51 : EnvP := ⟨⟨tiOf tis, fnsOf [(71, s_z71)], cnsOf [], [], 6, (fun _ => none), (fun _ => none), some [2]⟩, fun _ => none, fun _ => none, fun _ => [], fun _ => none, fun _ => none, fun _ => none⟩
noncomputable def C_z51 : Code := Tryd.f51.body.getD .skip
noncomputable def R_z51 : Array ResultVar := Tryd.f51.results
theorem z51_ev (n : Nat) (s0 : List UInt8) (o0 : Lab) : evFnP E_z51 n C_z51 R_z51 [.dat (.sl .byte) s0 o0] = z51_sh n s0 := by
  kernel_rfl
theorem z51_sound : SoundG G Tryd.prog 51 s_z51 := by
  refine sound_of_evP' G_stays (E := E_z51) (fn := Tryd.f51) (c := C_z51) (tyOk_of_table rfl tis_ok) (fun w S hg => ⟨⟨(fns_cons (z71_sound w S hg) fns_nil), fun f sp h => cns_nil f sp h w S⟩, gl_none w S hg, (fun _ _ h => by cases h), (fun f sp h => rns_nil f sp h), (fun f it h => its_nil f it h)⟩) follows Tryd.func51 (by kernel_rfl) (by kernel_rfl) (by kernel_rfl) ?_
  intro avs r h
  unfold s_z51 at h
  split at h
  · simp only [Prod.mk.injEq] at h
    obtain ⟨hp, rfl⟩ := h
    obtain ⟨n, hn⟩ := z51_math _ hp
    exact ⟨n, _, (z51_ev n _ _).trans hn, .inl rfl⟩
  · cases h
noncomputable def E_z34 : EnvP := ⟨⟨tiOf tis, fnsOf [(41, s_z41), (50, s_z50), (51, s_z51)], cnsOf [], [], 60, (fun x => if x = 2 then some [0, 7, 8, 9] else none), (fun x => if x = 0 then some [0] else if x = 1 then some [0, 7, 8, 9] else if x = 2 then some [0, 3, 7, 8, 9] else none), some [2]⟩, fun _ => none, fun _ => none, fun _ => [], fun _ => none, fun _ => none, fun _ => none⟩
noncomputable def C_z34 : Code := Tryd.f34.body.getD .skip
noncomputable def R_z34 : Array ResultVar := Tryd.f34.results
theorem z34_l2_ok (K : Ex → Fr → Option AV) : ∀ (n : Nat) (l0 : List UInt8) (s7 : List UInt8) (s8 : Int) (s9 : Int), evLP E_z34 n (sub C_z34 [1, 0, 1, 0, 0]) K (frOf [(0, (.dat (.sl .byte) l0 none)), (7, (.dat (.sl .byte) s7 none)), (8, (.dat (.int .i64) s8 none)), (9, (.dat (.int .i64) s9 none))]) = z34_l2 (fun s2 => K .ret (frOf [(2, (.dat .bool s2 none))])) (fun l0 => K (.exit 0) (frOf [(0, (.dat (.sl .byte) l0 none))])) n l0 s7 s8 s9 := by
  intro n
  induction n with
  | zero => intros; rfl
  | succ n IH =>
  intro l0 s7 s8 s9
  have ih : (fun l0 s7 s8 s9 => evLP E_z34 n (sub C_z34 [1, 0, 1, 0, 0]) K (frOf [(0, (.dat (.sl .byte) l0 none)), (7, (.dat (.sl .byte) s7 none)), (8, (.dat (.int .i64) s8 none)), (9, (.dat (.int .i64) s9 none))])) = z34_l2 (fun s2 => K .ret (frOf [(2, (.dat .bool s2 none))])) (fun l0 => K (.exit 0) (frOf [(0, (.dat (.sl .byte) l0 none))])) n := by
    funext l0 s7 s8 s9
    exact IH l0 s7 s8 s9
  show _ = z34_l2_b (fun s2 => K .ret (frOf [(2, (.dat .bool s2 none))])) (fun l0 => K (.exit 0) (frOf [(0, (.dat (.sl .byte) l0 none))])) (z34_l2 (fun s2 => K .ret (frOf [(2, (.dat .bool s2 none))])) (fun l0 => K (.exit 0) (frOf [(0, (.dat (.sl .byte) l0 none))])) n) n l0 s7 s8 s9
  rw [← ih]
  kernel_rfl
theorem z34_k2_0_ok (n : Nat) (l0 : List UInt8) : (kBlockP 0 (E_z34.cutb 0) (kSeq (evCP E_z34 (evLP E_z34 n) (sub C_z34 [1, 1])) (kFnP E_z34 R_z34))) (.exit 0) (frOf [(0, (.dat (.sl .byte) l0 none))]) = z34_k2_0 n l0 := by
  kernel_rfl
theorem z34_ev (n : Nat) (l0 : List UInt8) (o0 : Lab) : evFnP E_z34 n C_z34 R_z34 [.dat (.sl .byte) l0 o0] = z34_sh n l0 := by
  unfold z34_sh
  rw [show z34_l2 z34_ret (z34_k2_0 n) n = (fun l0 s7 s8 s9 => evLP E_z34 n (sub C_z34 [1, 0, 1, 0, 0]) (kBlockP 0 (E_z34.cutb 0) (kSeq (evCP E_z34 (evLP E_z34 n) (sub C_z34 [1, 1])) (kFnP E_z34 R_z34))) (frOf [(0, (.dat (.sl .byte) l0 none)), (7, (.dat (.sl .byte) s7 none)), (8, (.dat (.int .i64) s8 none)), (9, (.dat (.int .i64) s9 none))])) from by
    funext l0 s7 s8 s9
    refine Eq.trans ?_ (z34_l2_ok (kBlockP 0 (E_z34.cutb 0) (kSeq (evCP E_z34 (evLP E_z34 n) (sub C_z34 [1, 1])) (kFnP E_z34 R_z34))) n l0 s7 s8 s9).symm
    rw [show (fun l0 => (kBlockP 0 (E_z34.cutb 0) (kSeq (evCP E_z34 (evLP E_z34 n) (sub C_z34 [1, 1])) (kFnP E_z34 R_z34))) (.exit 0) (frOf [(0, (.dat (.sl .byte) l0 none))])) = (z34_k2_0 n) from by
      funext l0
      exact z34_k2_0_ok n l0]
    all_goals kernel_rfl]
  kernel_rfl
theorem z34_sound : SoundG G Tryd.prog 34 s_z34 := by
  refine sound_of_evP' G_stays (E := E_z34) (fn := Tryd.f34) (c := C_z34) (tyOk_of_table rfl tis_ok) (fun w S hg => ⟨⟨(fns_cons (z41_sound w S hg) (fns_cons (z50_sound w S hg) (fns_cons (z51_sound w S hg) fns_nil))), fun f sp h => cns_nil f sp h w S⟩, gl_none w S hg, (fun _ _ h => by cases h), (fun f sp h => rns_nil f sp h), (fun f it h => its_nil f it h)⟩) follows Tryd.func34 (by kernel_rfl) (by kernel_rfl) (by kernel_rfl) ?_
  intro avs r h
  unfold s_z34 at h
  split at h
  · simp only [Prod.mk.injEq] at h
    obtain ⟨hp, rfl⟩ := h
    obtain ⟨n, hn⟩ := z34_math _ hp
    exact ⟨n, _, (z34_ev n _ _).trans hn, .inl rfl⟩
  · cases h
end Go.Av
