import Derived.Test.YtejhjmmdachijaaDoorQrEvG
import Derived.Test.YtejhjmmdachijaaDoorQpN
import Derived.Test.YtejhjmmdachijaaDoorProg
import Derived.KernelRfl
namespace Go.Av
set_option linter.unusedSimpArgs false
open Go.Proofs
set_option maxRecDepth 100000
set_option linter.unusedVariables false
noncomputable def E_z71 : EnvP := ⟨⟨tiOf tis, fnsOf [(63, s_z63)], cnsOf [], [], 9, (fun _ => none), (fun _ => none), some [4]⟩, fun _ => none, fun _ => none, fun _ => [], fun _ => none, fun _ => none, fun _ => none⟩
noncomputable def C_z71 : Code := Tryd.f71.body.getD .skip
noncomputable def R_z71 : Array ResultVar := Tryd.f71.results
theorem z71_ev (n : Nat) (b0 : List UInt8) (o0 : Lab) (chars1 : List UInt8) (o1 : Lab) : evFnP E_z71 n C_z71 R_z71 [.dat (.sl .byte) b0 o0, .dat .str chars1 o1] = z71_sh n b0 chars1 := by
  kernel_rfl
theorem z71_sound : SoundG G Tryd.prog 71 s_z71 := by
  refine sound_of_evP' G_stays (E := E_z71) (fn := Tryd.f71) (c := C_z71) (tyOk_of_table rfl tis_ok) (fun w S hg => ⟨⟨(fns_cons (z63_sound w S hg) fns_nil), fun f sp h => cns_nil f sp h w S⟩, gl_none w S hg, (fun _ _ h => by cases h), (fun f sp h => rns_nil f sp h), (fun f it h => its_nil f it h)⟩) follows Tryd.func71 (by kernel_rfl) (by kernel_rfl) (by kernel_rfl) ?_
  intro avs r h
  unfold s_z71 at h
  split at h
  · simp only [Prod.mk.injEq] at h
    obtain ⟨hp, rfl⟩ := h
    obtain ⟨n, hn⟩ := z71_math _ _ hp
    exact ⟨n, _, (z71_ev n _ _ _ _).trans hn, .inl rfl⟩
  · cases h
noncomputable def E_z51 : EnvP := ⟨⟨tiOf tis, fnsOf [(71, s_z71)], cnsOf [], [], 6, (fun _ => none), (fun _ => none), some [2]⟩, fun _ => none, fun _ => none, fun _ => [], fun _ => none, fun _ => none, fun _ => none⟩
noncomputable def C_z51 : Code := Tryd.f51.body.getD .skip
noncomputable def R_z51 : Array ResultVar := Tryd.f51.results
theorem z51_ev (n : Nat) (s0 : List UInt8) (o0 : Lab) : evFnP E_z51 n C_z51 R_z51 [.dat (.sl .byte) s0 o0] = z51_sh n s0 := by
  kernel_rfl
theorem z51_sound : SoundG G Tryd.prog 51 s_z51 := by
  refine sound_of_evP' G_stays (E := E_z51) (fn := Tryd.f51) (c := C_z51) (tyOk_of_table rfl tis_ok) (fun w S hg => ⟨⟨(fns_cons (z71_sound w S hg) fns_nil), fun f sp h => cns_nil f sp h w S⟩, gl_none w S hg, (fun _ _ h => by cases h), (fun f sp h => rns_nil f sp h), (fun f it h => its_nil f it h)⟩) follows Tryd.func51 (by kernel_rfl) (by kernel_rfl) (by kernel_rfl) ?_
  intro avs r h
  unfold s_z51 at h
  split at h
  · simp only [Prod.mk.injEq] at h
    obtain ⟨hp, rfl⟩ := h
    obtain ⟨n, hn⟩ := z51_math _ hp
    exact ⟨n, _, (z51_ev n _ _).trans hn, .inl rfl⟩
  · cases h
noncomputable def E_z34 : EnvP := ⟨⟨tiOf tis, fnsOf [(41, s_z41), (50, s_z50), (51, s_z51)], cnsOf [], [], 60, (fun x => if x = 2 then some [0, 7, 8, 9] else none), (fun x => if x = 0 then some [0] else if x = 1 then some [0, 7, 8, 9] else if x = 2 then some [0, 3, 7, 8, 9] else none), some [2]⟩, fun _ => none, fun _ => none, fun _ => [], fun _ => none, fun _ => none, fun _ => none⟩
noncomputable def C_z34 : Code := Tryd.f34.body.getD .skip
noncomputable def R_z34 : Array ResultVar := Tryd.f34.results
theorem z34_l2_ok (K : Ex → Fr → Option AV) : ∀ (n : Nat) (l0 : List UInt8) (s7 : List UInt8) (s8 : Int) (s9 : Int), evLP E_z34 n (sub C_z34 [1, 0, 1, 0, 0]) K (frOf [(0, (.dat (.sl .byte) l0 none)), (7, (.dat (.sl .byte) s7 none)), (8, (.dat (.int .i64) s8 none)), (9, (.dat (.int .i64) s9 none))]) = z34_l2 (fun s2 => K .ret (frOf [(2, (.dat .bool s2 none))])) (fun l0 => K (.exit 0) (frOf [(0, (.dat (.sl .byte) l0 none))])) n l0 s7 s8 s9 := by
  intro n
  induction n with
  | zero => intros; rfl
  | succ n IH =>
  intro l0 s7 s8 s9
  have ih : (fun l0 s7 s8 s9 => evLP E_z34 n (sub C_z34 [1, 0, 1, 0, 0]) K (frOf [(0, (.dat (.sl .byte) l0 none)), (7, (.dat (.sl .byte) s7 none)), (8, (.dat (.int .i64) s8 none)), (9, (.dat (.int .i64) s9 none))])) = z34_l2 (fun s2 => K .ret (frOf [(2, (.dat .bool s2 none))])) (fun l0 => K (.exit 0) (frOf [(0, (.dat (.sl .byte) l0 none))])) n := by
    funext l0 s7 s8 s9
    exact IH l0 s7 s8 s9
  show _ = z34_l2_b (fun s2 => K .ret (frOf [(2, (.dat .bool s2 none))])) (fun l0 => K (.exit 0) (frOf [(0, (.dat (.sl .byte) l0 none))])) (z34_l2 (fun s2 => K .ret (frOf [(2, (.dat .bool s2 none))])) (fun l0 => K (.exit 0) (frOf [(0, (.dat (.sl .byte) l0 none))])) n) n l0 s7 s8 s9
  rw [← ih]
  kernel_rfl
theorem z34_k2_0_ok (n : Nat) (l0 : List UInt8) : (kBlockP 0 (E_z34.cutb 0) (kSeq (evCP E_z34 (evLP E_z34 n) (sub C_z34 [1, 1])) (kFnP E_z34 R_z34))) (.exit 0) (frOf [(0, (.dat (.sl .byte) l0 none))]) = z34_k2_0 n l0 := by
  kernel_rfl
theorem z34_ev (n : Nat) (l0 : List UInt8) (o0 : Lab) : evFnP E_z34 n C_z34 R_z34 [.dat (.sl .byte) l0 o0] = z34_sh n l0 := by
  unfold z34_sh
  rw [show z34_l2 z34_ret (z34_k2_0 n) n = (fun l0 s7 s8 s9 => evLP E_z34 n (sub C_z34 [1, 0, 1, 0, 0]) (kBlockP 0 (E_z34.cutb 0) (kSeq (evCP E_z34 (evLP E_z34 n) (sub C_z34 [1, 1])) (kFnP E_z34 R_z34))) (frOf [(0, (.dat (.sl .byte) l0 none)), (7, (.dat (.sl .byte) s7 none)), (8, (.dat (.int .i64) s8 none)), (9, (.dat (.int .i64) s9 none))])) from by
    funext l0 s7 s8 s9
    refine Eq.trans ?_ (z34_l2_ok (kBlockP 0 (E_z34.cutb 0) (kSeq (evCP E_z34 (evLP E_z34 n) (sub C_z34 [1, 1])) (kFnP E_z34 R_z34))) n l0 s7 s8 s9).symm
    rw [show (fun l0 => (kBlockP 0 (E_z34.cutb 0) (kSeq (evCP E_z34 (evLP E_z34 n) (sub C_z34 [1, 1])) (kFnP E_z34 R_z34))) (.exit 0) (frOf [(0, (.dat (.sl .byte) l0 none))])) = (z34_k2_0 n) from by
      funext l0
      exact z34_k2_0_ok n l0]
    all_goals kernel_rfl]
  kernel_rfl
theorem z34_sound : SoundG G Tryd.prog 34 s_z34 := by
  refine sound_of_evP' G_stays (E := E_z34) (fn := Tryd.f34) (c := C_z34) (tyOk_of_table rfl tis_ok) (fun w S hg => ⟨⟨(fns_cons (z41_sound w S hg) (fns_cons (z50_sound w S hg) (fns_cons (z51_sound w S hg) fns_nil))), fun f sp h => cns_nil f sp h w S⟩, gl_none w S hg, (fun _ _ h => by cases h), (fun f sp h => rns_nil f sp h), (fun f it h => its_nil f it h)⟩) follows Tryd.func34 (by kernel_rfl) (by kernel_rfl) (by kernel_rfl) ?_
  intro avs r h
  unfold s_z34 at h
  split at h
  · simp only [Prod.mk.injEq] at h
    obtain ⟨hp, rfl⟩ := h
    obtain ⟨n, hn⟩ := z34_math _ hp
    exact ⟨n, _, (z34_ev n _ _).trans hn, .inl rfl⟩
  · cases h
noncomputable def E_z12 : EnvP := ⟨⟨tiOf tis, fnsOf [(33, s_z33), (34, s_z34)], cnsOf [], [], 29, (fun x => if x = 1 then some [0] else none), (fun x => if x = 0 then some [] else if x = 1 then some [0] else if x = 2 then some [4] else none), some [2]⟩, fun _ => none, fun _ => none, fun _ => [], fun _ => none, fun _ => none, fun _ => none⟩
noncomputable def C_z12 : Code := Tryd.f12.body.getD .skip
noncomputable def R_z12 : Array ResultVar := Tryd.f12.results
theorem z12_l1_ok (K : Ex → Fr → Option AV) : ∀ (n : Nat) (s0 : List UInt8), evLP E_z12 n (sub C_z12 [1, 0, 0, 0]) K (frOf [(0, (.dat (.sl .byte) s0 none))]) = z12_l1 (fun s2 => K .ret (frOf [(2, (.dat (.int .i64) s2 none))])) (K (.exit 0) (frOf [])) n s0 := by
  intro n
  induction n with
  | zero => intros; rfl
  | succ n IH =>
  intro s0
  have ih : (fun s0 => evLP E_z12 n (sub C_z12 [1, 0, 0, 0]) K (frOf [(0, (.dat (.sl .byte) s0 none))])) = z12_l1 (fun s2 => K .ret (frOf [(2, (.dat (.int .i64) s2 none))])) (K (.exit 0) (frOf [])) n := by
    funext s0
    exact IH s0
  show _ = z12_l1_b (fun s2 => K .ret (frOf [(2, (.dat (.int .i64) s2 none))])) (K (.exit 0) (frOf [])) (z12_l1 (fun s2 => K .ret (frOf [(2, (.dat (.int .i64) s2 none))])) (K (.exit 0) (frOf [])) n) n s0
  rw [← ih]
  kernel_rfl
theorem z12_k1_0_ok (n : Nat)  : (kBlockP 0 (E_z12.cutb 0) (kSeq (evCP E_z12 (evLP E_z12 n) (sub C_z12 [1, 1])) (kFnP E_z12 R_z12))) (.exit 0) (frOf []) = z12_k1_0 n  := by
  kernel_rfl
theorem z12_ev (n : Nat) (s0 : List UInt8) (o0 : Lab) : evFnP E_z12 n C_z12 R_z12 [.dat (.sl .byte) s0 o0] = z12_sh n s0 := by
  unfold z12_sh
  rw [show z12_l1 z12_ret (z12_k1_0 n) n = (fun s0 => evLP E_z12 n (sub C_z12 [1, 0, 0, 0]) (kBlockP 0 (E_z12.cutb 0) (kSeq (evCP E_z12 (evLP E_z12 n) (sub C_z12 [1, 1])) (kFnP E_z12 R_z12))) (frOf [(0, (.dat (.sl .byte) s0 none))])) from by
    funext s0
    refine Eq.trans ?_ (z12_l1_ok (kBlockP 0 (E_z12.cutb 0) (kSeq (evCP E_z12 (evLP E_z12 n) (sub C_z12 [1, 1])) (kFnP E_z12 R_z12))) n s0).symm
    rw [show ((kBlockP 0 (E_z12.cutb 0) (kSeq (evCP E_z12 (evLP E_z12 n) (sub C_z12 [1, 1])) (kFnP E_z12 R_z12))) (.exit 0) (frOf [])) = (z12_k1_0 n) from by
      exact z12_k1_0_ok n ]
    all_goals kernel_rfl]
  kernel_rfl
theorem z12_sound : SoundG G Tryd.prog 12 s_z12 := by
  refine sound_of_evP' G_stays (E := E_z12) (fn := Tryd.f12) (c := C_z12) (tyOk_of_table rfl tis_ok) (fun w S hg => ⟨⟨(fns_cons (z33_sound w S hg) (fns_cons (z34_sound w S hg) fns_nil)), fun f sp h => cns_nil f sp h w S⟩, gl_none w S hg, (fun _ _ h => by cases h), (fun f sp h => rns_nil f sp h), (fun f it h => its_nil f it h)⟩) follows Tryd.func12 (by kernel_rfl) (by kernel_rfl) (by kernel_rfl) ?_
  intro avs r h
  unfold s_z12 at h
  split at h
  · simp only [Prod.mk.injEq] at h
    obtain ⟨hp, rfl⟩ := h
    obtain ⟨n, hn⟩ := z12_math _ hp
    exact ⟨n, _, (z12_ev n _ _).trans hn, .inl rfl⟩
  · cases h
noncomputable def E_z29 : EnvP := ⟨⟨tiOf tis, fnsOf [(12, s_z12), (27, s_z27)], cnsOf [], [], 12, (fun _ => none), (fun _ => none), some [1000002, 3]⟩, fun _ => none, fun _ => none, fun _ => [], fun _ => none, fun _ => none, fun _ => none⟩
noncomputable def C_z29 : Code := Tryd.f29.body.getD .skip
noncomputable def R_z29 : Array ResultVar := Tryd.f29.results
theorem z29_ev (n : Nat) (s0 : List UInt8) (o0 : Lab) : evFnP E_z29 n C_z29 R_z29 [.dat (.sl .byte) s0 o0] = z29_sh n s0 := by
  kernel_rfl
theorem z29_sound : SoundG G Tryd.prog 29 s_z29 := by
  refine sound_of_evP' G_stays (E := E_z29) (fn := Tryd.f29) (c := C_z29) (tyOk_of_table rfl tis_ok) (fun w S hg => ⟨⟨(fns_cons (z12_sound w S hg) (fns_cons (z27_sound w S hg) fns_nil)), fun f sp h => cns_nil f sp h w S⟩, gl_none w S hg, (fun _ _ h => by cases h), (fun f sp h => rns_nil f sp h), (fun f it h => its_nil f it h)⟩) follows Tryd.func29 (by kernel_rfl) (by kernel_rfl) (by kernel_rfl) ?_
  intro avs r h
  unfold s_z29 at h
  split at h
  · simp only [Prod.mk.injEq] at h
    obtain ⟨hp, rfl⟩ := h
    obtain ⟨n, hn⟩ := z29_math _ hp
    exact ⟨n, _, (z29_ev n _ _).trans hn, .inl rfl⟩
  · cases h
noncomputable def E_z75 : EnvP := ⟨⟨tiOf tis, fnsOf [], cnsOf [], [], 6, (fun _ => none), (fun _ => none), some [2]⟩, fun _ => none, fun _ => none, fun _ => [], fun _ => none, fun _ => none, fun _ => none⟩
noncomputable def C_z75 : Code := Tryd.f75.body.getD .skip
noncomputable def R_z75 : Array ResultVar := Tryd.f75.results
theorem z75_ev (n : Nat) (n0 : Int) (o0 : Lab) : evFnP E_z75 n C_z75 R_z75 [.dat (.int .i64) n0 o0] = z75_sh n n0 := by
  kernel_rfl
theorem z75_sound : SoundG G Tryd.prog 75 s_z75 := by
  refine sound_of_evP' G_stays (E := E_z75) (fn := Tryd.f75) (c := C_z75) (tyOk_of_table rfl tis_ok) (fun w S hg => ⟨⟨fns_nil, fun f sp h => cns_nil f sp h w S⟩, gl_none w S hg, (fun _ _ h => by cases h), (fun f sp h => rns_nil f sp h), (fun f it h => its_nil f it h)⟩) follows Tryd.func75 (by kernel_rfl) (by kernel_rfl) (by kernel_rfl) ?_
  intro avs r h
  unfold s_z75 at h
  split at h
  · simp only [Prod.mk.injEq] at h
    obtain ⟨hp, rfl⟩ := h
    obtain ⟨n, hn⟩ := z75_math _ hp
    exact ⟨n, _, (z75_ev n _ _).trans hn, .inl rfl⟩
  · cases h
noncomputable def E_z56 : EnvP := ⟨⟨tiOf tis, fnsOf [(75, s_z75)], cnsOf [], [], 11, (fun _ => none), (fun _ => none), some [2]⟩, fun _ => none, fun _ => none, fun _ => [], fun _ => none, fun _ => none, fun _ => none⟩
noncomputable def C_z56 : Code := Tryd.f56.body.getD .skip
noncomputable def R_z56 : Array ResultVar := Tryd.f56.results
theorem z56_ev (n : Nat) (c0 : UInt8) (o0 : Lab) : evFnP E_z56 n C_z56 R_z56 [.dat .byte c0 o0] = z56_sh n c0 := by
  kernel_rfl
theorem z56_sound : SoundG G Tryd.prog 56 s_z56 := by
  refine sound_of_evP' G_stays (E := E_z56) (fn := Tryd.f56) (c := C_z56) (tyOk_of_table rfl tis_ok) (fun w S hg => ⟨⟨(fns_cons (z75_sound w S hg) fns_nil), fun f sp h => cns_nil f sp h w S⟩, gl_none w S hg, (fun _ _ h => by cases h), (fun f sp h => rns_nil f sp h), (fun f it h => its_nil f it h)⟩) follows Tryd.func56 (by kernel_rfl) (by kernel_rfl) (by kernel_rfl) ?_
  intro avs r h
  unfold s_z56 at h
  split at h
  · simp only [Prod.mk.injEq, true_and] at h
    subst h
    obtain ⟨n, hn⟩ := z56_math _
    exact ⟨n, _, (z56_ev n _ _).trans hn, .inl rfl⟩
  · cases h
end Go.Av
