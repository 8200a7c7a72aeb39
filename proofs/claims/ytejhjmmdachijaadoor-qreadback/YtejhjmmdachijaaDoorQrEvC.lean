import Derived.Test.YtejhjmmdachijaaDoorQrEvB
import Derived.Test.YtejhjmmdachijaaDoorQpN
import Derived.Test.YtejhjmmdachijaaDoorProg
import Derived.KernelRfl
namespace Go.Av
set_option linter.unusedSimpArgs false
open Go.Proofs
set_option maxRecDepth 100000
set_option linter.unusedVariables false
noncomputable def E_z43 : EnvP := ⟨⟨tiOf tis, fnsOf [(57, s_z57)], cnsOf [], [], 10, (fun _ => none), (fun _ => none), some [4]⟩, fun _ => none, fun _ => none, fun _ => [], fun _ => none, fun _ => none, fun _ => none⟩
noncomputable def C_z43 : Code := Tryd.f43.body.getD .skip
noncomputable def R_z43 : Array ResultVar := Tryd.f43.results
theorem z43_ev (n : Nat) (c0 : UInt8) (o0 : Lab) (kinds1 : Int) (o1 : Lab) : evFnP E_z43 n C_z43 R_z43 [.dat .byte c0 o0, .dat (.int .i64) kinds1 o1] = z43_sh n c0 kinds1 := by
  kernel_rfl
theorem z43_sound : SoundG G Tryd.prog 43 s_z43 := by
  refine sound_of_evP' G_stays (E := E_z43) (fn := Tryd.f43) (c := C_z43) (tyOk_of_table rfl tis_ok) (fun w S hg => ⟨⟨(fns_cons (z57_sound w S hg) fns_nil), fun f sp h => cns_nil f sp h w S⟩, gl_none w S hg, (fun _ _ h => by cases h), (fun f sp h => rns_nil f sp h), (fun f it h => its_nil f it h)⟩) follows Tryd.func43 (by kernel_rfl) (by kernel_rfl) (by kernel_rfl) ?_
  intro avs r h
  unfold s_z43 at h
  split at h
  · simp only [Prod.mk.injEq, true_and] at h
    subst h
    obtain ⟨n, hn⟩ := z43_math _ _
    exact ⟨n, _, (z43_ev n _ _ _ _).trans hn, .inl rfl⟩
  · cases h
noncomputable def E_z58 : EnvP := ⟨⟨tiOf tis, fnsOf [], cnsOf [], [], 17, (fun _ => none), (fun _ => none), some [2]⟩, fun _ => none, fun _ => none, fun _ => [], fun _ => none, fun _ => none, fun _ => none⟩
noncomputable def C_z58 : Code := Tryd.f58.body.getD .skip
noncomputable def R_z58 : Array ResultVar := Tryd.f58.results
theorem z58_ev (n : Nat) (n0 : Int) (o0 : Lab) : evFnP E_z58 n C_z58 R_z58 [.dat (.int .i64) n0 o0] = z58_sh n n0 := by
  kernel_rfl
theorem z58_sound : SoundG G Tryd.prog 58 s_z58 := by
  refine sound_of_evP' G_stays (E := E_z58) (fn := Tryd.f58) (c := C_z58) (tyOk_of_table rfl tis_ok) (fun w S hg => ⟨⟨fns_nil, fun f sp h => cns_nil f sp h w S⟩, gl_none w S hg, (fun _ _ h => by cases h), (fun f sp h => rns_nil f sp h), (fun f it h => its_nil f it h)⟩) follows Tryd.func58 (by kernel_rfl) (by kernel_rfl) (by kernel_rfl) ?_
  intro avs r h
  unfold s_z58 at h
  split at h
  · simp only [Prod.mk.injEq] at h
    obtain ⟨hp, rfl⟩ := h
    obtain ⟨n, hn⟩ := z58_math _ hp
    exact ⟨n, _, (z58_ev n _ _).trans hn, .inl rfl⟩
  · cases h
noncomputable def E_z44 : EnvP := ⟨⟨tiOf tis, fnsOf [(58, s_z58)], cnsOf [], [], 20, (fun _ => none), (fun _ => none), some [6]⟩, fun _ => none, fun _ => none, fun _ => [], fun _ => none, fun _ => none, fun _ => none⟩
noncomputable def C_z44 : Code := Tryd.f44.body.getD .skip
noncomputable def R_z44 : Array ResultVar := Tryd.f44.results
theorem z44_ev (n : Nat) (b0 : List UInt8) (o0 : Lab) (sign1 : UInt8) (o1 : Lab) (c2 : UInt8) (o2 : Lab) : evFnP E_z44 n C_z44 R_z44 [.dat (.sl .byte) b0 o0, .dat .byte sign1 o1, .dat .byte c2 o2] = z44_sh n b0 sign1 c2 := by
  kernel_rfl
theorem z44_sound : SoundG G Tryd.prog 44 s_z44 := by
  refine sound_of_evP' G_stays (E := E_z44) (fn := Tryd.f44) (c := C_z44) (tyOk_of_table rfl tis_ok) (fun w S hg => ⟨⟨(fns_cons (z58_sound w S hg) fns_nil), fun f sp h => cns_nil f sp h w S⟩, gl_none w S hg, (fun _ _ h => by cases h), (fun f sp h => rns_nil f sp h), (fun f it h => its_nil f it h)⟩) follows Tryd.func44 (by kernel_rfl) (by kernel_rfl) (by kernel_rfl) ?_
  intro avs r h
  unfold s_z44 at h
  split at h
  · simp only [Prod.mk.injEq] at h
    obtain ⟨hp, rfl⟩ := h
    obtain ⟨n, hn⟩ := z44_math _ _ _ hp
    exact ⟨n, _, (z44_ev n _ _ _ _ _ _).trans hn, .inl rfl⟩
  · cases h
noncomputable def E_z23 : EnvP := ⟨⟨tiOf tis, fnsOf [(43, s_z43), (44, s_z44)], cnsOf [], [], 23, (fun _ => none), (fun _ => none), some [4]⟩, fun _ => none, fun _ => none, fun _ => [], fun _ => none, fun _ => none, fun _ => none⟩
noncomputable def C_z23 : Code := Tryd.f23.body.getD .skip
noncomputable def R_z23 : Array ResultVar := Tryd.f23.results
theorem z23_ev (n : Nat) (c0 : UInt8) (o0 : Lab) (ends1 : Bool) (o1 : Lab) : evFnP E_z23 n C_z23 R_z23 [.dat .byte c0 o0, .dat .bool ends1 o1] = z23_sh n c0 ends1 := by
  kernel_rfl
theorem z23_sound : SoundG G Tryd.prog 23 s_z23 := by
  refine sound_of_evP' G_stays (E := E_z23) (fn := Tryd.f23) (c := C_z23) (tyOk_of_table rfl tis_ok) (fun w S hg => ⟨⟨(fns_cons (z43_sound w S hg) (fns_cons (z44_sound w S hg) fns_nil)), fun f sp h => cns_nil f sp h w S⟩, gl_none w S hg, (fun _ _ h => by cases h), (fun f sp h => rns_nil f sp h), (fun f it h => its_nil f it h)⟩) follows Tryd.func23 (by kernel_rfl) (by kernel_rfl) (by kernel_rfl) ?_
  intro avs r h
  unfold s_z23 at h
  split at h
  · simp only [Prod.mk.injEq, true_and] at h
    subst h
    obtain ⟨n, hn⟩ := z23_math _ _
    exact ⟨n, _, (z23_ev n _ _ _ _).trans hn, .inl rfl⟩
  · cases h
noncomputable def E_z19 : EnvP := ⟨⟨tiOf tis, fnsOf [(21, s_z21), (23, s_z23)], cnsOf [], [], 65, (fun x => if x = 5 then some [3, 4, 5, 6] else none), (fun x => if x = 0 then some [4, 5] else if x = 1 then some [3, 4, 5, 6] else none), some [2]⟩, fun _ => none, fun _ => none, fun _ => [], fun _ => none, fun _ => none, fun _ => none⟩
noncomputable def C_z19 : Code := Tryd.f19.body.getD .skip
noncomputable def R_z19 : Array ResultVar := Tryd.f19.results
theorem z19_l5_ok (K : Ex → Fr → Option AV) : ∀ (n : Nat) (b3 : List UInt8) (out4 : List UInt8) (long5 : Int) (i6 : Int), evLP E_z19 n (sub C_z19 [1, 1, 1, 1, 0, 1, 0, 0]) K (frOf [(3, (.dat (.sl .byte) b3 (some (3, 5)))), (4, (.dat (.sl .byte) out4 (some (4, 5)))), (5, (.dat (.int .i64) long5 none)), (6, (.dat (.int .i64) i6 none))]) = z19_l5 (fun out4 long5 => K (.exit 0) (frOf [(4, (.dat (.sl .byte) out4 (some (4, 5)))), (5, (.dat (.int .i64) long5 none))])) n b3 out4 long5 i6 := by
  intro n
  induction n with
  | zero => intros; rfl
  | succ n IH =>
  intro b3 out4 long5 i6
  have ih : (fun b3 out4 long5 i6 => evLP E_z19 n (sub C_z19 [1, 1, 1, 1, 0, 1, 0, 0]) K (frOf [(3, (.dat (.sl .byte) b3 (some (3, 5)))), (4, (.dat (.sl .byte) out4 (some (4, 5)))), (5, (.dat (.int .i64) long5 none)), (6, (.dat (.int .i64) i6 none))])) = z19_l5 (fun out4 long5 => K (.exit 0) (frOf [(4, (.dat (.sl .byte) out4 (some (4, 5)))), (5, (.dat (.int .i64) long5 none))])) n := by
    funext b3 out4 long5 i6
    exact IH b3 out4 long5 i6
  show _ = z19_l5_b (fun out4 long5 => K (.exit 0) (frOf [(4, (.dat (.sl .byte) out4 (some (4, 5)))), (5, (.dat (.int .i64) long5 none))])) (z19_l5 (fun out4 long5 => K (.exit 0) (frOf [(4, (.dat (.sl .byte) out4 (some (4, 5)))), (5, (.dat (.int .i64) long5 none))])) n) n b3 out4 long5 i6
  rw [← ih]
  kernel_rfl
theorem z19_k5_0_ok (n : Nat) (out4 : List UInt8) (long5 : Int) : (kBlockP 0 (E_z19.cutb 0) (kSeq (evCP E_z19 (evLP E_z19 n) (sub C_z19 [1, 1, 1, 1, 1])) (kFnP E_z19 R_z19))) (.exit 0) (frOf [(4, (.dat (.sl .byte) out4 (some (4, 5)))), (5, (.dat (.int .i64) long5 none))]) = z19_k5_0 n out4 long5 := by
  kernel_rfl
theorem z19_ev (n : Nat) (s0 : List UInt8) (o0 : Lab) : evFnP E_z19 n C_z19 R_z19 [.dat (.sl .byte) s0 o0] = z19_sh n s0 := by
  unfold z19_sh
  rw [show z19_l5 (z19_k5_0 n) n = (fun b3 out4 long5 i6 => evLP E_z19 n (sub C_z19 [1, 1, 1, 1, 0, 1, 0, 0]) (kBlockP 0 (E_z19.cutb 0) (kSeq (evCP E_z19 (evLP E_z19 n) (sub C_z19 [1, 1, 1, 1, 1])) (kFnP E_z19 R_z19))) (frOf [(3, (.dat (.sl .byte) b3 (some (3, 5)))), (4, (.dat (.sl .byte) out4 (some (4, 5)))), (5, (.dat (.int .i64) long5 none)), (6, (.dat (.int .i64) i6 none))])) from by
    funext b3 out4 long5 i6
    refine Eq.trans ?_ (z19_l5_ok (kBlockP 0 (E_z19.cutb 0) (kSeq (evCP E_z19 (evLP E_z19 n) (sub C_z19 [1, 1, 1, 1, 1])) (kFnP E_z19 R_z19))) n b3 out4 long5 i6).symm
    rw [show (fun out4 long5 => (kBlockP 0 (E_z19.cutb 0) (kSeq (evCP E_z19 (evLP E_z19 n) (sub C_z19 [1, 1, 1, 1, 1])) (kFnP E_z19 R_z19))) (.exit 0) (frOf [(4, (.dat (.sl .byte) out4 (some (4, 5)))), (5, (.dat (.int .i64) long5 none))])) = (z19_k5_0 n) from by
      funext out4 long5
      exact z19_k5_0_ok n out4 long5]
    all_goals kernel_rfl]
  kernel_rfl
theorem z19_sound : SoundG G Tryd.prog 19 s_z19 := by
  refine sound_of_evP' G_stays (E := E_z19) (fn := Tryd.f19) (c := C_z19) (tyOk_of_table rfl tis_ok) (fun w S hg => ⟨⟨(fns_cons (z21_sound w S hg) (fns_cons (z23_sound w S hg) fns_nil)), fun f sp h => cns_nil f sp h w S⟩, gl_none w S hg, (fun _ _ h => by cases h), (fun f sp h => rns_nil f sp h), (fun f it h => its_nil f it h)⟩) follows Tryd.func19 (by kernel_rfl) (by kernel_rfl) (by kernel_rfl) ?_
  intro avs r h
  unfold s_z19 at h
  split at h
  · simp only [Prod.mk.injEq] at h
    obtain ⟨hp, rfl⟩ := h
    obtain ⟨n, hn⟩ := z19_math _ hp
    exact ⟨n, _, (z19_ev n _ _).trans hn, .inl rfl⟩
  · cases h
noncomputable def E_z77 : EnvP := ⟨⟨tiOf tis, fnsOf [], cnsOf [], [], 24, (fun x => if x = 1 then some [0, 1] else none), (fun x => if x = 0 then some [0] else if x = 1 then some [0, 1] else none), some [4]⟩, fun _ => none, fun _ => none, fun _ => [], fun _ => none, fun _ => none, fun _ => none⟩
noncomputable def C_z77 : Code := Tryd.f77.body.getD .skip
noncomputable def R_z77 : Array ResultVar := Tryd.f77.results
theorem z77_l1_ok (K : Ex → Fr → Option AV) : ∀ (n : Nat) (s0 : List UInt8) (c1 : UInt8), evLP E_z77 n (sub C_z77 [1, 0, 0, 0]) K (frOf [(0, (.dat (.sl .byte) s0 none)), (1, (.dat .byte c1 none))]) = z77_l1 (fun s0 => K (.exit 0) (frOf [(0, (.dat (.sl .byte) s0 none))])) n s0 c1 := by
  intro n
  induction n with
  | zero => intros; rfl
  | succ n IH =>
  intro s0 c1
  have ih : (fun s0 c1 => evLP E_z77 n (sub C_z77 [1, 0, 0, 0]) K (frOf [(0, (.dat (.sl .byte) s0 none)), (1, (.dat .byte c1 none))])) = z77_l1 (fun s0 => K (.exit 0) (frOf [(0, (.dat (.sl .byte) s0 none))])) n := by
    funext s0 c1
    exact IH s0 c1
  show _ = z77_l1_b (fun s0 => K (.exit 0) (frOf [(0, (.dat (.sl .byte) s0 none))])) (z77_l1 (fun s0 => K (.exit 0) (frOf [(0, (.dat (.sl .byte) s0 none))])) n) n s0 c1
  rw [← ih]
  kernel_rfl
theorem z77_k1_0_ok (n : Nat) (s0 : List UInt8) : (kBlockP 0 (E_z77.cutb 0) (kSeq (evCP E_z77 (evLP E_z77 n) (sub C_z77 [1, 1])) (kFnP E_z77 R_z77))) (.exit 0) (frOf [(0, (.dat (.sl .byte) s0 none))]) = z77_k1_0 n s0 := by
  kernel_rfl
theorem z77_ev (n : Nat) (s0 : List UInt8) (o0 : Lab) (c1 : UInt8) (o1 : Lab) : evFnP E_z77 n C_z77 R_z77 [.dat (.sl .byte) s0 o0, .dat .byte c1 o1] = z77_sh n s0 c1 := by
  unfold z77_sh
  rw [show z77_l1 (z77_k1_0 n) n = (fun s0 c1 => evLP E_z77 n (sub C_z77 [1, 0, 0, 0]) (kBlockP 0 (E_z77.cutb 0) (kSeq (evCP E_z77 (evLP E_z77 n) (sub C_z77 [1, 1])) (kFnP E_z77 R_z77))) (frOf [(0, (.dat (.sl .byte) s0 none)), (1, (.dat .byte c1 none))])) from by
    funext s0 c1
    refine Eq.trans ?_ (z77_l1_ok (kBlockP 0 (E_z77.cutb 0) (kSeq (evCP E_z77 (evLP E_z77 n) (sub C_z77 [1, 1])) (kFnP E_z77 R_z77))) n s0 c1).symm
    rw [show (fun s0 => (kBlockP 0 (E_z77.cutb 0) (kSeq (evCP E_z77 (evLP E_z77 n) (sub C_z77 [1, 1])) (kFnP E_z77 R_z77))) (.exit 0) (frOf [(0, (.dat (.sl .byte) s0 none))])) = (z77_k1_0 n) from by
      funext s0
      exact z77_k1_0_ok n s0]
    all_goals kernel_rfl]
  kernel_rfl
theorem z77_sound : SoundG G Tryd.prog 77 s_z77 := by
  refine sound_of_evP' G_stays (E := E_z77) (fn := Tryd.f77) (c := C_z77) (tyOk_of_table rfl tis_ok) (fun w S hg => ⟨⟨fns_nil, fun f sp h => cns_nil f sp h w S⟩, gl_none w S hg, (fun _ _ h => by cases h), (fun f sp h => rns_nil f sp h), (fun f it h => its_nil f it h)⟩) follows Tryd.func77 (by kernel_rfl) (by kernel_rfl) (by kernel_rfl) ?_
  intro avs r h
  unfold s_z77 at h
  split at h
  · simp only [Prod.mk.injEq] at h
    obtain ⟨hp, rfl⟩ := h
    obtain ⟨n, hn⟩ := z77_math _ _ hp
    exact ⟨n, _, (z77_ev n _ _ _ _).trans hn, .inl rfl⟩
  · cases h
noncomputable def E_z78 : EnvP := ⟨⟨tiOf tis, fnsOf [], cnsOf [], [], 21, (fun x => if x = 2 then some [0, 2, 4] else none), (fun x => if x = 0 then some [2] else if x = 1 then some [0, 2, 4] else none), some [2, 3]⟩, fun _ => none, fun _ => none, fun _ => [], fun _ => none, fun _ => none, fun _ => none⟩
noncomputable def C_z78 : Code := Tryd.f78.body.getD .skip
noncomputable def R_z78 : Array ResultVar := Tryd.f78.results
theorem z78_l2_ok (K : Ex → Fr → Option AV) : ∀ (n : Nat) (chars0 : List UInt8) (as2 : List Bool) (i4 : Int), evLP E_z78 n (sub C_z78 [1, 0, 1, 0, 0]) K (frOf [(0, (.dat .str chars0 none)), (2, (.box (.arr 256 .bool) as2)), (4, (.dat (.int .i64) i4 none))]) = z78_l2 (fun as2 ok3 => K .ret (frOf [(2, (.box (.arr 256 .bool) as2)), (3, (.dat .bool ok3 none))])) (fun as2 => K (.exit 0) (frOf [(2, (.box (.arr 256 .bool) as2))])) n chars0 as2 i4 := by
  intro n
  induction n with
  | zero => intros; rfl
  | succ n IH =>
  intro chars0 as2 i4
  have ih : (fun chars0 as2 i4 => evLP E_z78 n (sub C_z78 [1, 0, 1, 0, 0]) K (frOf [(0, (.dat .str chars0 none)), (2, (.box (.arr 256 .bool) as2)), (4, (.dat (.int .i64) i4 none))])) = z78_l2 (fun as2 ok3 => K .ret (frOf [(2, (.box (.arr 256 .bool) as2)), (3, (.dat .bool ok3 none))])) (fun as2 => K (.exit 0) (frOf [(2, (.box (.arr 256 .bool) as2))])) n := by
    funext chars0 as2 i4
    exact IH chars0 as2 i4
  show _ = z78_l2_b (fun as2 ok3 => K .ret (frOf [(2, (.box (.arr 256 .bool) as2)), (3, (.dat .bool ok3 none))])) (fun as2 => K (.exit 0) (frOf [(2, (.box (.arr 256 .bool) as2))])) (z78_l2 (fun as2 ok3 => K .ret (frOf [(2, (.box (.arr 256 .bool) as2)), (3, (.dat .bool ok3 none))])) (fun as2 => K (.exit 0) (frOf [(2, (.box (.arr 256 .bool) as2))])) n) n chars0 as2 i4
  rw [← ih]
  kernel_rfl
theorem z78_k2_0_ok (n : Nat) (as2 : List Bool) : (kBlockP 0 (E_z78.cutb 0) (kSeq (evCP E_z78 (evLP E_z78 n) (sub C_z78 [1, 1])) (kFnP E_z78 R_z78))) (.exit 0) (frOf [(2, (.box (.arr 256 .bool) as2))]) = z78_k2_0 n as2 := by
  kernel_rfl
theorem z78_ev (n : Nat) (chars0 : List UInt8) (o0 : Lab) : evFnP E_z78 n C_z78 R_z78 [.dat .str chars0 o0] = z78_sh n chars0 := by
  unfold z78_sh
  rw [show z78_l2 z78_ret (z78_k2_0 n) n = (fun chars0 as2 i4 => evLP E_z78 n (sub C_z78 [1, 0, 1, 0, 0]) (kBlockP 0 (E_z78.cutb 0) (kSeq (evCP E_z78 (evLP E_z78 n) (sub C_z78 [1, 1])) (kFnP E_z78 R_z78))) (frOf [(0, (.dat .str chars0 none)), (2, (.box (.arr 256 .bool) as2)), (4, (.dat (.int .i64) i4 none))])) from by
    funext chars0 as2 i4
    refine Eq.trans ?_ (z78_l2_ok (kBlockP 0 (E_z78.cutb 0) (kSeq (evCP E_z78 (evLP E_z78 n) (sub C_z78 [1, 1])) (kFnP E_z78 R_z78))) n chars0 as2 i4).symm
    rw [show (fun as2 => (kBlockP 0 (E_z78.cutb 0) (kSeq (evCP E_z78 (evLP E_z78 n) (sub C_z78 [1, 1])) (kFnP E_z78 R_z78))) (.exit 0) (frOf [(2, (.box (.arr 256 .bool) as2))])) = (z78_k2_0 n) from by
      funext as2
      exact z78_k2_0_ok n as2]
    all_goals kernel_rfl]
  kernel_rfl
theorem z78_sound : SoundG G Tryd.prog 78 s_z78 := by
  refine sound_of_evP' G_stays (E := E_z78) (fn := Tryd.f78) (c := C_z78) (tyOk_of_table rfl tis_ok) (fun w S hg => ⟨⟨fns_nil, fun f sp h => cns_nil f sp h w S⟩, gl_none w S hg, (fun _ _ h => by cases h), (fun f sp h => rns_nil f sp h), (fun f it h => its_nil f it h)⟩) follows Tryd.func78 (by kernel_rfl) (by kernel_rfl) (by kernel_rfl) ?_
  intro avs r h
  unfold s_z78 at h
  split at h
  · simp only [Prod.mk.injEq] at h
    obtain ⟨hp, rfl⟩ := h
    obtain ⟨n, hn⟩ := z78_math _ hp
    exact ⟨n, _, (z78_ev n _ _).trans hn, .inl rfl⟩
  · cases h
end Go.Av
