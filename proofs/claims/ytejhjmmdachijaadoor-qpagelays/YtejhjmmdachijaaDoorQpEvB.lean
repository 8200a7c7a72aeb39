import Derived.Test.YtejhjmmdachijaaDoorQpEvA
import Derived.Test.YtejhjmmdachijaaDoorQpN
import Derived.Test.YtejhjmmdachijaaDoorProg
import Derived.KernelRfl
namespace Go.Av
open Go.Proofs
set_option maxRecDepth 100000
set_option linter.unusedVariables false
/-! sheave/octet.Kinds -/

noncomputable def E_octet_Kinds : EnvP := ⟨⟨tiOf tis, fnsOf [(73, s_octet_plain), (74, s_octet_in)], cnsOf [], [], 35, (fun _ => none), (fun _ => none), some [2]⟩, fun _ => none, fun _ => none, fun _ => [], fun _ => none⟩
noncomputable def C_octet_Kinds : Code := Tryd.f54.body.getD .skip
noncomputable def R_octet_Kinds : Array ResultVar := Tryd.f54.results
theorem octet_Kinds_ev (n : Nat) (c0 : UInt8) (o0 : Lab) : evFnP E_octet_Kinds n C_octet_Kinds R_octet_Kinds [.dat .byte c0 o0] = octet_Kinds_sh n c0 := by
  kernel_rfl
theorem octet_Kinds_sound : SoundG G Tryd.prog 54 s_octet_Kinds := by
  refine sound_of_evP' G_stays (E := E_octet_Kinds) (fn := Tryd.f54) (c := C_octet_Kinds) (tyOk_of_table rfl tis_ok) (fun w S hg => ⟨⟨(fns_cons (octet_plain_sound w S hg) (fns_cons (octet_in_sound w S hg) fns_nil)), fun f sp h => cns_nil f sp h w S⟩, gl_none w S hg, fun _ _ h => by cases h⟩) follows Tryd.func54 (by kernel_rfl) (by kernel_rfl) (by kernel_rfl) ?_
  intro avs r h
  unfold s_octet_Kinds at h
  split at h
  · simp only [Prod.mk.injEq, true_and] at h
    subst h
    obtain ⟨n, hn⟩ := octet_Kinds_math _
    exact ⟨n, _, (octet_Kinds_ev n _ _).trans hn, .inl rfl⟩
  · cases h

/-! sheave/octet.Is -/

noncomputable def E_octet_Is : EnvP := ⟨⟨tiOf tis, fnsOf [(54, s_octet_Kinds)], cnsOf [], [], 10, (fun _ => none), (fun _ => none), some [4]⟩, fun _ => none, fun _ => none, fun _ => [], fun _ => none⟩
noncomputable def C_octet_Is : Code := Tryd.f41.body.getD .skip
noncomputable def R_octet_Is : Array ResultVar := Tryd.f41.results
theorem octet_Is_ev (n : Nat) (c0 : UInt8) (o0 : Lab) (kinds1 : Int) (o1 : Lab) : evFnP E_octet_Is n C_octet_Is R_octet_Is [.dat .byte c0 o0, .dat (.int .i64) kinds1 o1] = octet_Is_sh n c0 kinds1 := by
  kernel_rfl
theorem octet_Is_sound : SoundG G Tryd.prog 41 s_octet_Is := by
  refine sound_of_evP' G_stays (E := E_octet_Is) (fn := Tryd.f41) (c := C_octet_Is) (tyOk_of_table rfl tis_ok) (fun w S hg => ⟨⟨(fns_cons (octet_Kinds_sound w S hg) fns_nil), fun f sp h => cns_nil f sp h w S⟩, gl_none w S hg, fun _ _ h => by cases h⟩) follows Tryd.func41 (by kernel_rfl) (by kernel_rfl) (by kernel_rfl) ?_
  intro avs r h
  unfold s_octet_Is at h
  split at h
  · simp only [Prod.mk.injEq, true_and] at h
    subst h
    obtain ⟨n, hn⟩ := octet_Is_math _ _
    exact ⟨n, _, (octet_Is_ev n _ _ _ _).trans hn, .inl rfl⟩
  · cases h

/-! sheave/octet.Lower -/

noncomputable def E_octet_Lower : EnvP := ⟨⟨tiOf tis, fnsOf [], cnsOf [], [], 12, (fun _ => none), (fun _ => none), some [2]⟩, fun _ => none, fun _ => none, fun _ => [], fun _ => none⟩
noncomputable def C_octet_Lower : Code := Tryd.f98.body.getD .skip
noncomputable def R_octet_Lower : Array ResultVar := Tryd.f98.results
theorem octet_Lower_ev (n : Nat) (c0 : UInt8) (o0 : Lab) : evFnP E_octet_Lower n C_octet_Lower R_octet_Lower [.dat .byte c0 o0] = octet_Lower_sh n c0 := by
  kernel_rfl
theorem octet_Lower_sound : SoundG G Tryd.prog 98 s_octet_Lower := by
  refine sound_of_evP' G_stays (E := E_octet_Lower) (fn := Tryd.f98) (c := C_octet_Lower) (tyOk_of_table rfl tis_ok) (fun w S hg => ⟨⟨fns_nil, fun f sp h => cns_nil f sp h w S⟩, gl_none w S hg, fun _ _ h => by cases h⟩) follows Tryd.func98 (by kernel_rfl) (by kernel_rfl) (by kernel_rfl) ?_
  intro avs r h
  unfold s_octet_Lower at h
  split at h
  · simp only [Prod.mk.injEq, true_and] at h
    subst h
    obtain ⟨n, hn⟩ := octet_Lower_math _
    exact ⟨n, _, (octet_Lower_ev n _ _).trans hn, .inl rfl⟩
  · cases h

/-! sheave/hexa.Value -/

noncomputable def E_hexa_Value : EnvP := ⟨⟨tiOf tis, fnsOf [(41, s_octet_Is), (98, s_octet_Lower)], cnsOf [], [], 23, (fun _ => none), (fun x => if x = 0 then some [] else none), some [2, 3]⟩, fun _ => none, fun _ => none, fun _ => [], fun _ => none⟩
noncomputable def C_hexa_Value : Code := Tryd.f91.body.getD .skip
noncomputable def R_hexa_Value : Array ResultVar := Tryd.f91.results
theorem hexa_Value_ev (n : Nat) (c0 : UInt8) (o0 : Lab) : evFnP E_hexa_Value n C_hexa_Value R_hexa_Value [.dat .byte c0 o0] = hexa_Value_sh n c0 := by
  kernel_rfl
theorem hexa_Value_sound : SoundG G Tryd.prog 91 s_hexa_Value := by
  refine sound_of_evP' G_stays (E := E_hexa_Value) (fn := Tryd.f91) (c := C_hexa_Value) (tyOk_of_table rfl tis_ok) (fun w S hg => ⟨⟨(fns_cons (octet_Is_sound w S hg) (fns_cons (octet_Lower_sound w S hg) fns_nil)), fun f sp h => cns_nil f sp h w S⟩, gl_none w S hg, fun _ _ h => by cases h⟩) follows Tryd.func91 (by kernel_rfl) (by kernel_rfl) (by kernel_rfl) ?_
  intro avs r h
  unfold s_hexa_Value at h
  split at h
  · simp only [Prod.mk.injEq, true_and] at h
    subst h
    obtain ⟨n, hn⟩ := hexa_Value_math _
    exact ⟨n, _, (hexa_Value_ev n _ _).trans hn, .inl rfl⟩
  · cases h

/-! sheave/hexa.pair -/

noncomputable def E_hexa_pair : EnvP := ⟨⟨tiOf tis, fnsOf [(91, s_hexa_Value)], cnsOf [], [], 31, (fun _ => none), (fun _ => none), some [4, 5]⟩, fun _ => none, fun _ => none, fun _ => [], fun _ => none⟩
noncomputable def C_hexa_pair : Code := Tryd.f70.body.getD .skip
noncomputable def R_hexa_pair : Array ResultVar := Tryd.f70.results
theorem hexa_pair_ev (n : Nat) (a0 : UInt8) (o0 : Lab) (b1 : UInt8) (o1 : Lab) : evFnP E_hexa_pair n C_hexa_pair R_hexa_pair [.dat .byte a0 o0, .dat .byte b1 o1] = hexa_pair_sh n a0 b1 := by
  kernel_rfl
theorem hexa_pair_sound : SoundG G Tryd.prog 70 s_hexa_pair := by
  refine sound_of_evP' G_stays (E := E_hexa_pair) (fn := Tryd.f70) (c := C_hexa_pair) (tyOk_of_table rfl tis_ok) (fun w S hg => ⟨⟨(fns_cons (hexa_Value_sound w S hg) fns_nil), fun f sp h => cns_nil f sp h w S⟩, gl_none w S hg, fun _ _ h => by cases h⟩) follows Tryd.func70 (by kernel_rfl) (by kernel_rfl) (by kernel_rfl) ?_
  intro avs r h
  unfold s_hexa_pair at h
  split at h
  · simp only [Prod.mk.injEq, true_and] at h
    subst h
    obtain ⟨n, hn⟩ := hexa_pair_math _ _
    exact ⟨n, _, (hexa_pair_ev n _ _ _ _).trans hn, .inl rfl⟩
  · cases h

/-! sheave/hexa.Take -/

noncomputable def E_hexa_Take : EnvP := ⟨⟨tiOf tis, fnsOf [(70, s_hexa_pair)], cnsOf [], [], 38, (fun _ => none), (fun _ => none), some [6, 7]⟩, fun _ => none, fun _ => none, fun _ => [], fun _ => none⟩
noncomputable def C_hexa_Take : Code := Tryd.f50.body.getD .skip
noncomputable def R_hexa_Take : Array ResultVar := Tryd.f50.results
theorem hexa_Take_ev (n : Nat) (s0 : List UInt8) (o0 : Lab) (at1 : Int) (o1 : Lab) (sign2 : UInt8) (o2 : Lab) : evFnP E_hexa_Take n C_hexa_Take R_hexa_Take [.dat (.sl .byte) s0 o0, .dat (.int .i64) at1 o1, .dat .byte sign2 o2] = hexa_Take_sh n s0 at1 sign2 := by
  kernel_rfl
theorem hexa_Take_sound : SoundG G Tryd.prog 50 s_hexa_Take := by
  refine sound_of_evP' G_stays (E := E_hexa_Take) (fn := Tryd.f50) (c := C_hexa_Take) (tyOk_of_table rfl tis_ok) (fun w S hg => ⟨⟨(fns_cons (hexa_pair_sound w S hg) fns_nil), fun f sp h => cns_nil f sp h w S⟩, gl_none w S hg, fun _ _ h => by cases h⟩) follows Tryd.func50 (by kernel_rfl) (by kernel_rfl) (by kernel_rfl) ?_
  intro avs r h
  unfold s_hexa_Take at h
  split at h
  · simp only [Prod.mk.injEq] at h
    obtain ⟨hp, rfl⟩ := h
    obtain ⟨n, hn⟩ := hexa_Take_math _ _ _ hp
    exact ⟨n, _, (hexa_Take_ev n _ _ _ _ _ _).trans hn, .inl rfl⟩
  · cases h

/-! bytes.makeASCIISet -/

noncomputable def E_bytes_makeASCIISet : EnvP := ⟨⟨tiOf tis, fnsOf [], cnsOf [], [], 21, (fun x => if x = 2 then some [0, 2, 4] else none), (fun x => if x = 0 then some [2] else if x = 1 then some [0, 2, 4] else none), some [2, 3]⟩, fun _ => none, fun _ => none, fun _ => [], fun _ => none⟩
noncomputable def C_bytes_makeASCIISet : Code := Tryd.f78.body.getD .skip
noncomputable def R_bytes_makeASCIISet : Array ResultVar := Tryd.f78.results
theorem bytes_makeASCIISet_l2_ok (K : Ex → Fr → Option AV) : ∀ (n : Nat) (chars0 : List UInt8) (as2 : List Bool) (i4 : Int), evLP E_bytes_makeASCIISet n (sub C_bytes_makeASCIISet [1, 0, 1, 0, 0]) K (frOf [(0, (.dat .str chars0 none)), (2, (.box (.arr 256 .bool) as2)), (4, (.dat (.int .i64) i4 none))]) = bytes_makeASCIISet_l2 (fun as2 ok3 => K .ret (frOf [(2, (.box (.arr 256 .bool) as2)), (3, (.dat .bool ok3 none))])) (fun as2 => K (.exit 0) (frOf [(2, (.box (.arr 256 .bool) as2))])) n chars0 as2 i4 := by
  intro n
  induction n with
  | zero => intros; rfl
  | succ n IH =>
  intro chars0 as2 i4
  have ih : (fun chars0 as2 i4 => evLP E_bytes_makeASCIISet n (sub C_bytes_makeASCIISet [1, 0, 1, 0, 0]) K (frOf [(0, (.dat .str chars0 none)), (2, (.box (.arr 256 .bool) as2)), (4, (.dat (.int .i64) i4 none))])) = bytes_makeASCIISet_l2 (fun as2 ok3 => K .ret (frOf [(2, (.box (.arr 256 .bool) as2)), (3, (.dat .bool ok3 none))])) (fun as2 => K (.exit 0) (frOf [(2, (.box (.arr 256 .bool) as2))])) n := by
    funext chars0 as2 i4
    exact IH chars0 as2 i4
  show _ = bytes_makeASCIISet_l2_b (fun as2 ok3 => K .ret (frOf [(2, (.box (.arr 256 .bool) as2)), (3, (.dat .bool ok3 none))])) (fun as2 => K (.exit 0) (frOf [(2, (.box (.arr 256 .bool) as2))])) (bytes_makeASCIISet_l2 (fun as2 ok3 => K .ret (frOf [(2, (.box (.arr 256 .bool) as2)), (3, (.dat .bool ok3 none))])) (fun as2 => K (.exit 0) (frOf [(2, (.box (.arr 256 .bool) as2))])) n) n chars0 as2 i4
  rw [← ih]
  kernel_rfl
theorem bytes_makeASCIISet_k2_0_ok (n : Nat) (as2 : List Bool) : (kBlockP 0 (E_bytes_makeASCIISet.cutb 0) (kSeq (evCP E_bytes_makeASCIISet (evLP E_bytes_makeASCIISet n) (sub C_bytes_makeASCIISet [1, 1])) (kFnP E_bytes_makeASCIISet R_bytes_makeASCIISet))) (.exit 0) (frOf [(2, (.box (.arr 256 .bool) as2))]) = bytes_makeASCIISet_k2_0 n as2 := by
  kernel_rfl
theorem bytes_makeASCIISet_ev (n : Nat) (chars0 : List UInt8) (o0 : Lab) : evFnP E_bytes_makeASCIISet n C_bytes_makeASCIISet R_bytes_makeASCIISet [.dat .str chars0 o0] = bytes_makeASCIISet_sh n chars0 := by
  unfold bytes_makeASCIISet_sh
  rw [show bytes_makeASCIISet_l2 bytes_makeASCIISet_ret (bytes_makeASCIISet_k2_0 n) n = (fun chars0 as2 i4 => evLP E_bytes_makeASCIISet n (sub C_bytes_makeASCIISet [1, 0, 1, 0, 0]) (kBlockP 0 (E_bytes_makeASCIISet.cutb 0) (kSeq (evCP E_bytes_makeASCIISet (evLP E_bytes_makeASCIISet n) (sub C_bytes_makeASCIISet [1, 1])) (kFnP E_bytes_makeASCIISet R_bytes_makeASCIISet))) (frOf [(0, (.dat .str chars0 none)), (2, (.box (.arr 256 .bool) as2)), (4, (.dat (.int .i64) i4 none))])) from by
    funext chars0 as2 i4
    refine Eq.trans ?_ (bytes_makeASCIISet_l2_ok (kBlockP 0 (E_bytes_makeASCIISet.cutb 0) (kSeq (evCP E_bytes_makeASCIISet (evLP E_bytes_makeASCIISet n) (sub C_bytes_makeASCIISet [1, 1])) (kFnP E_bytes_makeASCIISet R_bytes_makeASCIISet))) n chars0 as2 i4).symm
    rw [show (fun as2 => (kBlockP 0 (E_bytes_makeASCIISet.cutb 0) (kSeq (evCP E_bytes_makeASCIISet (evLP E_bytes_makeASCIISet n) (sub C_bytes_makeASCIISet [1, 1])) (kFnP E_bytes_makeASCIISet R_bytes_makeASCIISet))) (.exit 0) (frOf [(2, (.box (.arr 256 .bool) as2))])) = (bytes_makeASCIISet_k2_0 n) from by
      funext as2
      exact bytes_makeASCIISet_k2_0_ok n as2]
    all_goals kernel_rfl]
  kernel_rfl
theorem bytes_makeASCIISet_sound : SoundG G Tryd.prog 78 s_bytes_makeASCIISet := by
  refine sound_of_evP' G_stays (E := E_bytes_makeASCIISet) (fn := Tryd.f78) (c := C_bytes_makeASCIISet) (tyOk_of_table rfl tis_ok) (fun w S hg => ⟨⟨fns_nil, fun f sp h => cns_nil f sp h w S⟩, gl_none w S hg, fun _ _ h => by cases h⟩) follows Tryd.func78 (by kernel_rfl) (by kernel_rfl) (by kernel_rfl) ?_
  intro avs r h
  unfold s_bytes_makeASCIISet at h
  split at h
  · simp only [Prod.mk.injEq] at h
    obtain ⟨hp, rfl⟩ := h
    obtain ⟨n, hn⟩ := bytes_makeASCIISet_math _ hp
    exact ⟨n, _, (bytes_makeASCIISet_ev n _ _).trans hn, .inl rfl⟩
  · cases h

/-! bytes.shouldUseASCIISet -/

noncomputable def E_bytes_shouldUseASCIISet : EnvP := ⟨⟨tiOf tis, fnsOf [], cnsOf [], [], 5, (fun _ => none), (fun _ => none), some [2]⟩, fun _ => none, fun _ => none, fun _ => [], fun _ => none⟩
noncomputable def C_bytes_shouldUseASCIISet : Code := Tryd.f84.body.getD .skip
noncomputable def R_bytes_shouldUseASCIISet : Array ResultVar := Tryd.f84.results
theorem bytes_shouldUseASCIISet_ev (n : Nat) (bufLen0 : Int) (o0 : Lab) : evFnP E_bytes_shouldUseASCIISet n C_bytes_shouldUseASCIISet R_bytes_shouldUseASCIISet [.dat (.int .i64) bufLen0 o0] = bytes_shouldUseASCIISet_sh n bufLen0 := by
  kernel_rfl
theorem bytes_shouldUseASCIISet_sound : SoundG G Tryd.prog 84 s_bytes_shouldUseASCIISet := by
  refine sound_of_evP' G_stays (E := E_bytes_shouldUseASCIISet) (fn := Tryd.f84) (c := C_bytes_shouldUseASCIISet) (tyOk_of_table rfl tis_ok) (fun w S hg => ⟨⟨fns_nil, fun f sp h => cns_nil f sp h w S⟩, gl_none w S hg, fun _ _ h => by cases h⟩) follows Tryd.func84 (by kernel_rfl) (by kernel_rfl) (by kernel_rfl) ?_
  intro avs r h
  unfold s_bytes_shouldUseASCIISet at h
  split at h
  · simp only [Prod.mk.injEq, true_and] at h
    subst h
    obtain ⟨n, hn⟩ := bytes_shouldUseASCIISet_math _
    exact ⟨n, _, (bytes_shouldUseASCIISet_ev n _ _).trans hn, .inl rfl⟩
  · cases h

end Go.Av
