import Derived.Test.YtcfhfjjohmdaoaaDoorFiEvB
import Derived.Test.YtcfhfjjohmdaoaaDoorFiN
import Derived.Test.YtcfhfjjohmdaoaaDoorProg
import Derived.KernelRfl
namespace Go.Av
open Go.Proofs
set_option maxRecDepth 100000
/-! bytes.Equal -/

noncomputable def E_bytes_Equal : EnvP := ⟨⟨tiOf tis, fnsOf [], cnsOf [], [], 10, (fun _ => none), (fun _ => none), some [4]⟩, fun _ => none, fun _ => none, fun _ => []⟩
noncomputable def C_bytes_Equal : Code := Tryd.f96.body.getD .skip
noncomputable def R_bytes_Equal : Array ResultVar := Tryd.f96.results
theorem bytes_Equal_ev (n : Nat) (a0 : List UInt8) (o0 : Lab) (b1 : List UInt8) (o1 : Lab) : evFnP E_bytes_Equal n C_bytes_Equal R_bytes_Equal [.dat (.sl .byte) a0 o0, .dat (.sl .byte) b1 o1] = bytes_Equal_sh n a0 b1 := by
  kernel_rfl
theorem bytes_Equal_sound : SoundG G Tryd.prog 96 s_bytes_Equal := by
  refine sound_of_evP' G_stays (E := E_bytes_Equal) (fn := Tryd.f96) (c := C_bytes_Equal) (tyOk_of_table rfl tis_ok) (fun w S hg => ⟨⟨fns_nil, fun f sp h => cns_nil f sp h w S⟩, gl_none w S hg⟩) follows Tryd.func96 (by kernel_rfl) (by kernel_rfl) (by kernel_rfl) ?_
  intro avs r h
  unfold s_bytes_Equal at h
  split at h
  · simp only [Prod.mk.injEq, true_and] at h
    subst h
    obtain ⟨n, hn⟩ := bytes_Equal_math _ _
    exact ⟨n, _, (bytes_Equal_ev n _ _ _ _).trans hn, .inl rfl⟩
  · cases h

/-! bytes.Contains -/

noncomputable def E_bytes_Contains : EnvP := ⟨⟨tiOf tis, fnsOf [(81, s_bytes_Index)], cnsOf [], [], 9, (fun _ => none), (fun _ => none), some [4]⟩, fun _ => none, fun _ => none, fun _ => []⟩
noncomputable def C_bytes_Contains : Code := Tryd.f88.body.getD .skip
noncomputable def R_bytes_Contains : Array ResultVar := Tryd.f88.results
theorem bytes_Contains_ev (n : Nat) (b0 : List UInt8) (o0 : Lab) (subslice1 : List UInt8) (o1 : Lab) : evFnP E_bytes_Contains n C_bytes_Contains R_bytes_Contains [.dat (.sl .byte) b0 o0, .dat (.sl .byte) subslice1 o1] = bytes_Contains_sh n b0 subslice1 := by
  kernel_rfl
theorem bytes_Contains_sound : SoundG G Tryd.prog 88 s_bytes_Contains := by
  refine sound_of_evP' G_stays (E := E_bytes_Contains) (fn := Tryd.f88) (c := C_bytes_Contains) (tyOk_of_table rfl tis_ok) (fun w S hg => ⟨⟨(fns_cons (bytes_Index_sound w S hg) fns_nil), fun f sp h => cns_nil f sp h w S⟩, gl_none w S hg⟩) follows Tryd.func88 (by kernel_rfl) (by kernel_rfl) (by kernel_rfl) ?_
  intro avs r h
  unfold s_bytes_Contains at h
  split at h
  · simp only [Prod.mk.injEq] at h
    obtain ⟨hp, rfl⟩ := h
    obtain ⟨n, hn⟩ := bytes_Contains_math _ _ hp
    exact ⟨n, _, (bytes_Contains_ev n _ _ _ _).trans hn, .inl rfl⟩
  · cases h

/-! bytes.trimLeftByte -/

noncomputable def E_bytes_trimLeftByte : EnvP := ⟨⟨tiOf tis, fnsOf [], cnsOf [], [], 21, (fun x => if x = 1 then some [0, 1] else none), (fun x => if x = 0 then some [0] else if x = 1 then some [0, 1] else none), some [1000004]⟩, fun _ => none, fun _ => none, fun _ => []⟩
noncomputable def C_bytes_trimLeftByte : Code := Tryd.f91.body.getD .skip
noncomputable def R_bytes_trimLeftByte : Array ResultVar := Tryd.f91.results
theorem bytes_trimLeftByte_l1_ok (K : Ex → Fr → Option AV) : ∀ (n : Nat) (s0 : List UInt8) (c1 : UInt8), evLP E_bytes_trimLeftByte n (sub C_bytes_trimLeftByte [1, 0, 0, 0]) K (frOf [(0, (.dat (.sl .byte) s0 none)), (1, (.dat .byte c1 none))]) = bytes_trimLeftByte_l1 (fun s0 => K (.exit 0) (frOf [(0, (.dat (.sl .byte) s0 none))])) n s0 c1 := by
  intro n
  induction n with
  | zero => intros; rfl
  | succ n IH =>
  intro s0 c1
  have ih : (fun s0 c1 => evLP E_bytes_trimLeftByte n (sub C_bytes_trimLeftByte [1, 0, 0, 0]) K (frOf [(0, (.dat (.sl .byte) s0 none)), (1, (.dat .byte c1 none))])) = bytes_trimLeftByte_l1 (fun s0 => K (.exit 0) (frOf [(0, (.dat (.sl .byte) s0 none))])) n := by
    funext s0 c1
    exact IH s0 c1
  show _ = bytes_trimLeftByte_l1_b (fun s0 => K (.exit 0) (frOf [(0, (.dat (.sl .byte) s0 none))])) (bytes_trimLeftByte_l1 (fun s0 => K (.exit 0) (frOf [(0, (.dat (.sl .byte) s0 none))])) n) n s0 c1
  rw [← ih]
  kernel_rfl
theorem bytes_trimLeftByte_k1_0_ok (n : Nat) (s0 : List UInt8) : (kBlockP 0 (E_bytes_trimLeftByte.cutb 0) (kSeq (evCP E_bytes_trimLeftByte (evLP E_bytes_trimLeftByte n) (sub C_bytes_trimLeftByte [1, 1])) (kFnP E_bytes_trimLeftByte R_bytes_trimLeftByte))) (.exit 0) (frOf [(0, (.dat (.sl .byte) s0 none))]) = bytes_trimLeftByte_k1_0 n s0 := by
  kernel_rfl
theorem bytes_trimLeftByte_ev (n : Nat) (s0 : List UInt8) (o0 : Lab) (c1 : UInt8) (o1 : Lab) : evFnP E_bytes_trimLeftByte n C_bytes_trimLeftByte R_bytes_trimLeftByte [.dat (.sl .byte) s0 o0, .dat .byte c1 o1] = bytes_trimLeftByte_sh n s0 c1 := by
  unfold bytes_trimLeftByte_sh
  rw [show bytes_trimLeftByte_l1 (bytes_trimLeftByte_k1_0 n) n = (fun s0 c1 => evLP E_bytes_trimLeftByte n (sub C_bytes_trimLeftByte [1, 0, 0, 0]) (kBlockP 0 (E_bytes_trimLeftByte.cutb 0) (kSeq (evCP E_bytes_trimLeftByte (evLP E_bytes_trimLeftByte n) (sub C_bytes_trimLeftByte [1, 1])) (kFnP E_bytes_trimLeftByte R_bytes_trimLeftByte))) (frOf [(0, (.dat (.sl .byte) s0 none)), (1, (.dat .byte c1 none))])) from by
    funext s0 c1
    refine Eq.trans ?_ (bytes_trimLeftByte_l1_ok (kBlockP 0 (E_bytes_trimLeftByte.cutb 0) (kSeq (evCP E_bytes_trimLeftByte (evLP E_bytes_trimLeftByte n) (sub C_bytes_trimLeftByte [1, 1])) (kFnP E_bytes_trimLeftByte R_bytes_trimLeftByte))) n s0 c1).symm
    rw [show (fun s0 => (kBlockP 0 (E_bytes_trimLeftByte.cutb 0) (kSeq (evCP E_bytes_trimLeftByte (evLP E_bytes_trimLeftByte n) (sub C_bytes_trimLeftByte [1, 1])) (kFnP E_bytes_trimLeftByte R_bytes_trimLeftByte))) (.exit 0) (frOf [(0, (.dat (.sl .byte) s0 none))])) = (bytes_trimLeftByte_k1_0 n) from by
      funext s0
      exact bytes_trimLeftByte_k1_0_ok n s0]
    all_goals kernel_rfl]
  kernel_rfl
theorem bytes_trimLeftByte_sound : SoundG G Tryd.prog 91 s_bytes_trimLeftByte := by
  refine sound_of_evP' G_stays (E := E_bytes_trimLeftByte) (fn := Tryd.f91) (c := C_bytes_trimLeftByte) (tyOk_of_table rfl tis_ok) (fun w S hg => ⟨⟨fns_nil, fun f sp h => cns_nil f sp h w S⟩, gl_none w S hg⟩) follows Tryd.func91 (by kernel_rfl) (by kernel_rfl) (by kernel_rfl) ?_
  intro avs r h
  unfold s_bytes_trimLeftByte at h
  split at h
  · simp only [Prod.mk.injEq] at h
    obtain ⟨hp, rfl⟩ := h
    obtain ⟨n, hn⟩ := bytes_trimLeftByte_math _ _ hp
    exact ⟨n, _, (bytes_trimLeftByte_ev n _ _ _ _).trans hn, .inl rfl⟩
  · cases h

/-! bytes.trimLeftASCII -/

noncomputable def E_bytes_trimLeftASCII : EnvP := ⟨⟨tiOf tis, fnsOf [(108, s___bytes_asciiSet__contains)], cnsOf [], [], 20, (fun x => if x = 1 then some [0, 1] else none), (fun x => if x = 0 then some [0] else if x = 1 then some [0, 1] else none), some [1000004]⟩, fun _ => none, fun _ => none, fun _ => []⟩
noncomputable def C_bytes_trimLeftASCII : Code := Tryd.f93.body.getD .skip
noncomputable def R_bytes_trimLeftASCII : Array ResultVar := Tryd.f93.results
theorem bytes_trimLeftASCII_l1_ok (K : Ex → Fr → Option AV) : ∀ (n : Nat) (s0 : List UInt8) (as1 : List Bool), evLP E_bytes_trimLeftASCII n (sub C_bytes_trimLeftASCII [1, 0, 0, 0]) K (frOf [(0, (.dat (.sl .byte) s0 none)), (1, (.adr (.arr 256 .bool) as1))]) = bytes_trimLeftASCII_l1 (fun s0 => K (.exit 0) (frOf [(0, (.dat (.sl .byte) s0 none))])) n s0 as1 := by
  intro n
  induction n with
  | zero => intros; rfl
  | succ n IH =>
  intro s0 as1
  have ih : (fun s0 as1 => evLP E_bytes_trimLeftASCII n (sub C_bytes_trimLeftASCII [1, 0, 0, 0]) K (frOf [(0, (.dat (.sl .byte) s0 none)), (1, (.adr (.arr 256 .bool) as1))])) = bytes_trimLeftASCII_l1 (fun s0 => K (.exit 0) (frOf [(0, (.dat (.sl .byte) s0 none))])) n := by
    funext s0 as1
    exact IH s0 as1
  show _ = bytes_trimLeftASCII_l1_b (fun s0 => K (.exit 0) (frOf [(0, (.dat (.sl .byte) s0 none))])) (bytes_trimLeftASCII_l1 (fun s0 => K (.exit 0) (frOf [(0, (.dat (.sl .byte) s0 none))])) n) n s0 as1
  rw [← ih]
  kernel_rfl
theorem bytes_trimLeftASCII_k1_0_ok (n : Nat) (s0 : List UInt8) : (kBlockP 0 (E_bytes_trimLeftASCII.cutb 0) (kSeq (evCP E_bytes_trimLeftASCII (evLP E_bytes_trimLeftASCII n) (sub C_bytes_trimLeftASCII [1, 1])) (kFnP E_bytes_trimLeftASCII R_bytes_trimLeftASCII))) (.exit 0) (frOf [(0, (.dat (.sl .byte) s0 none))]) = bytes_trimLeftASCII_k1_0 n s0 := by
  kernel_rfl
theorem bytes_trimLeftASCII_ev (n : Nat) (s0 : List UInt8) (o0 : Lab) (as1 : List Bool) : evFnP E_bytes_trimLeftASCII n C_bytes_trimLeftASCII R_bytes_trimLeftASCII [.dat (.sl .byte) s0 o0, .adr (.arr 256 .bool) as1] = bytes_trimLeftASCII_sh n s0 as1 := by
  unfold bytes_trimLeftASCII_sh
  rw [show bytes_trimLeftASCII_l1 (bytes_trimLeftASCII_k1_0 n) n = (fun s0 as1 => evLP E_bytes_trimLeftASCII n (sub C_bytes_trimLeftASCII [1, 0, 0, 0]) (kBlockP 0 (E_bytes_trimLeftASCII.cutb 0) (kSeq (evCP E_bytes_trimLeftASCII (evLP E_bytes_trimLeftASCII n) (sub C_bytes_trimLeftASCII [1, 1])) (kFnP E_bytes_trimLeftASCII R_bytes_trimLeftASCII))) (frOf [(0, (.dat (.sl .byte) s0 none)), (1, (.adr (.arr 256 .bool) as1))])) from by
    funext s0 as1
    refine Eq.trans ?_ (bytes_trimLeftASCII_l1_ok (kBlockP 0 (E_bytes_trimLeftASCII.cutb 0) (kSeq (evCP E_bytes_trimLeftASCII (evLP E_bytes_trimLeftASCII n) (sub C_bytes_trimLeftASCII [1, 1])) (kFnP E_bytes_trimLeftASCII R_bytes_trimLeftASCII))) n s0 as1).symm
    rw [show (fun s0 => (kBlockP 0 (E_bytes_trimLeftASCII.cutb 0) (kSeq (evCP E_bytes_trimLeftASCII (evLP E_bytes_trimLeftASCII n) (sub C_bytes_trimLeftASCII [1, 1])) (kFnP E_bytes_trimLeftASCII R_bytes_trimLeftASCII))) (.exit 0) (frOf [(0, (.dat (.sl .byte) s0 none))])) = (bytes_trimLeftASCII_k1_0 n) from by
      funext s0
      exact bytes_trimLeftASCII_k1_0_ok n s0]
    all_goals kernel_rfl]
  kernel_rfl
theorem bytes_trimLeftASCII_sound : SoundG G Tryd.prog 93 s_bytes_trimLeftASCII := by
  refine sound_of_evP' G_stays (E := E_bytes_trimLeftASCII) (fn := Tryd.f93) (c := C_bytes_trimLeftASCII) (tyOk_of_table rfl tis_ok) (fun w S hg => ⟨⟨(fns_cons (__bytes_asciiSet__contains_sound w S hg) fns_nil), fun f sp h => cns_nil f sp h w S⟩, gl_none w S hg⟩) follows Tryd.func93 (by kernel_rfl) (by kernel_rfl) (by kernel_rfl) ?_
  intro avs r h
  unfold s_bytes_trimLeftASCII at h
  split at h
  · simp only [Prod.mk.injEq] at h
    obtain ⟨hp, rfl⟩ := h
    obtain ⟨n, hn⟩ := bytes_trimLeftASCII_math _ _ hp
    exact ⟨n, _, (bytes_trimLeftASCII_ev n _ _ _).trans hn, .inl rfl⟩
  · cases h

/-! bytes.trimRightByte -/

noncomputable def E_bytes_trimRightByte : EnvP := ⟨⟨tiOf tis, fnsOf [], cnsOf [], [], 24, (fun x => if x = 1 then some [0, 1] else none), (fun x => if x = 0 then some [0] else if x = 1 then some [0, 1] else none), some [4]⟩, fun _ => none, fun _ => none, fun _ => []⟩
noncomputable def C_bytes_trimRightByte : Code := Tryd.f113.body.getD .skip
noncomputable def R_bytes_trimRightByte : Array ResultVar := Tryd.f113.results
theorem bytes_trimRightByte_l1_ok (K : Ex → Fr → Option AV) : ∀ (n : Nat) (s0 : List UInt8) (c1 : UInt8), evLP E_bytes_trimRightByte n (sub C_bytes_trimRightByte [1, 0, 0, 0]) K (frOf [(0, (.dat (.sl .byte) s0 none)), (1, (.dat .byte c1 none))]) = bytes_trimRightByte_l1 (fun s0 => K (.exit 0) (frOf [(0, (.dat (.sl .byte) s0 none))])) n s0 c1 := by
  intro n
  induction n with
  | zero => intros; rfl
  | succ n IH =>
  intro s0 c1
  have ih : (fun s0 c1 => evLP E_bytes_trimRightByte n (sub C_bytes_trimRightByte [1, 0, 0, 0]) K (frOf [(0, (.dat (.sl .byte) s0 none)), (1, (.dat .byte c1 none))])) = bytes_trimRightByte_l1 (fun s0 => K (.exit 0) (frOf [(0, (.dat (.sl .byte) s0 none))])) n := by
    funext s0 c1
    exact IH s0 c1
  show _ = bytes_trimRightByte_l1_b (fun s0 => K (.exit 0) (frOf [(0, (.dat (.sl .byte) s0 none))])) (bytes_trimRightByte_l1 (fun s0 => K (.exit 0) (frOf [(0, (.dat (.sl .byte) s0 none))])) n) n s0 c1
  rw [← ih]
  kernel_rfl
theorem bytes_trimRightByte_k1_0_ok (n : Nat) (s0 : List UInt8) : (kBlockP 0 (E_bytes_trimRightByte.cutb 0) (kSeq (evCP E_bytes_trimRightByte (evLP E_bytes_trimRightByte n) (sub C_bytes_trimRightByte [1, 1])) (kFnP E_bytes_trimRightByte R_bytes_trimRightByte))) (.exit 0) (frOf [(0, (.dat (.sl .byte) s0 none))]) = bytes_trimRightByte_k1_0 n s0 := by
  kernel_rfl
theorem bytes_trimRightByte_ev (n : Nat) (s0 : List UInt8) (o0 : Lab) (c1 : UInt8) (o1 : Lab) : evFnP E_bytes_trimRightByte n C_bytes_trimRightByte R_bytes_trimRightByte [.dat (.sl .byte) s0 o0, .dat .byte c1 o1] = bytes_trimRightByte_sh n s0 c1 := by
  unfold bytes_trimRightByte_sh
  rw [show bytes_trimRightByte_l1 (bytes_trimRightByte_k1_0 n) n = (fun s0 c1 => evLP E_bytes_trimRightByte n (sub C_bytes_trimRightByte [1, 0, 0, 0]) (kBlockP 0 (E_bytes_trimRightByte.cutb 0) (kSeq (evCP E_bytes_trimRightByte (evLP E_bytes_trimRightByte n) (sub C_bytes_trimRightByte [1, 1])) (kFnP E_bytes_trimRightByte R_bytes_trimRightByte))) (frOf [(0, (.dat (.sl .byte) s0 none)), (1, (.dat .byte c1 none))])) from by
    funext s0 c1
    refine Eq.trans ?_ (bytes_trimRightByte_l1_ok (kBlockP 0 (E_bytes_trimRightByte.cutb 0) (kSeq (evCP E_bytes_trimRightByte (evLP E_bytes_trimRightByte n) (sub C_bytes_trimRightByte [1, 1])) (kFnP E_bytes_trimRightByte R_bytes_trimRightByte))) n s0 c1).symm
    rw [show (fun s0 => (kBlockP 0 (E_bytes_trimRightByte.cutb 0) (kSeq (evCP E_bytes_trimRightByte (evLP E_bytes_trimRightByte n) (sub C_bytes_trimRightByte [1, 1])) (kFnP E_bytes_trimRightByte R_bytes_trimRightByte))) (.exit 0) (frOf [(0, (.dat (.sl .byte) s0 none))])) = (bytes_trimRightByte_k1_0 n) from by
      funext s0
      exact bytes_trimRightByte_k1_0_ok n s0]
    all_goals kernel_rfl]
  kernel_rfl
theorem bytes_trimRightByte_sound : SoundG G Tryd.prog 113 s_bytes_trimRightByte := by
  refine sound_of_evP' G_stays (E := E_bytes_trimRightByte) (fn := Tryd.f113) (c := C_bytes_trimRightByte) (tyOk_of_table rfl tis_ok) (fun w S hg => ⟨⟨fns_nil, fun f sp h => cns_nil f sp h w S⟩, gl_none w S hg⟩) follows Tryd.func113 (by kernel_rfl) (by kernel_rfl) (by kernel_rfl) ?_
  intro avs r h
  unfold s_bytes_trimRightByte at h
  split at h
  · simp only [Prod.mk.injEq] at h
    obtain ⟨hp, rfl⟩ := h
    obtain ⟨n, hn⟩ := bytes_trimRightByte_math _ _ hp
    exact ⟨n, _, (bytes_trimRightByte_ev n _ _ _ _).trans hn, .inl rfl⟩
  · cases h

/-! bytes.trimRightASCII -/

noncomputable def E_bytes_trimRightASCII : EnvP := ⟨⟨tiOf tis, fnsOf [(108, s___bytes_asciiSet__contains)], cnsOf [], [], 23, (fun x => if x = 1 then some [0, 1] else none), (fun x => if x = 0 then some [0] else if x = 1 then some [0, 1] else none), some [4]⟩, fun _ => none, fun _ => none, fun _ => []⟩
noncomputable def C_bytes_trimRightASCII : Code := Tryd.f114.body.getD .skip
noncomputable def R_bytes_trimRightASCII : Array ResultVar := Tryd.f114.results
theorem bytes_trimRightASCII_l1_ok (K : Ex → Fr → Option AV) : ∀ (n : Nat) (s0 : List UInt8) (as1 : List Bool), evLP E_bytes_trimRightASCII n (sub C_bytes_trimRightASCII [1, 0, 0, 0]) K (frOf [(0, (.dat (.sl .byte) s0 none)), (1, (.adr (.arr 256 .bool) as1))]) = bytes_trimRightASCII_l1 (fun s0 => K (.exit 0) (frOf [(0, (.dat (.sl .byte) s0 none))])) n s0 as1 := by
  intro n
  induction n with
  | zero => intros; rfl
  | succ n IH =>
  intro s0 as1
  have ih : (fun s0 as1 => evLP E_bytes_trimRightASCII n (sub C_bytes_trimRightASCII [1, 0, 0, 0]) K (frOf [(0, (.dat (.sl .byte) s0 none)), (1, (.adr (.arr 256 .bool) as1))])) = bytes_trimRightASCII_l1 (fun s0 => K (.exit 0) (frOf [(0, (.dat (.sl .byte) s0 none))])) n := by
    funext s0 as1
    exact IH s0 as1
  show _ = bytes_trimRightASCII_l1_b (fun s0 => K (.exit 0) (frOf [(0, (.dat (.sl .byte) s0 none))])) (bytes_trimRightASCII_l1 (fun s0 => K (.exit 0) (frOf [(0, (.dat (.sl .byte) s0 none))])) n) n s0 as1
  rw [← ih]
  kernel_rfl
theorem bytes_trimRightASCII_k1_0_ok (n : Nat) (s0 : List UInt8) : (kBlockP 0 (E_bytes_trimRightASCII.cutb 0) (kSeq (evCP E_bytes_trimRightASCII (evLP E_bytes_trimRightASCII n) (sub C_bytes_trimRightASCII [1, 1])) (kFnP E_bytes_trimRightASCII R_bytes_trimRightASCII))) (.exit 0) (frOf [(0, (.dat (.sl .byte) s0 none))]) = bytes_trimRightASCII_k1_0 n s0 := by
  kernel_rfl
theorem bytes_trimRightASCII_ev (n : Nat) (s0 : List UInt8) (o0 : Lab) (as1 : List Bool) : evFnP E_bytes_trimRightASCII n C_bytes_trimRightASCII R_bytes_trimRightASCII [.dat (.sl .byte) s0 o0, .adr (.arr 256 .bool) as1] = bytes_trimRightASCII_sh n s0 as1 := by
  unfold bytes_trimRightASCII_sh
  rw [show bytes_trimRightASCII_l1 (bytes_trimRightASCII_k1_0 n) n = (fun s0 as1 => evLP E_bytes_trimRightASCII n (sub C_bytes_trimRightASCII [1, 0, 0, 0]) (kBlockP 0 (E_bytes_trimRightASCII.cutb 0) (kSeq (evCP E_bytes_trimRightASCII (evLP E_bytes_trimRightASCII n) (sub C_bytes_trimRightASCII [1, 1])) (kFnP E_bytes_trimRightASCII R_bytes_trimRightASCII))) (frOf [(0, (.dat (.sl .byte) s0 none)), (1, (.adr (.arr 256 .bool) as1))])) from by
    funext s0 as1
    refine Eq.trans ?_ (bytes_trimRightASCII_l1_ok (kBlockP 0 (E_bytes_trimRightASCII.cutb 0) (kSeq (evCP E_bytes_trimRightASCII (evLP E_bytes_trimRightASCII n) (sub C_bytes_trimRightASCII [1, 1])) (kFnP E_bytes_trimRightASCII R_bytes_trimRightASCII))) n s0 as1).symm
    rw [show (fun s0 => (kBlockP 0 (E_bytes_trimRightASCII.cutb 0) (kSeq (evCP E_bytes_trimRightASCII (evLP E_bytes_trimRightASCII n) (sub C_bytes_trimRightASCII [1, 1])) (kFnP E_bytes_trimRightASCII R_bytes_trimRightASCII))) (.exit 0) (frOf [(0, (.dat (.sl .byte) s0 none))])) = (bytes_trimRightASCII_k1_0 n) from by
      funext s0
      exact bytes_trimRightASCII_k1_0_ok n s0]
    all_goals kernel_rfl]
  kernel_rfl
theorem bytes_trimRightASCII_sound : SoundG G Tryd.prog 114 s_bytes_trimRightASCII := by
  refine sound_of_evP' G_stays (E := E_bytes_trimRightASCII) (fn := Tryd.f114) (c := C_bytes_trimRightASCII) (tyOk_of_table rfl tis_ok) (fun w S hg => ⟨⟨(fns_cons (__bytes_asciiSet__contains_sound w S hg) fns_nil), fun f sp h => cns_nil f sp h w S⟩, gl_none w S hg⟩) follows Tryd.func114 (by kernel_rfl) (by kernel_rfl) (by kernel_rfl) ?_
  intro avs r h
  unfold s_bytes_trimRightASCII at h
  split at h
  · simp only [Prod.mk.injEq] at h
    obtain ⟨hp, rfl⟩ := h
    obtain ⟨n, hn⟩ := bytes_trimRightASCII_math _ _ hp
    exact ⟨n, _, (bytes_trimRightASCII_ev n _ _ _).trans hn, .inl rfl⟩
  · cases h

/-! bytes.Trim -/

noncomputable def E_bytes_Trim : EnvP := ⟨⟨tiOf tis, fnsOf [(91, s_bytes_trimLeftByte), (92, s_bytes_makeASCIISet), (93, s_bytes_trimLeftASCII), (94, s_bytes_trimLeftUnicode), (113, s_bytes_trimRightByte), (114, s_bytes_trimRightASCII), (115, s_bytes_trimRightUnicode)], cnsOf [], [], 42, (fun _ => none), (fun _ => none), some [1000004]⟩, fun _ => none, fun _ => none, (fun x => if x = 500009 then [5] else [])⟩
noncomputable def C_bytes_Trim : Code := Tryd.f86.body.getD .skip
noncomputable def R_bytes_Trim : Array ResultVar := Tryd.f86.results
theorem bytes_Trim_ev (n : Nat) (s0 : List UInt8) (o0 : Lab) (cutset1 : List UInt8) (o1 : Lab) : evFnP E_bytes_Trim n C_bytes_Trim R_bytes_Trim [.dat (.sl .byte) s0 o0, .dat .str cutset1 o1] = bytes_Trim_sh n s0 cutset1 := by
  kernel_rfl
theorem bytes_Trim_sound : SoundG G Tryd.prog 86 s_bytes_Trim := by
  refine sound_of_evP' G_stays (E := E_bytes_Trim) (fn := Tryd.f86) (c := C_bytes_Trim) (tyOk_of_table rfl tis_ok) (fun w S hg => ⟨⟨(fns_cons (bytes_trimLeftByte_sound w S hg) (fns_cons (bytes_makeASCIISet_sound w S hg) (fns_cons (bytes_trimLeftASCII_sound w S hg) (fns_cons (bytes_trimLeftUnicode_sound w S hg) (fns_cons (bytes_trimRightByte_sound w S hg) (fns_cons (bytes_trimRightASCII_sound w S hg) (fns_cons (bytes_trimRightUnicode_sound w S hg) fns_nil))))))), fun f sp h => cns_nil f sp h w S⟩, gl_none w S hg⟩) follows Tryd.func86 (by kernel_rfl) (by kernel_rfl) (by kernel_rfl) ?_
  intro avs r h
  unfold s_bytes_Trim at h
  split at h
  · simp only [Prod.mk.injEq] at h
    obtain ⟨hp, rfl⟩ := h
    obtain ⟨n, hn⟩ := bytes_Trim_math _ _ hp
    exact ⟨n, _, (bytes_Trim_ev n _ _ _ _).trans hn, .inl rfl⟩
  · cases h

/-! sheave/octet.Lower -/

noncomputable def E_octet_Lower : EnvP := ⟨⟨tiOf tis, fnsOf [], cnsOf [], [], 12, (fun _ => none), (fun _ => none), some [2]⟩, fun _ => none, fun _ => none, fun _ => []⟩
noncomputable def C_octet_Lower : Code := Tryd.f126.body.getD .skip
noncomputable def R_octet_Lower : Array ResultVar := Tryd.f126.results
theorem octet_Lower_ev (n : Nat) (c0 : UInt8) (o0 : Lab) : evFnP E_octet_Lower n C_octet_Lower R_octet_Lower [.dat .byte c0 o0] = octet_Lower_sh n c0 := by
  kernel_rfl
theorem octet_Lower_sound : SoundG G Tryd.prog 126 s_octet_Lower := by
  refine sound_of_evP' G_stays (E := E_octet_Lower) (fn := Tryd.f126) (c := C_octet_Lower) (tyOk_of_table rfl tis_ok) (fun w S hg => ⟨⟨fns_nil, fun f sp h => cns_nil f sp h w S⟩, gl_none w S hg⟩) follows Tryd.func126 (by kernel_rfl) (by kernel_rfl) (by kernel_rfl) ?_
  intro avs r h
  unfold s_octet_Lower at h
  split at h
  · simp only [Prod.mk.injEq, true_and] at h
    subst h
    obtain ⟨n, hn⟩ := octet_Lower_math _
    exact ⟨n, _, (octet_Lower_ev n _ _).trans hn, .inl rfl⟩
  · cases h

/-! sheave/octet.Fold -/

noncomputable def E_octet_Fold : EnvP := ⟨⟨tiOf tis, fnsOf [(60, s_bytes_Clone), (126, s_octet_Lower)], cnsOf [], [], 22, (fun x => if x = 3 then some [3, 8, 9, 10] else none), (fun x => if x = 0 then some [3] else if x = 1 then some [3, 8, 9, 10] else none), some [2]⟩, (fun x => if x = 2 then some (.psl 5 (.leaf .byte)) else if x = 7 then some (.psl 5 (.leaf .byte)) else none), fun _ => none, fun _ => []⟩
noncomputable def C_octet_Fold : Code := Tryd.f111.body.getD .skip
noncomputable def R_octet_Fold : Array ResultVar := Tryd.f111.results
theorem octet_Fold_l3_ok (K : Ex → Fr → Option AV) : ∀ (n : Nat) (out3 : List UInt8) (s9 : Int) (s10 : Int), evLP E_octet_Fold n (sub C_octet_Fold [1, 1, 0, 1, 0, 0]) K (frOf [(3, (.pv (.psl 5 (.leaf .byte)) out3 none)), (8, (.pval 3 [])), (9, (.dat (.int .i64) s9 none)), (10, (.dat (.int .i64) s10 none))]) = octet_Fold_l3 (fun out3 => K (.exit 0) (frOf [(3, (.pv (.psl 5 (.leaf .byte)) out3 none))])) n out3 s9 s10 := by
  intro n
  induction n with
  | zero => intros; rfl
  | succ n IH =>
  intro out3 s9 s10
  have ih : (fun out3 s9 s10 => evLP E_octet_Fold n (sub C_octet_Fold [1, 1, 0, 1, 0, 0]) K (frOf [(3, (.pv (.psl 5 (.leaf .byte)) out3 none)), (8, (.pval 3 [])), (9, (.dat (.int .i64) s9 none)), (10, (.dat (.int .i64) s10 none))])) = octet_Fold_l3 (fun out3 => K (.exit 0) (frOf [(3, (.pv (.psl 5 (.leaf .byte)) out3 none))])) n := by
    funext out3 s9 s10
    exact IH out3 s9 s10
  show _ = octet_Fold_l3_b (fun out3 => K (.exit 0) (frOf [(3, (.pv (.psl 5 (.leaf .byte)) out3 none))])) (octet_Fold_l3 (fun out3 => K (.exit 0) (frOf [(3, (.pv (.psl 5 (.leaf .byte)) out3 none))])) n) n out3 s9 s10
  rw [← ih]
  kernel_rfl
theorem octet_Fold_k3_0_ok (n : Nat) (out3 : List UInt8) : (kBlockP 0 (E_octet_Fold.cutb 0) (kSeq (evCP E_octet_Fold (evLP E_octet_Fold n) (sub C_octet_Fold [1, 1, 1])) (kFnP E_octet_Fold R_octet_Fold))) (.exit 0) (frOf [(3, (.pv (.psl 5 (.leaf .byte)) out3 none))]) = octet_Fold_k3_0 n out3 := by
  kernel_rfl
theorem octet_Fold_ev (n : Nat) (s0 : List UInt8) (o0 : Lab) : evFnP E_octet_Fold n C_octet_Fold R_octet_Fold [.dat (.sl .byte) s0 o0] = octet_Fold_sh n s0 := by
  unfold octet_Fold_sh
  rw [show octet_Fold_l3 (octet_Fold_k3_0 n) n = (fun out3 s9 s10 => evLP E_octet_Fold n (sub C_octet_Fold [1, 1, 0, 1, 0, 0]) (kBlockP 0 (E_octet_Fold.cutb 0) (kSeq (evCP E_octet_Fold (evLP E_octet_Fold n) (sub C_octet_Fold [1, 1, 1])) (kFnP E_octet_Fold R_octet_Fold))) (frOf [(3, (.pv (.psl 5 (.leaf .byte)) out3 none)), (8, (.pval 3 [])), (9, (.dat (.int .i64) s9 none)), (10, (.dat (.int .i64) s10 none))])) from by
    funext out3 s9 s10
    refine Eq.trans ?_ (octet_Fold_l3_ok (kBlockP 0 (E_octet_Fold.cutb 0) (kSeq (evCP E_octet_Fold (evLP E_octet_Fold n) (sub C_octet_Fold [1, 1, 1])) (kFnP E_octet_Fold R_octet_Fold))) n out3 s9 s10).symm
    rw [show (fun out3 => (kBlockP 0 (E_octet_Fold.cutb 0) (kSeq (evCP E_octet_Fold (evLP E_octet_Fold n) (sub C_octet_Fold [1, 1, 1])) (kFnP E_octet_Fold R_octet_Fold))) (.exit 0) (frOf [(3, (.pv (.psl 5 (.leaf .byte)) out3 none))])) = (octet_Fold_k3_0 n) from by
      funext out3
      exact octet_Fold_k3_0_ok n out3]
    all_goals kernel_rfl]
  kernel_rfl
theorem octet_Fold_sound : SoundG G Tryd.prog 111 s_octet_Fold := by
  refine sound_of_evP' G_stays (E := E_octet_Fold) (fn := Tryd.f111) (c := C_octet_Fold) (tyOk_of_table rfl tis_ok) (fun w S hg => ⟨⟨(fns_cons (bytes_Clone_sound w S hg) (fns_cons (octet_Lower_sound w S hg) fns_nil)), fun f sp h => cns_nil f sp h w S⟩, gl_none w S hg⟩) follows Tryd.func111 (by kernel_rfl) (by kernel_rfl) (by kernel_rfl) ?_
  intro avs r h
  unfold s_octet_Fold at h
  split at h
  · simp only [Prod.mk.injEq] at h
    obtain ⟨hp, rfl⟩ := h
    obtain ⟨n, hn⟩ := octet_Fold_math _ hp
    exact ⟨n, _, (octet_Fold_ev n _ _).trans hn, .inl rfl⟩
  · cases h

/-! sheave/octet.Same -/

noncomputable def E_octet_Same : EnvP := ⟨⟨tiOf tis, fnsOf [(96, s_bytes_Equal), (111, s_octet_Fold)], cnsOf [], [], 10, (fun _ => none), (fun _ => none), some [4]⟩, fun _ => none, fun _ => none, fun _ => []⟩
noncomputable def C_octet_Same : Code := Tryd.f84.body.getD .skip
noncomputable def R_octet_Same : Array ResultVar := Tryd.f84.results
theorem octet_Same_ev (n : Nat) (a0 : List UInt8) (o0 : Lab) (b1 : List UInt8) (o1 : Lab) : evFnP E_octet_Same n C_octet_Same R_octet_Same [.dat (.sl .byte) a0 o0, .dat (.sl .byte) b1 o1] = octet_Same_sh n a0 b1 := by
  kernel_rfl
theorem octet_Same_sound : SoundG G Tryd.prog 84 s_octet_Same := by
  refine sound_of_evP' G_stays (E := E_octet_Same) (fn := Tryd.f84) (c := C_octet_Same) (tyOk_of_table rfl tis_ok) (fun w S hg => ⟨⟨(fns_cons (bytes_Equal_sound w S hg) (fns_cons (octet_Fold_sound w S hg) fns_nil)), fun f sp h => cns_nil f sp h w S⟩, gl_none w S hg⟩) follows Tryd.func84 (by kernel_rfl) (by kernel_rfl) (by kernel_rfl) ?_
  intro avs r h
  unfold s_octet_Same at h
  split at h
  · simp only [Prod.mk.injEq] at h
    obtain ⟨hp, rfl⟩ := h
    obtain ⟨n, hn⟩ := octet_Same_math _ _ hp
    exact ⟨n, _, (octet_Same_ev n _ _ _ _).trans hn, .inl rfl⟩
  · cases h

/-! sheave/octet.Count -/

noncomputable def E_octet_Count : EnvP := ⟨⟨tiOf tis, fnsOf [(52, s_octet_Is)], cnsOf [], [], 21, (fun x => if x = 3 then some [1, 5, 8, 9, 10] else none), (fun x => if x = 0 then some [5] else if x = 1 then some [1, 5, 8, 9, 10] else none), some [4]⟩, fun _ => none, fun _ => none, fun _ => []⟩
noncomputable def C_octet_Count : Code := Tryd.f116.body.getD .skip
noncomputable def R_octet_Count : Array ResultVar := Tryd.f116.results
theorem octet_Count_l3_ok (K : Ex → Fr → Option AV) : ∀ (n : Nat) (kinds1 : Int) (n5 : Int) (s8 : List UInt8) (s9 : Int) (s10 : Int), evLP E_octet_Count n (sub C_octet_Count [1, 1, 0, 1, 0, 0]) K (frOf [(1, (.dat (.int .i64) kinds1 none)), (5, (.dat (.int .i64) n5 none)), (8, (.dat (.sl .byte) s8 none)), (9, (.dat (.int .i64) s9 none)), (10, (.dat (.int .i64) s10 none))]) = octet_Count_l3 (fun n5 => K (.exit 0) (frOf [(5, (.dat (.int .i64) n5 none))])) n kinds1 n5 s8 s9 s10 := by
  intro n
  induction n with
  | zero => intros; rfl
  | succ n IH =>
  intro kinds1 n5 s8 s9 s10
  have ih : (fun kinds1 n5 s8 s9 s10 => evLP E_octet_Count n (sub C_octet_Count [1, 1, 0, 1, 0, 0]) K (frOf [(1, (.dat (.int .i64) kinds1 none)), (5, (.dat (.int .i64) n5 none)), (8, (.dat (.sl .byte) s8 none)), (9, (.dat (.int .i64) s9 none)), (10, (.dat (.int .i64) s10 none))])) = octet_Count_l3 (fun n5 => K (.exit 0) (frOf [(5, (.dat (.int .i64) n5 none))])) n := by
    funext kinds1 n5 s8 s9 s10
    exact IH kinds1 n5 s8 s9 s10
  show _ = octet_Count_l3_b (fun n5 => K (.exit 0) (frOf [(5, (.dat (.int .i64) n5 none))])) (octet_Count_l3 (fun n5 => K (.exit 0) (frOf [(5, (.dat (.int .i64) n5 none))])) n) n kinds1 n5 s8 s9 s10
  rw [← ih]
  kernel_rfl
theorem octet_Count_k3_0_ok (n : Nat) (n5 : Int) : (kBlockP 0 (E_octet_Count.cutb 0) (kSeq (evCP E_octet_Count (evLP E_octet_Count n) (sub C_octet_Count [1, 1, 1])) (kFnP E_octet_Count R_octet_Count))) (.exit 0) (frOf [(5, (.dat (.int .i64) n5 none))]) = octet_Count_k3_0 n n5 := by
  kernel_rfl
theorem octet_Count_ev (n : Nat) (s0 : List UInt8) (o0 : Lab) (kinds1 : Int) (o1 : Lab) : evFnP E_octet_Count n C_octet_Count R_octet_Count [.dat (.sl .byte) s0 o0, .dat (.int .i64) kinds1 o1] = octet_Count_sh n s0 kinds1 := by
  unfold octet_Count_sh
  rw [show octet_Count_l3 (octet_Count_k3_0 n) n = (fun kinds1 n5 s8 s9 s10 => evLP E_octet_Count n (sub C_octet_Count [1, 1, 0, 1, 0, 0]) (kBlockP 0 (E_octet_Count.cutb 0) (kSeq (evCP E_octet_Count (evLP E_octet_Count n) (sub C_octet_Count [1, 1, 1])) (kFnP E_octet_Count R_octet_Count))) (frOf [(1, (.dat (.int .i64) kinds1 none)), (5, (.dat (.int .i64) n5 none)), (8, (.dat (.sl .byte) s8 none)), (9, (.dat (.int .i64) s9 none)), (10, (.dat (.int .i64) s10 none))])) from by
    funext kinds1 n5 s8 s9 s10
    refine Eq.trans ?_ (octet_Count_l3_ok (kBlockP 0 (E_octet_Count.cutb 0) (kSeq (evCP E_octet_Count (evLP E_octet_Count n) (sub C_octet_Count [1, 1, 1])) (kFnP E_octet_Count R_octet_Count))) n kinds1 n5 s8 s9 s10).symm
    rw [show (fun n5 => (kBlockP 0 (E_octet_Count.cutb 0) (kSeq (evCP E_octet_Count (evLP E_octet_Count n) (sub C_octet_Count [1, 1, 1])) (kFnP E_octet_Count R_octet_Count))) (.exit 0) (frOf [(5, (.dat (.int .i64) n5 none))])) = (octet_Count_k3_0 n) from by
      funext n5
      exact octet_Count_k3_0_ok n n5]
    all_goals kernel_rfl]
  kernel_rfl
theorem octet_Count_sound : SoundG G Tryd.prog 116 s_octet_Count := by
  refine sound_of_evP' G_stays (E := E_octet_Count) (fn := Tryd.f116) (c := C_octet_Count) (tyOk_of_table rfl tis_ok) (fun w S hg => ⟨⟨(fns_cons (octet_Is_sound w S hg) fns_nil), fun f sp h => cns_nil f sp h w S⟩, gl_none w S hg⟩) follows Tryd.func116 (by kernel_rfl) (by kernel_rfl) (by kernel_rfl) ?_
  intro avs r h
  unfold s_octet_Count at h
  split at h
  · simp only [Prod.mk.injEq] at h
    obtain ⟨hp, rfl⟩ := h
    obtain ⟨n, hn⟩ := octet_Count_math _ _ hp
    exact ⟨n, _, (octet_Count_ev n _ _ _ _).trans hn, .inl rfl⟩
  · cases h

end Go.Av
