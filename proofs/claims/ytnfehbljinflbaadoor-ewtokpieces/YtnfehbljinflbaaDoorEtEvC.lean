import Derived.Test.YtnfehbljinflbaaDoorEtEvB
import Derived.Test.YtnfehbljinflbaaDoorEtN
import Derived.Test.YtnfehbljinflbaaDoorProg
import Derived.KernelRfl
namespace Go.Av
open Go.Proofs
set_option maxRecDepth 100000
/-! bytes.trimLeftByte -/

noncomputable def E_bytes_trimLeftByte : EnvP := ⟨⟨tiOf tis, fnsOf [], cnsOf [], [], 21, (fun x => if x = 1 then some [0, 1] else none), (fun x => if x = 0 then some [0] else if x = 1 then some [0, 1] else none), some [1000004]⟩, fun _ => none, fun _ => none, fun _ => []⟩
noncomputable def C_bytes_trimLeftByte : Code := Tryd.f28.body.getD .skip
noncomputable def R_bytes_trimLeftByte : Array ResultVar := Tryd.f28.results
theorem bytes_trimLeftByte_l1_ok (K : Ex → Fr → Option AV) : ∀ (n : Nat) (s0 : List UInt8) (c1 : UInt8), evLP E_bytes_trimLeftByte n (sub C_bytes_trimLeftByte [1, 0, 0, 0]) K (frOf [(0, (.dat (.sl .byte) s0 none)), (1, (.dat .byte c1 none))]) = bytes_trimLeftByte_l1 (fun s0 => K (.exit 0) (frOf [(0, (.dat (.sl .byte) s0 none))])) n s0 c1 := by
  intro n
  induction n with
  | zero => intros; rfl
  | succ n IH =>
  intro s0 c1
  have ih : (fun s0 c1 => evLP E_bytes_trimLeftByte n (sub C_bytes_trimLeftByte [1, 0, 0, 0]) K (frOf [(0, (.dat (.sl .byte) s0 none)), (1, (.dat .byte c1 none))])) = bytes_trimLeftByte_l1 (fun s0 => K (.exit 0) (frOf [(0, (.dat (.sl .byte) s0 none))])) n := by
    funext s0 c1
    exact IH s0 c1
  show _ = bytes_trimLeftByte_l1_b (fun s0 => K (.exit 0) (frOf [(0, (.dat (.sl .byte) s0 none))])) (bytes_trimLeftByte_l1 (fun s0 => K (.exit 0) (frOf [(0, (.dat (.sl .byte) s0 none))])) n) n s0 c1
  rw [← ih]
  kernel_rfl
theorem bytes_trimLeftByte_k1_0_ok (n : Nat) (s0 : List UInt8) : (kBlockP 0 (E_bytes_trimLeftByte.cutb 0) (kSeq (evCP E_bytes_trimLeftByte (evLP E_bytes_trimLeftByte n) (sub C_bytes_trimLeftByte [1, 1])) (kFnP E_bytes_trimLeftByte R_bytes_trimLeftByte))) (.exit 0) (frOf [(0, (.dat (.sl .byte) s0 none))]) = bytes_trimLeftByte_k1_0 n s0 := by
  kernel_rfl
theorem bytes_trimLeftByte_ev (n : Nat) (s0 : List UInt8) (o0 : Lab) (c1 : UInt8) (o1 : Lab) : evFnP E_bytes_trimLeftByte n C_bytes_trimLeftByte R_bytes_trimLeftByte [.dat (.sl .byte) s0 o0, .dat .byte c1 o1] = bytes_trimLeftByte_sh n s0 c1 := by
  unfold bytes_trimLeftByte_sh
  rw [show bytes_trimLeftByte_l1 (bytes_trimLeftByte_k1_0 n) n = (fun s0 c1 => evLP E_bytes_trimLeftByte n (sub C_bytes_trimLeftByte [1, 0, 0, 0]) (kBlockP 0 (E_bytes_trimLeftByte.cutb 0) (kSeq (evCP E_bytes_trimLeftByte (evLP E_bytes_trimLeftByte n) (sub C_bytes_trimLeftByte [1, 1])) (kFnP E_bytes_trimLeftByte R_bytes_trimLeftByte))) (frOf [(0, (.dat (.sl .byte) s0 none)), (1, (.dat .byte c1 none))])) from by
    funext s0 c1
    refine Eq.trans ?_ (bytes_trimLeftByte_l1_ok (kBlockP 0 (E_bytes_trimLeftByte.cutb 0) (kSeq (evCP E_bytes_trimLeftByte (evLP E_bytes_trimLeftByte n) (sub C_bytes_trimLeftByte [1, 1])) (kFnP E_bytes_trimLeftByte R_bytes_trimLeftByte))) n s0 c1).symm
    rw [show (fun s0 => (kBlockP 0 (E_bytes_trimLeftByte.cutb 0) (kSeq (evCP E_bytes_trimLeftByte (evLP E_bytes_trimLeftByte n) (sub C_bytes_trimLeftByte [1, 1])) (kFnP E_bytes_trimLeftByte R_bytes_trimLeftByte))) (.exit 0) (frOf [(0, (.dat (.sl .byte) s0 none))])) = (bytes_trimLeftByte_k1_0 n) from by
      funext s0
      exact bytes_trimLeftByte_k1_0_ok n s0]
    all_goals kernel_rfl]
  kernel_rfl
theorem bytes_trimLeftByte_sound : SoundG G Tryd.prog 28 s_bytes_trimLeftByte := by
  refine sound_of_evP' G_stays (E := E_bytes_trimLeftByte) (fn := Tryd.f28) (c := C_bytes_trimLeftByte) (tyOk_of_table rfl tis_ok) (fun w S hg => ⟨⟨fns_nil, fun f sp h => cns_nil f sp h w S⟩, gl_none w S hg⟩) follows Tryd.func28 (by kernel_rfl) (by kernel_rfl) (by kernel_rfl) ?_
  intro avs r h
  unfold s_bytes_trimLeftByte at h
  split at h
  · simp only [Prod.mk.injEq] at h
    obtain ⟨hp, rfl⟩ := h
    obtain ⟨n, hn⟩ := bytes_trimLeftByte_math _ _ hp
    exact ⟨n, _, (bytes_trimLeftByte_ev n _ _ _ _).trans hn, .inl rfl⟩
  · cases h

/-! bytes.trimRightByte -/

noncomputable def E_bytes_trimRightByte : EnvP := ⟨⟨tiOf tis, fnsOf [], cnsOf [], [], 24, (fun x => if x = 1 then some [0, 1] else none), (fun x => if x = 0 then some [0] else if x = 1 then some [0, 1] else none), some [4]⟩, fun _ => none, fun _ => none, fun _ => []⟩
noncomputable def C_bytes_trimRightByte : Code := Tryd.f29.body.getD .skip
noncomputable def R_bytes_trimRightByte : Array ResultVar := Tryd.f29.results
theorem bytes_trimRightByte_l1_ok (K : Ex → Fr → Option AV) : ∀ (n : Nat) (s0 : List UInt8) (c1 : UInt8), evLP E_bytes_trimRightByte n (sub C_bytes_trimRightByte [1, 0, 0, 0]) K (frOf [(0, (.dat (.sl .byte) s0 none)), (1, (.dat .byte c1 none))]) = bytes_trimRightByte_l1 (fun s0 => K (.exit 0) (frOf [(0, (.dat (.sl .byte) s0 none))])) n s0 c1 := by
  intro n
  induction n with
  | zero => intros; rfl
  | succ n IH =>
  intro s0 c1
  have ih : (fun s0 c1 => evLP E_bytes_trimRightByte n (sub C_bytes_trimRightByte [1, 0, 0, 0]) K (frOf [(0, (.dat (.sl .byte) s0 none)), (1, (.dat .byte c1 none))])) = bytes_trimRightByte_l1 (fun s0 => K (.exit 0) (frOf [(0, (.dat (.sl .byte) s0 none))])) n := by
    funext s0 c1
    exact IH s0 c1
  show _ = bytes_trimRightByte_l1_b (fun s0 => K (.exit 0) (frOf [(0, (.dat (.sl .byte) s0 none))])) (bytes_trimRightByte_l1 (fun s0 => K (.exit 0) (frOf [(0, (.dat (.sl .byte) s0 none))])) n) n s0 c1
  rw [← ih]
  kernel_rfl
theorem bytes_trimRightByte_k1_0_ok (n : Nat) (s0 : List UInt8) : (kBlockP 0 (E_bytes_trimRightByte.cutb 0) (kSeq (evCP E_bytes_trimRightByte (evLP E_bytes_trimRightByte n) (sub C_bytes_trimRightByte [1, 1])) (kFnP E_bytes_trimRightByte R_bytes_trimRightByte))) (.exit 0) (frOf [(0, (.dat (.sl .byte) s0 none))]) = bytes_trimRightByte_k1_0 n s0 := by
  kernel_rfl
theorem bytes_trimRightByte_ev (n : Nat) (s0 : List UInt8) (o0 : Lab) (c1 : UInt8) (o1 : Lab) : evFnP E_bytes_trimRightByte n C_bytes_trimRightByte R_bytes_trimRightByte [.dat (.sl .byte) s0 o0, .dat .byte c1 o1] = bytes_trimRightByte_sh n s0 c1 := by
  unfold bytes_trimRightByte_sh
  rw [show bytes_trimRightByte_l1 (bytes_trimRightByte_k1_0 n) n = (fun s0 c1 => evLP E_bytes_trimRightByte n (sub C_bytes_trimRightByte [1, 0, 0, 0]) (kBlockP 0 (E_bytes_trimRightByte.cutb 0) (kSeq (evCP E_bytes_trimRightByte (evLP E_bytes_trimRightByte n) (sub C_bytes_trimRightByte [1, 1])) (kFnP E_bytes_trimRightByte R_bytes_trimRightByte))) (frOf [(0, (.dat (.sl .byte) s0 none)), (1, (.dat .byte c1 none))])) from by
    funext s0 c1
    refine Eq.trans ?_ (bytes_trimRightByte_l1_ok (kBlockP 0 (E_bytes_trimRightByte.cutb 0) (kSeq (evCP E_bytes_trimRightByte (evLP E_bytes_trimRightByte n) (sub C_bytes_trimRightByte [1, 1])) (kFnP E_bytes_trimRightByte R_bytes_trimRightByte))) n s0 c1).symm
    rw [show (fun s0 => (kBlockP 0 (E_bytes_trimRightByte.cutb 0) (kSeq (evCP E_bytes_trimRightByte (evLP E_bytes_trimRightByte n) (sub C_bytes_trimRightByte [1, 1])) (kFnP E_bytes_trimRightByte R_bytes_trimRightByte))) (.exit 0) (frOf [(0, (.dat (.sl .byte) s0 none))])) = (bytes_trimRightByte_k1_0 n) from by
      funext s0
      exact bytes_trimRightByte_k1_0_ok n s0]
    all_goals kernel_rfl]
  kernel_rfl
theorem bytes_trimRightByte_sound : SoundG G Tryd.prog 29 s_bytes_trimRightByte := by
  refine sound_of_evP' G_stays (E := E_bytes_trimRightByte) (fn := Tryd.f29) (c := C_bytes_trimRightByte) (tyOk_of_table rfl tis_ok) (fun w S hg => ⟨⟨fns_nil, fun f sp h => cns_nil f sp h w S⟩, gl_none w S hg⟩) follows Tryd.func29 (by kernel_rfl) (by kernel_rfl) (by kernel_rfl) ?_
  intro avs r h
  unfold s_bytes_trimRightByte at h
  split at h
  · simp only [Prod.mk.injEq] at h
    obtain ⟨hp, rfl⟩ := h
    obtain ⟨n, hn⟩ := bytes_trimRightByte_math _ _ hp
    exact ⟨n, _, (bytes_trimRightByte_ev n _ _ _ _).trans hn, .inl rfl⟩
  · cases h

/-! bytes.trimLeftASCII -/

noncomputable def E_bytes_trimLeftASCII : EnvP := ⟨⟨tiOf tis, fnsOf [(42, s___bytes_asciiSet__contains)], cnsOf [], [], 20, (fun x => if x = 1 then some [0, 1] else none), (fun x => if x = 0 then some [0] else if x = 1 then some [0, 1] else none), some [1000004]⟩, fun _ => none, fun _ => none, fun _ => []⟩
noncomputable def C_bytes_trimLeftASCII : Code := Tryd.f31.body.getD .skip
noncomputable def R_bytes_trimLeftASCII : Array ResultVar := Tryd.f31.results
theorem bytes_trimLeftASCII_l1_ok (K : Ex → Fr → Option AV) : ∀ (n : Nat) (s0 : List UInt8) (as1 : List Bool), evLP E_bytes_trimLeftASCII n (sub C_bytes_trimLeftASCII [1, 0, 0, 0]) K (frOf [(0, (.dat (.sl .byte) s0 none)), (1, (.adr (.arr 256 .bool) as1))]) = bytes_trimLeftASCII_l1 (fun s0 => K (.exit 0) (frOf [(0, (.dat (.sl .byte) s0 none))])) n s0 as1 := by
  intro n
  induction n with
  | zero => intros; rfl
  | succ n IH =>
  intro s0 as1
  have ih : (fun s0 as1 => evLP E_bytes_trimLeftASCII n (sub C_bytes_trimLeftASCII [1, 0, 0, 0]) K (frOf [(0, (.dat (.sl .byte) s0 none)), (1, (.adr (.arr 256 .bool) as1))])) = bytes_trimLeftASCII_l1 (fun s0 => K (.exit 0) (frOf [(0, (.dat (.sl .byte) s0 none))])) n := by
    funext s0 as1
    exact IH s0 as1
  show _ = bytes_trimLeftASCII_l1_b (fun s0 => K (.exit 0) (frOf [(0, (.dat (.sl .byte) s0 none))])) (bytes_trimLeftASCII_l1 (fun s0 => K (.exit 0) (frOf [(0, (.dat (.sl .byte) s0 none))])) n) n s0 as1
  rw [← ih]
  kernel_rfl
theorem bytes_trimLeftASCII_k1_0_ok (n : Nat) (s0 : List UInt8) : (kBlockP 0 (E_bytes_trimLeftASCII.cutb 0) (kSeq (evCP E_bytes_trimLeftASCII (evLP E_bytes_trimLeftASCII n) (sub C_bytes_trimLeftASCII [1, 1])) (kFnP E_bytes_trimLeftASCII R_bytes_trimLeftASCII))) (.exit 0) (frOf [(0, (.dat (.sl .byte) s0 none))]) = bytes_trimLeftASCII_k1_0 n s0 := by
  kernel_rfl
theorem bytes_trimLeftASCII_ev (n : Nat) (s0 : List UInt8) (o0 : Lab) (as1 : List Bool) : evFnP E_bytes_trimLeftASCII n C_bytes_trimLeftASCII R_bytes_trimLeftASCII [.dat (.sl .byte) s0 o0, .adr (.arr 256 .bool) as1] = bytes_trimLeftASCII_sh n s0 as1 := by
  unfold bytes_trimLeftASCII_sh
  rw [show bytes_trimLeftASCII_l1 (bytes_trimLeftASCII_k1_0 n) n = (fun s0 as1 => evLP E_bytes_trimLeftASCII n (sub C_bytes_trimLeftASCII [1, 0, 0, 0]) (kBlockP 0 (E_bytes_trimLeftASCII.cutb 0) (kSeq (evCP E_bytes_trimLeftASCII (evLP E_bytes_trimLeftASCII n) (sub C_bytes_trimLeftASCII [1, 1])) (kFnP E_bytes_trimLeftASCII R_bytes_trimLeftASCII))) (frOf [(0, (.dat (.sl .byte) s0 none)), (1, (.adr (.arr 256 .bool) as1))])) from by
    funext s0 as1
    refine Eq.trans ?_ (bytes_trimLeftASCII_l1_ok (kBlockP 0 (E_bytes_trimLeftASCII.cutb 0) (kSeq (evCP E_bytes_trimLeftASCII (evLP E_bytes_trimLeftASCII n) (sub C_bytes_trimLeftASCII [1, 1])) (kFnP E_bytes_trimLeftASCII R_bytes_trimLeftASCII))) n s0 as1).symm
    rw [show (fun s0 => (kBlockP 0 (E_bytes_trimLeftASCII.cutb 0) (kSeq (evCP E_bytes_trimLeftASCII (evLP E_bytes_trimLeftASCII n) (sub C_bytes_trimLeftASCII [1, 1])) (kFnP E_bytes_trimLeftASCII R_bytes_trimLeftASCII))) (.exit 0) (frOf [(0, (.dat (.sl .byte) s0 none))])) = (bytes_trimLeftASCII_k1_0 n) from by
      funext s0
      exact bytes_trimLeftASCII_k1_0_ok n s0]
    all_goals kernel_rfl]
  kernel_rfl
theorem bytes_trimLeftASCII_sound : SoundG G Tryd.prog 31 s_bytes_trimLeftASCII := by
  refine sound_of_evP' G_stays (E := E_bytes_trimLeftASCII) (fn := Tryd.f31) (c := C_bytes_trimLeftASCII) (tyOk_of_table rfl tis_ok) (fun w S hg => ⟨⟨(fns_cons (__bytes_asciiSet__contains_sound w S hg) fns_nil), fun f sp h => cns_nil f sp h w S⟩, gl_none w S hg⟩) follows Tryd.func31 (by kernel_rfl) (by kernel_rfl) (by kernel_rfl) ?_
  intro avs r h
  unfold s_bytes_trimLeftASCII at h
  split at h
  · simp only [Prod.mk.injEq] at h
    obtain ⟨hp, rfl⟩ := h
    obtain ⟨n, hn⟩ := bytes_trimLeftASCII_math _ _ hp
    exact ⟨n, _, (bytes_trimLeftASCII_ev n _ _ _).trans hn, .inl rfl⟩
  · cases h

/-! bytes.trimRightASCII -/

noncomputable def E_bytes_trimRightASCII : EnvP := ⟨⟨tiOf tis, fnsOf [(42, s___bytes_asciiSet__contains)], cnsOf [], [], 23, (fun x => if x = 1 then some [0, 1] else none), (fun x => if x = 0 then some [0] else if x = 1 then some [0, 1] else none), some [4]⟩, fun _ => none, fun _ => none, fun _ => []⟩
noncomputable def C_bytes_trimRightASCII : Code := Tryd.f32.body.getD .skip
noncomputable def R_bytes_trimRightASCII : Array ResultVar := Tryd.f32.results
theorem bytes_trimRightASCII_l1_ok (K : Ex → Fr → Option AV) : ∀ (n : Nat) (s0 : List UInt8) (as1 : List Bool), evLP E_bytes_trimRightASCII n (sub C_bytes_trimRightASCII [1, 0, 0, 0]) K (frOf [(0, (.dat (.sl .byte) s0 none)), (1, (.adr (.arr 256 .bool) as1))]) = bytes_trimRightASCII_l1 (fun s0 => K (.exit 0) (frOf [(0, (.dat (.sl .byte) s0 none))])) n s0 as1 := by
  intro n
  induction n with
  | zero => intros; rfl
  | succ n IH =>
  intro s0 as1
  have ih : (fun s0 as1 => evLP E_bytes_trimRightASCII n (sub C_bytes_trimRightASCII [1, 0, 0, 0]) K (frOf [(0, (.dat (.sl .byte) s0 none)), (1, (.adr (.arr 256 .bool) as1))])) = bytes_trimRightASCII_l1 (fun s0 => K (.exit 0) (frOf [(0, (.dat (.sl .byte) s0 none))])) n := by
    funext s0 as1
    exact IH s0 as1
  show _ = bytes_trimRightASCII_l1_b (fun s0 => K (.exit 0) (frOf [(0, (.dat (.sl .byte) s0 none))])) (bytes_trimRightASCII_l1 (fun s0 => K (.exit 0) (frOf [(0, (.dat (.sl .byte) s0 none))])) n) n s0 as1
  rw [← ih]
  kernel_rfl
theorem bytes_trimRightASCII_k1_0_ok (n : Nat) (s0 : List UInt8) : (kBlockP 0 (E_bytes_trimRightASCII.cutb 0) (kSeq (evCP E_bytes_trimRightASCII (evLP E_bytes_trimRightASCII n) (sub C_bytes_trimRightASCII [1, 1])) (kFnP E_bytes_trimRightASCII R_bytes_trimRightASCII))) (.exit 0) (frOf [(0, (.dat (.sl .byte) s0 none))]) = bytes_trimRightASCII_k1_0 n s0 := by
  kernel_rfl
theorem bytes_trimRightASCII_ev (n : Nat) (s0 : List UInt8) (o0 : Lab) (as1 : List Bool) : evFnP E_bytes_trimRightASCII n C_bytes_trimRightASCII R_bytes_trimRightASCII [.dat (.sl .byte) s0 o0, .adr (.arr 256 .bool) as1] = bytes_trimRightASCII_sh n s0 as1 := by
  unfold bytes_trimRightASCII_sh
  rw [show bytes_trimRightASCII_l1 (bytes_trimRightASCII_k1_0 n) n = (fun s0 as1 => evLP E_bytes_trimRightASCII n (sub C_bytes_trimRightASCII [1, 0, 0, 0]) (kBlockP 0 (E_bytes_trimRightASCII.cutb 0) (kSeq (evCP E_bytes_trimRightASCII (evLP E_bytes_trimRightASCII n) (sub C_bytes_trimRightASCII [1, 1])) (kFnP E_bytes_trimRightASCII R_bytes_trimRightASCII))) (frOf [(0, (.dat (.sl .byte) s0 none)), (1, (.adr (.arr 256 .bool) as1))])) from by
    funext s0 as1
    refine Eq.trans ?_ (bytes_trimRightASCII_l1_ok (kBlockP 0 (E_bytes_trimRightASCII.cutb 0) (kSeq (evCP E_bytes_trimRightASCII (evLP E_bytes_trimRightASCII n) (sub C_bytes_trimRightASCII [1, 1])) (kFnP E_bytes_trimRightASCII R_bytes_trimRightASCII))) n s0 as1).symm
    rw [show (fun s0 => (kBlockP 0 (E_bytes_trimRightASCII.cutb 0) (kSeq (evCP E_bytes_trimRightASCII (evLP E_bytes_trimRightASCII n) (sub C_bytes_trimRightASCII [1, 1])) (kFnP E_bytes_trimRightASCII R_bytes_trimRightASCII))) (.exit 0) (frOf [(0, (.dat (.sl .byte) s0 none))])) = (bytes_trimRightASCII_k1_0 n) from by
      funext s0
      exact bytes_trimRightASCII_k1_0_ok n s0]
    all_goals kernel_rfl]
  kernel_rfl
theorem bytes_trimRightASCII_sound : SoundG G Tryd.prog 32 s_bytes_trimRightASCII := by
  refine sound_of_evP' G_stays (E := E_bytes_trimRightASCII) (fn := Tryd.f32) (c := C_bytes_trimRightASCII) (tyOk_of_table rfl tis_ok) (fun w S hg => ⟨⟨(fns_cons (__bytes_asciiSet__contains_sound w S hg) fns_nil), fun f sp h => cns_nil f sp h w S⟩, gl_none w S hg⟩) follows Tryd.func32 (by kernel_rfl) (by kernel_rfl) (by kernel_rfl) ?_
  intro avs r h
  unfold s_bytes_trimRightASCII at h
  split at h
  · simp only [Prod.mk.injEq] at h
    obtain ⟨hp, rfl⟩ := h
    obtain ⟨n, hn⟩ := bytes_trimRightASCII_math _ _ hp
    exact ⟨n, _, (bytes_trimRightASCII_ev n _ _ _).trans hn, .inl rfl⟩
  · cases h

/-! bytes.Trim -/

noncomputable def E_bytes_Trim : EnvP := ⟨⟨tiOf tis, fnsOf [(28, s_bytes_trimLeftByte), (29, s_bytes_trimRightByte), (30, s_bytes_makeASCIISet), (31, s_bytes_trimLeftASCII), (32, s_bytes_trimRightASCII), (33, s_bytes_trimLeftUnicode), (34, s_bytes_trimRightUnicode)], cnsOf [], [], 42, (fun _ => none), (fun _ => none), some [1000004]⟩, fun _ => none, fun _ => none, (fun x => if x = 500009 then [5] else [])⟩
noncomputable def C_bytes_Trim : Code := Tryd.f22.body.getD .skip
noncomputable def R_bytes_Trim : Array ResultVar := Tryd.f22.results
theorem bytes_Trim_ev (n : Nat) (s0 : List UInt8) (o0 : Lab) (cutset1 : List UInt8) (o1 : Lab) : evFnP E_bytes_Trim n C_bytes_Trim R_bytes_Trim [.dat (.sl .byte) s0 o0, .dat .str cutset1 o1] = bytes_Trim_sh n s0 cutset1 := by
  kernel_rfl
theorem bytes_Trim_sound : SoundG G Tryd.prog 22 s_bytes_Trim := by
  refine sound_of_evP' G_stays (E := E_bytes_Trim) (fn := Tryd.f22) (c := C_bytes_Trim) (tyOk_of_table rfl tis_ok) (fun w S hg => ⟨⟨(fns_cons (bytes_trimLeftByte_sound w S hg) (fns_cons (bytes_trimRightByte_sound w S hg) (fns_cons (bytes_makeASCIISet_sound w S hg) (fns_cons (bytes_trimLeftASCII_sound w S hg) (fns_cons (bytes_trimRightASCII_sound w S hg) (fns_cons (bytes_trimLeftUnicode_sound w S hg) (fns_cons (bytes_trimRightUnicode_sound w S hg) fns_nil))))))), fun f sp h => cns_nil f sp h w S⟩, gl_none w S hg⟩) follows Tryd.func22 (by kernel_rfl) (by kernel_rfl) (by kernel_rfl) ?_
  intro avs r h
  unfold s_bytes_Trim at h
  split at h
  · simp only [Prod.mk.injEq] at h
    obtain ⟨hp, rfl⟩ := h
    obtain ⟨n, hn⟩ := bytes_Trim_math _ _ hp
    exact ⟨n, _, (bytes_Trim_ev n _ _ _ _).trans hn, .inl rfl⟩
  · cases h

/-! bytes.TrimLeft -/

noncomputable def E_bytes_TrimLeft : EnvP := ⟨⟨tiOf tis, fnsOf [(28, s_bytes_trimLeftByte), (30, s_bytes_makeASCIISet), (31, s_bytes_trimLeftASCII), (33, s_bytes_trimLeftUnicode)], cnsOf [], [], 36, (fun _ => none), (fun _ => none), some [1000004]⟩, fun _ => none, fun _ => none, (fun x => if x = 500009 then [5] else [])⟩
noncomputable def C_bytes_TrimLeft : Code := Tryd.f26.body.getD .skip
noncomputable def R_bytes_TrimLeft : Array ResultVar := Tryd.f26.results
theorem bytes_TrimLeft_ev (n : Nat) (s0 : List UInt8) (o0 : Lab) (cutset1 : List UInt8) (o1 : Lab) : evFnP E_bytes_TrimLeft n C_bytes_TrimLeft R_bytes_TrimLeft [.dat (.sl .byte) s0 o0, .dat .str cutset1 o1] = bytes_TrimLeft_sh n s0 cutset1 := by
  kernel_rfl
theorem bytes_TrimLeft_sound : SoundG G Tryd.prog 26 s_bytes_TrimLeft := by
  refine sound_of_evP' G_stays (E := E_bytes_TrimLeft) (fn := Tryd.f26) (c := C_bytes_TrimLeft) (tyOk_of_table rfl tis_ok) (fun w S hg => ⟨⟨(fns_cons (bytes_trimLeftByte_sound w S hg) (fns_cons (bytes_makeASCIISet_sound w S hg) (fns_cons (bytes_trimLeftASCII_sound w S hg) (fns_cons (bytes_trimLeftUnicode_sound w S hg) fns_nil)))), fun f sp h => cns_nil f sp h w S⟩, gl_none w S hg⟩) follows Tryd.func26 (by kernel_rfl) (by kernel_rfl) (by kernel_rfl) ?_
  intro avs r h
  unfold s_bytes_TrimLeft at h
  split at h
  · simp only [Prod.mk.injEq] at h
    obtain ⟨hp, rfl⟩ := h
    obtain ⟨n, hn⟩ := bytes_TrimLeft_math _ _ hp
    exact ⟨n, _, (bytes_TrimLeft_ev n _ _ _ _).trans hn, .inl rfl⟩
  · cases h

/-! sheave/sheaveref01.Like -/

noncomputable def E_ref01_Like : EnvP := ⟨⟨tiOf tis, fnsOf [], cnsOf [], [], 26, (fun x => if x = 4 then some [0, 1, 5] else none), (fun x => if x = 0 then some [] else if x = 1 then some [0, 1, 5] else none), some [4]⟩, fun _ => none, fun _ => none, fun _ => []⟩
noncomputable def C_ref01_Like : Code := Tryd.f9.body.getD .skip
noncomputable def R_ref01_Like : Array ResultVar := Tryd.f9.results
theorem ref01_Like_l4_ok (K : Ex → Fr → Option AV) : ∀ (n : Nat) (a0 : List UInt8) (b1 : List UInt8) (i5 : Int), evLP E_ref01_Like n (sub C_ref01_Like [1, 1, 0, 1, 0, 0]) K (frOf [(0, (.dat (.sl .byte) a0 none)), (1, (.dat (.sl .byte) b1 none)), (5, (.dat (.int .i64) i5 none))]) = ref01_Like_l4 (fun s4 => K .ret (frOf [(4, (.dat .bool s4 none))])) (K (.exit 0) (frOf [])) n a0 b1 i5 := by
  intro n
  induction n with
  | zero => intros; rfl
  | succ n IH =>
  intro a0 b1 i5
  have ih : (fun a0 b1 i5 => evLP E_ref01_Like n (sub C_ref01_Like [1, 1, 0, 1, 0, 0]) K (frOf [(0, (.dat (.sl .byte) a0 none)), (1, (.dat (.sl .byte) b1 none)), (5, (.dat (.int .i64) i5 none))])) = ref01_Like_l4 (fun s4 => K .ret (frOf [(4, (.dat .bool s4 none))])) (K (.exit 0) (frOf [])) n := by
    funext a0 b1 i5
    exact IH a0 b1 i5
  show _ = ref01_Like_l4_b (fun s4 => K .ret (frOf [(4, (.dat .bool s4 none))])) (K (.exit 0) (frOf [])) (ref01_Like_l4 (fun s4 => K .ret (frOf [(4, (.dat .bool s4 none))])) (K (.exit 0) (frOf [])) n) n a0 b1 i5
  rw [← ih]
  kernel_rfl
theorem ref01_Like_k4_0_ok (n : Nat)  : (kBlockP 0 (E_ref01_Like.cutb 0) (kSeq (evCP E_ref01_Like (evLP E_ref01_Like n) (sub C_ref01_Like [1, 1, 1])) (kFnP E_ref01_Like R_ref01_Like))) (.exit 0) (frOf []) = ref01_Like_k4_0 n  := by
  kernel_rfl
theorem ref01_Like_ev (n : Nat) (a0 : List UInt8) (o0 : Lab) (b1 : List UInt8) (o1 : Lab) : evFnP E_ref01_Like n C_ref01_Like R_ref01_Like [.dat (.sl .byte) a0 o0, .dat (.sl .byte) b1 o1] = ref01_Like_sh n a0 b1 := by
  unfold ref01_Like_sh
  rw [show ref01_Like_l4 ref01_Like_ret (ref01_Like_k4_0 n) n = (fun a0 b1 i5 => evLP E_ref01_Like n (sub C_ref01_Like [1, 1, 0, 1, 0, 0]) (kBlockP 0 (E_ref01_Like.cutb 0) (kSeq (evCP E_ref01_Like (evLP E_ref01_Like n) (sub C_ref01_Like [1, 1, 1])) (kFnP E_ref01_Like R_ref01_Like))) (frOf [(0, (.dat (.sl .byte) a0 none)), (1, (.dat (.sl .byte) b1 none)), (5, (.dat (.int .i64) i5 none))])) from by
    funext a0 b1 i5
    refine Eq.trans ?_ (ref01_Like_l4_ok (kBlockP 0 (E_ref01_Like.cutb 0) (kSeq (evCP E_ref01_Like (evLP E_ref01_Like n) (sub C_ref01_Like [1, 1, 1])) (kFnP E_ref01_Like R_ref01_Like))) n a0 b1 i5).symm
    rw [show ((kBlockP 0 (E_ref01_Like.cutb 0) (kSeq (evCP E_ref01_Like (evLP E_ref01_Like n) (sub C_ref01_Like [1, 1, 1])) (kFnP E_ref01_Like R_ref01_Like))) (.exit 0) (frOf [])) = (ref01_Like_k4_0 n) from by
      exact ref01_Like_k4_0_ok n ]
    all_goals kernel_rfl]
  kernel_rfl
theorem ref01_Like_sound : SoundG G Tryd.prog 9 s_ref01_Like := by
  refine sound_of_evP' G_stays (E := E_ref01_Like) (fn := Tryd.f9) (c := C_ref01_Like) (tyOk_of_table rfl tis_ok) (fun w S hg => ⟨⟨fns_nil, fun f sp h => cns_nil f sp h w S⟩, gl_none w S hg⟩) follows Tryd.func9 (by kernel_rfl) (by kernel_rfl) (by kernel_rfl) ?_
  intro avs r h
  unfold s_ref01_Like at h
  split at h
  · simp only [Prod.mk.injEq] at h
    obtain ⟨hp, rfl⟩ := h
    obtain ⟨n, hn⟩ := ref01_Like_math _ _ hp
    exact ⟨n, _, (ref01_Like_ev n _ _ _ _).trans hn, .inl rfl⟩
  · cases h

end Go.Av
