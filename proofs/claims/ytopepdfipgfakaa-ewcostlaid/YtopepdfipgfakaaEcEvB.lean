import Derived.Test.YtopepdfipgfakaaEcEvA
import Derived.Test.YtopepdfipgfakaaEcN
import Derived.Test.YtopepdfipgfakaaProg
import Derived.KernelRfl
namespace Go.Av
open Go.Proofs
set_option maxRecDepth 100000
set_option linter.unusedVariables false
/-! sheave/sheaveref02.Digit -/

noncomputable def E_ref02_Digit : EnvP := ⟨⟨tiOf tis, fnsOf [], cnsOf [], [], 17, (fun _ => none), (fun _ => none), some [2]⟩, fun _ => none, fun _ => none, fun _ => [], fun _ => none⟩
noncomputable def C_ref02_Digit : Code := Try.f72.body.getD .skip
noncomputable def R_ref02_Digit : Array ResultVar := Try.f72.results
theorem ref02_Digit_ev (n : Nat) (n0 : Int) (o0 : Lab) : evFnP E_ref02_Digit n C_ref02_Digit R_ref02_Digit [.dat (.int .i64) n0 o0] = ref02_Digit_sh n n0 := by
  kernel_rfl
theorem ref02_Digit_sound : SoundG G Try.prog 72 s_ref02_Digit := by
  refine sound_of_evP' G_stays (E := E_ref02_Digit) (fn := Try.f72) (c := C_ref02_Digit) (tyOk_of_table rfl tis_ok) (fun w S hg => ⟨⟨fns_nil, fun f sp h => cns_nil f sp h w S⟩, gl_none w S hg, fun _ _ h => by cases h⟩) follows Try.func72 (by kernel_rfl) (by kernel_rfl) (by kernel_rfl) ?_
  intro avs r h
  unfold s_ref02_Digit at h
  split at h
  · simp only [Prod.mk.injEq] at h
    obtain ⟨hp, rfl⟩ := h
    obtain ⟨n, hn⟩ := ref02_Digit_math _ hp
    exact ⟨n, _, (ref02_Digit_ev n _ _).trans hn, .inl rfl⟩
  · cases h

/-! sheave/winone.others -/

noncomputable def E_winone_others : EnvP := ⟨⟨tiOf tis, fnsOf [], cnsOf [], [], 4, (fun _ => none), (fun _ => none), some [0]⟩, fun _ => none, fun _ => none, (fun x => if x = 500002 then [1] else []), fun _ => none⟩
noncomputable def C_winone_others : Code := Try.f82.body.getD .skip
noncomputable def R_winone_others : Array ResultVar := Try.f82.results
theorem winone_others_ev (n : Nat)  : evFnP E_winone_others n C_winone_others R_winone_others [] = winone_others_sh n  := by
  kernel_rfl
theorem winone_others_sound : SoundG G Try.prog 82 s_winone_others := by
  refine sound_of_evP' G_stays (E := E_winone_others) (fn := Try.f82) (c := C_winone_others) (tyOk_of_table rfl tis_ok) (fun w S hg => ⟨⟨fns_nil, fun f sp h => cns_nil f sp h w S⟩, gl_none w S hg, fun _ _ h => by cases h⟩) follows Try.func82 (by kernel_rfl) (by kernel_rfl) (by kernel_rfl) ?_
  intro avs r h
  unfold s_winone_others at h
  split at h
  · simp only [Prod.mk.injEq, true_and] at h
    subst h
    obtain ⟨n, hn⟩ := winone_others_math 
    exact ⟨n, _, (winone_others_ev n ).trans hn, .inl rfl⟩
  · cases h

/-! sheave/winone.Put -/

noncomputable def E_winone_Put : EnvP := ⟨⟨tiOf tis, fnsOf [(81, s_slices_Index___rune_rune_), (82, s_winone_others)], cnsOf [], [], 31, (fun _ => none), (fun x => if x = 0 then some [0] else none), some [2, 3]⟩, fun _ => none, fun _ => none, fun _ => [], fun _ => none⟩
noncomputable def C_winone_Put : Code := Try.f67.body.getD .skip
noncomputable def R_winone_Put : Array ResultVar := Try.f67.results
theorem winone_Put_ev (n : Nat) (c0 : Int) (o0 : Lab) : evFnP E_winone_Put n C_winone_Put R_winone_Put [.dat (.int .i32) c0 o0] = winone_Put_sh n c0 := by
  kernel_rfl
theorem winone_Put_sound : SoundG G Try.prog 67 s_winone_Put := by
  refine sound_of_evP' G_stays (E := E_winone_Put) (fn := Try.f67) (c := C_winone_Put) (tyOk_of_table rfl tis_ok) (fun w S hg => ⟨⟨(fns_cons (slices_Index___rune_rune__sound w S hg) (fns_cons (winone_others_sound w S hg) fns_nil)), fun f sp h => cns_nil f sp h w S⟩, gl_none w S hg, fun _ _ h => by cases h⟩) follows Try.func67 (by kernel_rfl) (by kernel_rfl) (by kernel_rfl) ?_
  intro avs r h
  unfold s_winone_Put at h
  split at h
  · simp only [Prod.mk.injEq, true_and] at h
    subst h
    obtain ⟨n, hn⟩ := winone_Put_math _
    exact ⟨n, _, (winone_Put_ev n _ _).trans hn, .inl rfl⟩
  · cases h

/-! sheave/winone.Has -/

noncomputable def E_winone_Has : EnvP := ⟨⟨tiOf tis, fnsOf [(67, s_winone_Put)], cnsOf [], [], 11, (fun _ => none), (fun _ => none), some [2]⟩, fun _ => none, fun _ => none, fun _ => [], fun _ => none⟩
noncomputable def C_winone_Has : Code := Try.f80.body.getD .skip
noncomputable def R_winone_Has : Array ResultVar := Try.f80.results
theorem winone_Has_ev (n : Nat) (c0 : Int) (o0 : Lab) : evFnP E_winone_Has n C_winone_Has R_winone_Has [.dat (.int .i32) c0 o0] = winone_Has_sh n c0 := by
  kernel_rfl
theorem winone_Has_sound : SoundG G Try.prog 80 s_winone_Has := by
  refine sound_of_evP' G_stays (E := E_winone_Has) (fn := Try.f80) (c := C_winone_Has) (tyOk_of_table rfl tis_ok) (fun w S hg => ⟨⟨(fns_cons (winone_Put_sound w S hg) fns_nil), fun f sp h => cns_nil f sp h w S⟩, gl_none w S hg, fun _ _ h => by cases h⟩) follows Try.func80 (by kernel_rfl) (by kernel_rfl) (by kernel_rfl) ?_
  intro avs r h
  unfold s_winone_Has at h
  split at h
  · simp only [Prod.mk.injEq, true_and] at h
    subst h
    obtain ⟨n, hn⟩ := winone_Has_math _
    exact ⟨n, _, (winone_Has_ev n _ _).trans hn, .inl rfl⟩
  · cases h

/-! sheave/latin.Has -/

noncomputable def E_latin_Has : EnvP := ⟨⟨tiOf tis, fnsOf [], cnsOf [], [], 6, (fun _ => none), (fun _ => none), some [2]⟩, fun _ => none, fun _ => none, fun _ => [], fun _ => none⟩
noncomputable def C_latin_Has : Code := Try.f83.body.getD .skip
noncomputable def R_latin_Has : Array ResultVar := Try.f83.results
theorem latin_Has_ev (n : Nat) (c0 : Int) (o0 : Lab) : evFnP E_latin_Has n C_latin_Has R_latin_Has [.dat (.int .i32) c0 o0] = latin_Has_sh n c0 := by
  kernel_rfl
theorem latin_Has_sound : SoundG G Try.prog 83 s_latin_Has := by
  refine sound_of_evP' G_stays (E := E_latin_Has) (fn := Try.f83) (c := C_latin_Has) (tyOk_of_table rfl tis_ok) (fun w S hg => ⟨⟨fns_nil, fun f sp h => cns_nil f sp h w S⟩, gl_none w S hg, fun _ _ h => by cases h⟩) follows Try.func83 (by kernel_rfl) (by kernel_rfl) (by kernel_rfl) ?_
  intro avs r h
  unfold s_latin_Has at h
  split at h
  · simp only [Prod.mk.injEq, true_and] at h
    subst h
    obtain ⟨n, hn⟩ := latin_Has_math _
    exact ⟨n, _, (latin_Has_ev n _ _).trans hn, .inl rfl⟩
  · cases h

/-! sheave/latnine.others -/

noncomputable def E_latnine_others : EnvP := ⟨⟨tiOf tis, fnsOf [], cnsOf [], [], 10, (fun _ => none), (fun _ => none), some [0]⟩, fun _ => none, fun _ => none, fun _ => [], fun _ => none⟩
noncomputable def C_latnine_others : Code := Try.f79.body.getD .skip
noncomputable def R_latnine_others : Array ResultVar := Try.f79.results
theorem latnine_others_ev (n : Nat)  : evFnP E_latnine_others n C_latnine_others R_latnine_others [] = latnine_others_sh n  := by
  kernel_rfl
theorem latnine_others_sound : SoundG G Try.prog 79 s_latnine_others := by
  refine sound_of_evP' G_stays (E := E_latnine_others) (fn := Try.f79) (c := C_latnine_others) (tyOk_of_table rfl tis_ok) (fun w S hg => ⟨⟨fns_nil, fun f sp h => cns_nil f sp h w S⟩, gl_none w S hg, fun _ _ h => by cases h⟩) follows Try.func79 (by kernel_rfl) (by kernel_rfl) (by kernel_rfl) ?_
  intro avs r h
  unfold s_latnine_others at h
  split at h
  · simp only [Prod.mk.injEq, true_and] at h
    subst h
    obtain ⟨n, hn⟩ := latnine_others_math 
    exact ⟨n, _, (latnine_others_ev n ).trans hn, .inl rfl⟩
  · cases h

/-! sheave/latnine.Put -/

noncomputable def E_latnine_Put : EnvP := ⟨⟨tiOf tis, fnsOf [(79, s_latnine_others)], cnsOf [], [], 31, (fun x => if x = 2 then some [0, 6, 7] else none), (fun x => if x = 0 then some [0] else if x = 1 then some [0, 6, 7] else if x = 2 then some [0, 6, 7] else none), some [2, 3]⟩, fun _ => none, fun _ => none, fun _ => [], fun _ => none⟩
noncomputable def C_latnine_Put : Code := Try.f65.body.getD .skip
noncomputable def R_latnine_Put : Array ResultVar := Try.f65.results
theorem latnine_Put_l2_ok (K : Ex → Fr → Option AV) : ∀ (n : Nat) (c0 : Int) (s6 : List (UInt8 × (Int × Unit))) (s7 : Int), evLP E_latnine_Put n (sub C_latnine_Put [1, 0, 1, 0, 0]) K (frOf [(0, (.dat (.int .i32) c0 none)), (6, (.dat (.arr 8 (.pair .byte (.pair (.int .i32) .unit))) s6 none)), (7, (.dat (.int .i64) s7 none))]) = latnine_Put_l2 (fun s2 s3 => K .ret (frOf [(2, (.dat .byte s2 none)), (3, (.dat .bool s3 none))])) (fun c0 => K (.exit 0) (frOf [(0, (.dat (.int .i32) c0 none))])) n c0 s6 s7 := by
  intro n
  induction n with
  | zero => intros; rfl
  | succ n IH =>
  intro c0 s6 s7
  have ih : (fun c0 s6 s7 => evLP E_latnine_Put n (sub C_latnine_Put [1, 0, 1, 0, 0]) K (frOf [(0, (.dat (.int .i32) c0 none)), (6, (.dat (.arr 8 (.pair .byte (.pair (.int .i32) .unit))) s6 none)), (7, (.dat (.int .i64) s7 none))])) = latnine_Put_l2 (fun s2 s3 => K .ret (frOf [(2, (.dat .byte s2 none)), (3, (.dat .bool s3 none))])) (fun c0 => K (.exit 0) (frOf [(0, (.dat (.int .i32) c0 none))])) n := by
    funext c0 s6 s7
    exact IH c0 s6 s7
  show _ = latnine_Put_l2_b (fun s2 s3 => K .ret (frOf [(2, (.dat .byte s2 none)), (3, (.dat .bool s3 none))])) (fun c0 => K (.exit 0) (frOf [(0, (.dat (.int .i32) c0 none))])) (latnine_Put_l2 (fun s2 s3 => K .ret (frOf [(2, (.dat .byte s2 none)), (3, (.dat .bool s3 none))])) (fun c0 => K (.exit 0) (frOf [(0, (.dat (.int .i32) c0 none))])) n) n c0 s6 s7
  rw [← ih]
  kernel_rfl
theorem latnine_Put_k2_0_ok (n : Nat) (c0 : Int) : (kBlockP 0 (E_latnine_Put.cutb 0) (kSeq (evCP E_latnine_Put (evLP E_latnine_Put n) (sub C_latnine_Put [1, 1])) (kFnP E_latnine_Put R_latnine_Put))) (.exit 0) (frOf [(0, (.dat (.int .i32) c0 none))]) = latnine_Put_k2_0 n c0 := by
  kernel_rfl
theorem latnine_Put_ev (n : Nat) (c0 : Int) (o0 : Lab) : evFnP E_latnine_Put n C_latnine_Put R_latnine_Put [.dat (.int .i32) c0 o0] = latnine_Put_sh n c0 := by
  unfold latnine_Put_sh
  rw [show latnine_Put_l2 latnine_Put_ret (latnine_Put_k2_0 n) n = (fun c0 s6 s7 => evLP E_latnine_Put n (sub C_latnine_Put [1, 0, 1, 0, 0]) (kBlockP 0 (E_latnine_Put.cutb 0) (kSeq (evCP E_latnine_Put (evLP E_latnine_Put n) (sub C_latnine_Put [1, 1])) (kFnP E_latnine_Put R_latnine_Put))) (frOf [(0, (.dat (.int .i32) c0 none)), (6, (.dat (.arr 8 (.pair .byte (.pair (.int .i32) .unit))) s6 none)), (7, (.dat (.int .i64) s7 none))])) from by
    funext c0 s6 s7
    refine Eq.trans ?_ (latnine_Put_l2_ok (kBlockP 0 (E_latnine_Put.cutb 0) (kSeq (evCP E_latnine_Put (evLP E_latnine_Put n) (sub C_latnine_Put [1, 1])) (kFnP E_latnine_Put R_latnine_Put))) n c0 s6 s7).symm
    rw [show (fun c0 => (kBlockP 0 (E_latnine_Put.cutb 0) (kSeq (evCP E_latnine_Put (evLP E_latnine_Put n) (sub C_latnine_Put [1, 1])) (kFnP E_latnine_Put R_latnine_Put))) (.exit 0) (frOf [(0, (.dat (.int .i32) c0 none))])) = (latnine_Put_k2_0 n) from by
      funext c0
      exact latnine_Put_k2_0_ok n c0]
    all_goals kernel_rfl]
  kernel_rfl
theorem latnine_Put_sound : SoundG G Try.prog 65 s_latnine_Put := by
  refine sound_of_evP' G_stays (E := E_latnine_Put) (fn := Try.f65) (c := C_latnine_Put) (tyOk_of_table rfl tis_ok) (fun w S hg => ⟨⟨(fns_cons (latnine_others_sound w S hg) fns_nil), fun f sp h => cns_nil f sp h w S⟩, gl_none w S hg, fun _ _ h => by cases h⟩) follows Try.func65 (by kernel_rfl) (by kernel_rfl) (by kernel_rfl) ?_
  intro avs r h
  unfold s_latnine_Put at h
  split at h
  · simp only [Prod.mk.injEq, true_and] at h
    subst h
    obtain ⟨n, hn⟩ := latnine_Put_math _
    exact ⟨n, _, (latnine_Put_ev n _ _).trans hn, .inl rfl⟩
  · cases h

/-! sheave/latnine.Has -/

noncomputable def E_latnine_Has : EnvP := ⟨⟨tiOf tis, fnsOf [(65, s_latnine_Put)], cnsOf [], [], 11, (fun _ => none), (fun _ => none), some [2]⟩, fun _ => none, fun _ => none, fun _ => [], fun _ => none⟩
noncomputable def C_latnine_Has : Code := Try.f86.body.getD .skip
noncomputable def R_latnine_Has : Array ResultVar := Try.f86.results
theorem latnine_Has_ev (n : Nat) (c0 : Int) (o0 : Lab) : evFnP E_latnine_Has n C_latnine_Has R_latnine_Has [.dat (.int .i32) c0 o0] = latnine_Has_sh n c0 := by
  kernel_rfl
theorem latnine_Has_sound : SoundG G Try.prog 86 s_latnine_Has := by
  refine sound_of_evP' G_stays (E := E_latnine_Has) (fn := Try.f86) (c := C_latnine_Has) (tyOk_of_table rfl tis_ok) (fun w S hg => ⟨⟨(fns_cons (latnine_Put_sound w S hg) fns_nil), fun f sp h => cns_nil f sp h w S⟩, gl_none w S hg, fun _ _ h => by cases h⟩) follows Try.func86 (by kernel_rfl) (by kernel_rfl) (by kernel_rfl) ?_
  intro avs r h
  unfold s_latnine_Has at h
  split at h
  · simp only [Prod.mk.injEq, true_and] at h
    subst h
    obtain ⟨n, hn⟩ := latnine_Has_math _
    exact ⟨n, _, (latnine_Has_ev n _ _).trans hn, .inl rfl⟩
  · cases h

/-! sheave/reper.Has -/

noncomputable def E_reper_Has : EnvP := ⟨⟨tiOf tis, fnsOf [(80, s_winone_Has), (83, s_latin_Has), (86, s_latnine_Has), (87, s_scalar_Is)], cnsOf [], [], 30, (fun _ => none), (fun x => if x = 0 then some [] else none), some [4]⟩, fun _ => none, fun _ => none, fun _ => [], fun _ => none⟩
noncomputable def C_reper_Has : Code := Try.f74.body.getD .skip
noncomputable def R_reper_Has : Array ResultVar := Try.f74.results
theorem reper_Has_ev (n : Nat) (charset0 : Int) (o0 : Lab) (c1 : Int) (o1 : Lab) : evFnP E_reper_Has n C_reper_Has R_reper_Has [.dat (.int .i64) charset0 o0, .dat (.int .i32) c1 o1] = reper_Has_sh n charset0 c1 := by
  kernel_rfl
theorem reper_Has_sound : SoundG G Try.prog 74 s_reper_Has := by
  refine sound_of_evP' G_stays (E := E_reper_Has) (fn := Try.f74) (c := C_reper_Has) (tyOk_of_table rfl tis_ok) (fun w S hg => ⟨⟨(fns_cons (winone_Has_sound w S hg) (fns_cons (latin_Has_sound w S hg) (fns_cons (latnine_Has_sound w S hg) (fns_cons (scalar_Is_sound w S hg) fns_nil)))), fun f sp h => cns_nil f sp h w S⟩, gl_none w S hg, fun _ _ h => by cases h⟩) follows Try.func74 (by kernel_rfl) (by kernel_rfl) (by kernel_rfl) ?_
  intro avs r h
  unfold s_reper_Has at h
  split at h
  · simp only [Prod.mk.injEq, true_and] at h
    subst h
    obtain ⟨n, hn⟩ := reper_Has_math _ _
    exact ⟨n, _, (reper_Has_ev n _ _ _ _).trans hn, .inl rfl⟩
  · cases h

/-! sheave/sheaveref03.Surrogate -/

noncomputable def E_ref03_Surrogate : EnvP := ⟨⟨tiOf tis, fnsOf [], cnsOf [], [], 9, (fun _ => none), (fun _ => none), some [2]⟩, fun _ => none, fun _ => none, fun _ => [], fun _ => none⟩
noncomputable def C_ref03_Surrogate : Code := Try.f73.body.getD .skip
noncomputable def R_ref03_Surrogate : Array ResultVar := Try.f73.results
theorem ref03_Surrogate_ev (n : Nat) (c0 : Int) (o0 : Lab) : evFnP E_ref03_Surrogate n C_ref03_Surrogate R_ref03_Surrogate [.dat (.int .i32) c0 o0] = ref03_Surrogate_sh n c0 := by
  kernel_rfl
theorem ref03_Surrogate_sound : SoundG G Try.prog 73 s_ref03_Surrogate := by
  refine sound_of_evP' G_stays (E := E_ref03_Surrogate) (fn := Try.f73) (c := C_ref03_Surrogate) (tyOk_of_table rfl tis_ok) (fun w S hg => ⟨⟨fns_nil, fun f sp h => cns_nil f sp h w S⟩, gl_none w S hg, fun _ _ h => by cases h⟩) follows Try.func73 (by kernel_rfl) (by kernel_rfl) (by kernel_rfl) ?_
  intro avs r h
  unfold s_ref03_Surrogate at h
  split at h
  · simp only [Prod.mk.injEq, true_and] at h
    subst h
    obtain ⟨n, hn⟩ := ref03_Surrogate_math _
    exact ⟨n, _, (ref03_Surrogate_ev n _ _).trans hn, .inl rfl⟩
  · cases h

/-! sheave/sheaveref01.Kinds -/

noncomputable def E_ref01_Kinds : EnvP := ⟨⟨tiOf tis, fnsOf [(85, s_ref01_has)], cnsOf [], [], 104, (fun _ => none), (fun _ => none), some [2]⟩, fun _ => none, fun _ => none, fun _ => [], fun _ => none⟩
noncomputable def C_ref01_Kinds : Code := Try.f71.body.getD .skip
noncomputable def R_ref01_Kinds : Array ResultVar := Try.f71.results
def resI : Option AV → Int → Bool
  | some (.dat (.int .i64) x none), v => x == v
  | _, _ => false
theorem resI_ok {o : Option AV} {v : Int} (h : resI o v = true) : o = some (.dat (.int .i64) v none) := by
  unfold resI at h
  split at h
  · simp only [beq_iff_eq] at h
    subst h
    rfl
  · cases h
theorem ref01_Kinds_0 : ∀ i : Fin 16, resI (evFnP E_ref01_Kinds 1 C_ref01_Kinds R_ref01_Kinds [.dat .byte (UInt8.ofNat (0 + i.val)) none]) (ref01_Kinds (UInt8.ofNat (0 + i.val))) = true := by decide +kernel
theorem ref01_Kinds_1 : ∀ i : Fin 16, resI (evFnP E_ref01_Kinds 1 C_ref01_Kinds R_ref01_Kinds [.dat .byte (UInt8.ofNat (16 + i.val)) none]) (ref01_Kinds (UInt8.ofNat (16 + i.val))) = true := by decide +kernel
theorem ref01_Kinds_2 : ∀ i : Fin 16, resI (evFnP E_ref01_Kinds 1 C_ref01_Kinds R_ref01_Kinds [.dat .byte (UInt8.ofNat (32 + i.val)) none]) (ref01_Kinds (UInt8.ofNat (32 + i.val))) = true := by decide +kernel
theorem ref01_Kinds_3 : ∀ i : Fin 16, resI (evFnP E_ref01_Kinds 1 C_ref01_Kinds R_ref01_Kinds [.dat .byte (UInt8.ofNat (48 + i.val)) none]) (ref01_Kinds (UInt8.ofNat (48 + i.val))) = true := by decide +kernel
theorem ref01_Kinds_4 : ∀ i : Fin 16, resI (evFnP E_ref01_Kinds 1 C_ref01_Kinds R_ref01_Kinds [.dat .byte (UInt8.ofNat (64 + i.val)) none]) (ref01_Kinds (UInt8.ofNat (64 + i.val))) = true := by decide +kernel
theorem ref01_Kinds_5 : ∀ i : Fin 16, resI (evFnP E_ref01_Kinds 1 C_ref01_Kinds R_ref01_Kinds [.dat .byte (UInt8.ofNat (80 + i.val)) none]) (ref01_Kinds (UInt8.ofNat (80 + i.val))) = true := by decide +kernel
theorem ref01_Kinds_6 : ∀ i : Fin 16, resI (evFnP E_ref01_Kinds 1 C_ref01_Kinds R_ref01_Kinds [.dat .byte (UInt8.ofNat (96 + i.val)) none]) (ref01_Kinds (UInt8.ofNat (96 + i.val))) = true := by decide +kernel
theorem ref01_Kinds_7 : ∀ i : Fin 16, resI (evFnP E_ref01_Kinds 1 C_ref01_Kinds R_ref01_Kinds [.dat .byte (UInt8.ofNat (112 + i.val)) none]) (ref01_Kinds (UInt8.ofNat (112 + i.val))) = true := by decide +kernel
theorem ref01_Kinds_8 : ∀ i : Fin 16, resI (evFnP E_ref01_Kinds 1 C_ref01_Kinds R_ref01_Kinds [.dat .byte (UInt8.ofNat (128 + i.val)) none]) (ref01_Kinds (UInt8.ofNat (128 + i.val))) = true := by decide +kernel
theorem ref01_Kinds_9 : ∀ i : Fin 16, resI (evFnP E_ref01_Kinds 1 C_ref01_Kinds R_ref01_Kinds [.dat .byte (UInt8.ofNat (144 + i.val)) none]) (ref01_Kinds (UInt8.ofNat (144 + i.val))) = true := by decide +kernel
theorem ref01_Kinds_10 : ∀ i : Fin 16, resI (evFnP E_ref01_Kinds 1 C_ref01_Kinds R_ref01_Kinds [.dat .byte (UInt8.ofNat (160 + i.val)) none]) (ref01_Kinds (UInt8.ofNat (160 + i.val))) = true := by decide +kernel
theorem ref01_Kinds_11 : ∀ i : Fin 16, resI (evFnP E_ref01_Kinds 1 C_ref01_Kinds R_ref01_Kinds [.dat .byte (UInt8.ofNat (176 + i.val)) none]) (ref01_Kinds (UInt8.ofNat (176 + i.val))) = true := by decide +kernel
theorem ref01_Kinds_12 : ∀ i : Fin 16, resI (evFnP E_ref01_Kinds 1 C_ref01_Kinds R_ref01_Kinds [.dat .byte (UInt8.ofNat (192 + i.val)) none]) (ref01_Kinds (UInt8.ofNat (192 + i.val))) = true := by decide +kernel
theorem ref01_Kinds_13 : ∀ i : Fin 16, resI (evFnP E_ref01_Kinds 1 C_ref01_Kinds R_ref01_Kinds [.dat .byte (UInt8.ofNat (208 + i.val)) none]) (ref01_Kinds (UInt8.ofNat (208 + i.val))) = true := by decide +kernel
theorem ref01_Kinds_14 : ∀ i : Fin 16, resI (evFnP E_ref01_Kinds 1 C_ref01_Kinds R_ref01_Kinds [.dat .byte (UInt8.ofNat (224 + i.val)) none]) (ref01_Kinds (UInt8.ofNat (224 + i.val))) = true := by decide +kernel
theorem ref01_Kinds_15 : ∀ i : Fin 16, resI (evFnP E_ref01_Kinds 1 C_ref01_Kinds R_ref01_Kinds [.dat .byte (UInt8.ofNat (240 + i.val)) none]) (ref01_Kinds (UInt8.ofNat (240 + i.val))) = true := by decide +kernel
theorem ref01_Kinds_all : ∀ i : Fin 256, resI (evFnP E_ref01_Kinds 1 C_ref01_Kinds R_ref01_Kinds [.dat .byte (UInt8.ofNat (i.val)) none]) (ref01_Kinds (UInt8.ofNat (i.val))) = true := fun ⟨i, hi⟩ => by
  rcases (show i / 16 = 0 ∨ i / 16 = 1 ∨ i / 16 = 2 ∨ i / 16 = 3 ∨ i / 16 = 4 ∨ i / 16 = 5 ∨ i / 16 = 6 ∨ i / 16 = 7 ∨ i / 16 = 8 ∨ i / 16 = 9 ∨ i / 16 = 10 ∨ i / 16 = 11 ∨ i / 16 = 12 ∨ i / 16 = 13 ∨ i / 16 = 14 ∨ i / 16 = 15 by omega) with e | e | e | e | e | e | e | e | e | e | e | e | e | e | e | e
  · have h := ref01_Kinds_0 ⟨i - 0, by omega⟩
    have e2 : 0 + (i - 0) = i := by omega
    simp only [e2] at h
    exact h
  · have h := ref01_Kinds_1 ⟨i - 16, by omega⟩
    have e2 : 16 + (i - 16) = i := by omega
    simp only [e2] at h
    exact h
  · have h := ref01_Kinds_2 ⟨i - 32, by omega⟩
    have e2 : 32 + (i - 32) = i := by omega
    simp only [e2] at h
    exact h
  · have h := ref01_Kinds_3 ⟨i - 48, by omega⟩
    have e2 : 48 + (i - 48) = i := by omega
    simp only [e2] at h
    exact h
  · have h := ref01_Kinds_4 ⟨i - 64, by omega⟩
    have e2 : 64 + (i - 64) = i := by omega
    simp only [e2] at h
    exact h
  · have h := ref01_Kinds_5 ⟨i - 80, by omega⟩
    have e2 : 80 + (i - 80) = i := by omega
    simp only [e2] at h
    exact h
  · have h := ref01_Kinds_6 ⟨i - 96, by omega⟩
    have e2 : 96 + (i - 96) = i := by omega
    simp only [e2] at h
    exact h
  · have h := ref01_Kinds_7 ⟨i - 112, by omega⟩
    have e2 : 112 + (i - 112) = i := by omega
    simp only [e2] at h
    exact h
  · have h := ref01_Kinds_8 ⟨i - 128, by omega⟩
    have e2 : 128 + (i - 128) = i := by omega
    simp only [e2] at h
    exact h
  · have h := ref01_Kinds_9 ⟨i - 144, by omega⟩
    have e2 : 144 + (i - 144) = i := by omega
    simp only [e2] at h
    exact h
  · have h := ref01_Kinds_10 ⟨i - 160, by omega⟩
    have e2 : 160 + (i - 160) = i := by omega
    simp only [e2] at h
    exact h
  · have h := ref01_Kinds_11 ⟨i - 176, by omega⟩
    have e2 : 176 + (i - 176) = i := by omega
    simp only [e2] at h
    exact h
  · have h := ref01_Kinds_12 ⟨i - 192, by omega⟩
    have e2 : 192 + (i - 192) = i := by omega
    simp only [e2] at h
    exact h
  · have h := ref01_Kinds_13 ⟨i - 208, by omega⟩
    have e2 : 208 + (i - 208) = i := by omega
    simp only [e2] at h
    exact h
  · have h := ref01_Kinds_14 ⟨i - 224, by omega⟩
    have e2 : 224 + (i - 224) = i := by omega
    simp only [e2] at h
    exact h
  · have h := ref01_Kinds_15 ⟨i - 240, by omega⟩
    have e2 : 240 + (i - 240) = i := by omega
    simp only [e2] at h
    exact h
theorem ref01_Kinds_ev (c : UInt8) (o : Lab) : evFnP E_ref01_Kinds 1 C_ref01_Kinds R_ref01_Kinds [.dat .byte c o] = some (.dat (.int .i64) (ref01_Kinds c) none) := by
  have h : resI (evFnP E_ref01_Kinds 1 C_ref01_Kinds R_ref01_Kinds [.dat .byte c none]) (ref01_Kinds c) = true := fin_of (P := fun c => resI (evFnP E_ref01_Kinds 1 C_ref01_Kinds R_ref01_Kinds [.dat .byte c none]) (ref01_Kinds c) = true) ref01_Kinds_all c
  have e : evFnP E_ref01_Kinds 1 C_ref01_Kinds R_ref01_Kinds [.dat .byte c o] = evFnP E_ref01_Kinds 1 C_ref01_Kinds R_ref01_Kinds [.dat .byte c none] := by
    unfold evFnP
    have : (fun t => (([.dat .byte c o] : List AV).getD t .bad).strip) = fun t => (([.dat .byte c none] : List AV).getD t .bad).strip := by
      funext t
      match t with
      | 0 => rfl
      | t + 1 => rfl
    rw [this]
    rfl
  rw [e]
  exact resI_ok h
theorem ref01_Kinds_sound : SoundG G Try.prog 71 s_ref01_Kinds := by
  refine sound_of_evP' G_stays (E := E_ref01_Kinds) (fn := Try.f71) (c := C_ref01_Kinds) (tyOk_of_table rfl tis_ok) (fun w S hg => ⟨⟨(fns_cons (ref01_has_sound w S hg) fns_nil), fun f sp h => cns_nil f sp h w S⟩, gl_none w S hg, fun _ _ h => by cases h⟩) follows Try.func71 (by kernel_rfl) (by kernel_rfl) (by kernel_rfl) ?_
  intro avs r h
  unfold s_ref01_Kinds at h
  split at h
  · simp only [Prod.mk.injEq, true_and] at h
    subst h
    exact ⟨1, _, ref01_Kinds_ev _ _, .inl rfl⟩
  · cases h

end Go.Av
