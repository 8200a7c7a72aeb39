import Derived.Test.YtopepdfipgfakaaEcEvF
import Derived.Test.YtopepdfipgfakaaEcN
import Derived.Test.YtopepdfipgfakaaProg
import Derived.KernelRfl
namespace Go.Av
open Go.Proofs
set_option maxRecDepth 100000
set_option linter.unusedVariables false
/-! sheave/ewcost.Fits -/

noncomputable def E_ewcost_Fits : EnvP := ⟨⟨tiOf tis, fnsOf [(8, s_ewcost_Len)], cnsOf [], [], 31, (fun _ => none), (fun _ => none), some [8]⟩, fun _ => none, fun _ => none, fun _ => [], fun _ => none⟩
noncomputable def C_ewcost_Fits : Code := Try.f15.body.getD .skip
noncomputable def R_ewcost_Fits : Array ResultVar := Try.f15.results
theorem ewcost_Fits_ev (n : Nat) (charset0 : Int) (o0 : Lab) (code1 : Int) (o1 : Lab) (t2 : List Int) (o2 : Lab) (room3 : Int) (o3 : Lab) : evFnP E_ewcost_Fits n C_ewcost_Fits R_ewcost_Fits [.dat (.int .i64) charset0 o0, .dat (.int .i64) code1 o1, .dat (.sl (.int .i32)) t2 o2, .dat (.int .i64) room3 o3] = ewcost_Fits_sh n charset0 code1 t2 room3 := by
  kernel_rfl
theorem ewcost_Fits_sound : SoundG G Try.prog 15 s_ewcost_Fits := by
  refine sound_of_evP' G_stays (E := E_ewcost_Fits) (fn := Try.f15) (c := C_ewcost_Fits) (tyOk_of_table rfl tis_ok) (fun w S hg => ⟨⟨(fns_cons (ewcost_Len_sound w S hg) fns_nil), fun f sp h => cns_nil f sp h w S⟩, gl_none w S hg, fun _ _ h => by cases h⟩) follows Try.func15 (by kernel_rfl) (by kernel_rfl) (by kernel_rfl) ?_
  intro avs r h
  unfold s_ewcost_Fits at h
  split at h
  · simp only [Prod.mk.injEq] at h
    obtain ⟨hp, rfl⟩ := h
    obtain ⟨n, hn⟩ := ewcost_Fits_math _ _ _ _ hp
    exact ⟨n, _, (ewcost_Fits_ev n _ _ _ _ _ _ _ _).trans hn, .inl rfl⟩
  · cases h

/-! sheave/ewcost.Prefix -/

noncomputable def E_ewcost_Prefix : EnvP := ⟨⟨tiOf tis, fnsOf [(15, s_ewcost_Fits)], cnsOf [], [], 27, (fun x => if x = 2 then some [0, 1, 2, 3, 9] else none), (fun x => if x = 0 then some [9] else if x = 1 then some [0, 1, 2, 3, 9] else none), some [8]⟩, fun _ => none, fun _ => none, fun _ => [], fun _ => none⟩
noncomputable def C_ewcost_Prefix : Code := Try.f17.body.getD .skip
noncomputable def R_ewcost_Prefix : Array ResultVar := Try.f17.results
theorem ewcost_Prefix_l2_ok (K : Ex → Fr → Option AV) : ∀ (n : Nat) (charset0 : Int) (code1 : Int) (t2 : List Int) (room3 : Int) (many9 : Int), evLP E_ewcost_Prefix n (sub C_ewcost_Prefix [1, 1, 0, 0, 0]) K (frOf [(0, (.dat (.int .i64) charset0 none)), (1, (.dat (.int .i64) code1 none)), (2, (.dat (.sl (.int .i32)) t2 none)), (3, (.dat (.int .i64) room3 none)), (9, (.dat (.int .i64) many9 none))]) = ewcost_Prefix_l2 (fun many9 => K (.exit 0) (frOf [(9, (.dat (.int .i64) many9 none))])) n charset0 code1 t2 room3 many9 := by
  intro n
  induction n with
  | zero => intros; rfl
  | succ n IH =>
  intro charset0 code1 t2 room3 many9
  have ih : (fun charset0 code1 t2 room3 many9 => evLP E_ewcost_Prefix n (sub C_ewcost_Prefix [1, 1, 0, 0, 0]) K (frOf [(0, (.dat (.int .i64) charset0 none)), (1, (.dat (.int .i64) code1 none)), (2, (.dat (.sl (.int .i32)) t2 none)), (3, (.dat (.int .i64) room3 none)), (9, (.dat (.int .i64) many9 none))])) = ewcost_Prefix_l2 (fun many9 => K (.exit 0) (frOf [(9, (.dat (.int .i64) many9 none))])) n := by
    funext charset0 code1 t2 room3 many9
    exact IH charset0 code1 t2 room3 many9
  show _ = ewcost_Prefix_l2_b (fun many9 => K (.exit 0) (frOf [(9, (.dat (.int .i64) many9 none))])) (ewcost_Prefix_l2 (fun many9 => K (.exit 0) (frOf [(9, (.dat (.int .i64) many9 none))])) n) n charset0 code1 t2 room3 many9
  rw [← ih]
  kernel_rfl
theorem ewcost_Prefix_k2_0_ok (n : Nat) (many9 : Int) : (kBlockP 0 (E_ewcost_Prefix.cutb 0) (kSeq (evCP E_ewcost_Prefix (evLP E_ewcost_Prefix n) (sub C_ewcost_Prefix [1, 1, 1])) (kFnP E_ewcost_Prefix R_ewcost_Prefix))) (.exit 0) (frOf [(9, (.dat (.int .i64) many9 none))]) = ewcost_Prefix_k2_0 n many9 := by
  kernel_rfl
theorem ewcost_Prefix_ev (n : Nat) (charset0 : Int) (o0 : Lab) (code1 : Int) (o1 : Lab) (t2 : List Int) (o2 : Lab) (room3 : Int) (o3 : Lab) : evFnP E_ewcost_Prefix n C_ewcost_Prefix R_ewcost_Prefix [.dat (.int .i64) charset0 o0, .dat (.int .i64) code1 o1, .dat (.sl (.int .i32)) t2 o2, .dat (.int .i64) room3 o3] = ewcost_Prefix_sh n charset0 code1 t2 room3 := by
  unfold ewcost_Prefix_sh
  rw [show ewcost_Prefix_l2 (ewcost_Prefix_k2_0 n) n = (fun charset0 code1 t2 room3 many9 => evLP E_ewcost_Prefix n (sub C_ewcost_Prefix [1, 1, 0, 0, 0]) (kBlockP 0 (E_ewcost_Prefix.cutb 0) (kSeq (evCP E_ewcost_Prefix (evLP E_ewcost_Prefix n) (sub C_ewcost_Prefix [1, 1, 1])) (kFnP E_ewcost_Prefix R_ewcost_Prefix))) (frOf [(0, (.dat (.int .i64) charset0 none)), (1, (.dat (.int .i64) code1 none)), (2, (.dat (.sl (.int .i32)) t2 none)), (3, (.dat (.int .i64) room3 none)), (9, (.dat (.int .i64) many9 none))])) from by
    funext charset0 code1 t2 room3 many9
    refine Eq.trans ?_ (ewcost_Prefix_l2_ok (kBlockP 0 (E_ewcost_Prefix.cutb 0) (kSeq (evCP E_ewcost_Prefix (evLP E_ewcost_Prefix n) (sub C_ewcost_Prefix [1, 1, 1])) (kFnP E_ewcost_Prefix R_ewcost_Prefix))) n charset0 code1 t2 room3 many9).symm
    rw [show (fun many9 => (kBlockP 0 (E_ewcost_Prefix.cutb 0) (kSeq (evCP E_ewcost_Prefix (evLP E_ewcost_Prefix n) (sub C_ewcost_Prefix [1, 1, 1])) (kFnP E_ewcost_Prefix R_ewcost_Prefix))) (.exit 0) (frOf [(9, (.dat (.int .i64) many9 none))])) = (ewcost_Prefix_k2_0 n) from by
      funext many9
      exact ewcost_Prefix_k2_0_ok n many9]
    all_goals kernel_rfl]
  kernel_rfl
theorem ewcost_Prefix_sound : SoundG G Try.prog 17 s_ewcost_Prefix := by
  refine sound_of_evP' G_stays (E := E_ewcost_Prefix) (fn := Try.f17) (c := C_ewcost_Prefix) (tyOk_of_table rfl tis_ok) (fun w S hg => ⟨⟨(fns_cons (ewcost_Fits_sound w S hg) fns_nil), fun f sp h => cns_nil f sp h w S⟩, gl_none w S hg, fun _ _ h => by cases h⟩) follows Try.func17 (by kernel_rfl) (by kernel_rfl) (by kernel_rfl) ?_
  intro avs r h
  unfold s_ewcost_Prefix at h
  split at h
  · simp only [Prod.mk.injEq] at h
    obtain ⟨hp, rfl⟩ := h
    obtain ⟨n, hn⟩ := ewcost_Prefix_math _ _ _ _ hp
    exact ⟨n, _, (ewcost_Prefix_ev n _ _ _ _ _ _ _ _).trans hn, .inl rfl⟩
  · cases h

/-! sheave/sheaveref14.Digit -/

noncomputable def E_ref14_Digit : EnvP := ⟨⟨tiOf tis, fnsOf [], cnsOf [], [], 31, (fun _ => none), (fun x => if x = 0 then some [] else none), some [2]⟩, fun _ => none, fun _ => none, fun _ => [], fun _ => none⟩
noncomputable def C_ref14_Digit : Code := Try.f54.body.getD .skip
noncomputable def R_ref14_Digit : Array ResultVar := Try.f54.results
theorem ref14_Digit_ev (n : Nat) (n0 : Int) (o0 : Lab) : evFnP E_ref14_Digit n C_ref14_Digit R_ref14_Digit [.dat (.int .i64) n0 o0] = ref14_Digit_sh n n0 := by
  kernel_rfl
theorem ref14_Digit_sound : SoundG G Try.prog 54 s_ref14_Digit := by
  refine sound_of_evP' G_stays (E := E_ref14_Digit) (fn := Try.f54) (c := C_ref14_Digit) (tyOk_of_table rfl tis_ok) (fun w S hg => ⟨⟨fns_nil, fun f sp h => cns_nil f sp h w S⟩, gl_none w S hg, fun _ _ h => by cases h⟩) follows Try.func54 (by kernel_rfl) (by kernel_rfl) (by kernel_rfl) ?_
  intro avs r h
  unfold s_ref14_Digit at h
  split at h
  · simp only [Prod.mk.injEq, true_and] at h
    subst h
    obtain ⟨n, hn⟩ := ref14_Digit_math _
    exact ⟨n, _, (ref14_Digit_ev n _ _).trans hn, .inl rfl⟩
  · cases h

/-! sheave/sheaveref14.number -/

noncomputable def E_ref14_number : EnvP := ⟨⟨tiOf tis, fnsOf [], cnsOf [], [], 19, (fun x => if x = 3 then some [0, 3, 4] else none), (fun x => if x = 0 then some [3] else if x = 1 then some [0, 3, 4] else none), some [2]⟩, fun _ => none, fun _ => none, fun _ => [], fun _ => none⟩
noncomputable def C_ref14_number : Code := Try.f55.body.getD .skip
noncomputable def R_ref14_number : Array ResultVar := Try.f55.results
theorem ref14_number_l3_ok (K : Ex → Fr → Option AV) : ∀ (n : Nat) (l0 : List Int) (n3 : Int) (i4 : Int), evLP E_ref14_number n (sub C_ref14_number [1, 1, 0, 1, 0, 0]) K (frOf [(0, (.dat (.sl (.int .i64)) l0 none)), (3, (.dat (.int .i64) n3 none)), (4, (.dat (.int .i64) i4 none))]) = ref14_number_l3 (fun n3 => K (.exit 0) (frOf [(3, (.dat (.int .i64) n3 none))])) n l0 n3 i4 := by
  intro n
  induction n with
  | zero => intros; rfl
  | succ n IH =>
  intro l0 n3 i4
  have ih : (fun l0 n3 i4 => evLP E_ref14_number n (sub C_ref14_number [1, 1, 0, 1, 0, 0]) K (frOf [(0, (.dat (.sl (.int .i64)) l0 none)), (3, (.dat (.int .i64) n3 none)), (4, (.dat (.int .i64) i4 none))])) = ref14_number_l3 (fun n3 => K (.exit 0) (frOf [(3, (.dat (.int .i64) n3 none))])) n := by
    funext l0 n3 i4
    exact IH l0 n3 i4
  show _ = ref14_number_l3_b (fun n3 => K (.exit 0) (frOf [(3, (.dat (.int .i64) n3 none))])) (ref14_number_l3 (fun n3 => K (.exit 0) (frOf [(3, (.dat (.int .i64) n3 none))])) n) n l0 n3 i4
  rw [← ih]
  kernel_rfl
theorem ref14_number_k3_0_ok (n : Nat) (n3 : Int) : (kBlockP 0 (E_ref14_number.cutb 0) (kSeq (evCP E_ref14_number (evLP E_ref14_number n) (sub C_ref14_number [1, 1, 1])) (kFnP E_ref14_number R_ref14_number))) (.exit 0) (frOf [(3, (.dat (.int .i64) n3 none))]) = ref14_number_k3_0 n n3 := by
  kernel_rfl
theorem ref14_number_ev (n : Nat) (l0 : List Int) (o0 : Lab) : evFnP E_ref14_number n C_ref14_number R_ref14_number [.dat (.sl (.int .i64)) l0 o0] = ref14_number_sh n l0 := by
  unfold ref14_number_sh
  rw [show ref14_number_l3 (ref14_number_k3_0 n) n = (fun l0 n3 i4 => evLP E_ref14_number n (sub C_ref14_number [1, 1, 0, 1, 0, 0]) (kBlockP 0 (E_ref14_number.cutb 0) (kSeq (evCP E_ref14_number (evLP E_ref14_number n) (sub C_ref14_number [1, 1, 1])) (kFnP E_ref14_number R_ref14_number))) (frOf [(0, (.dat (.sl (.int .i64)) l0 none)), (3, (.dat (.int .i64) n3 none)), (4, (.dat (.int .i64) i4 none))])) from by
    funext l0 n3 i4
    refine Eq.trans ?_ (ref14_number_l3_ok (kBlockP 0 (E_ref14_number.cutb 0) (kSeq (evCP E_ref14_number (evLP E_ref14_number n) (sub C_ref14_number [1, 1, 1])) (kFnP E_ref14_number R_ref14_number))) n l0 n3 i4).symm
    rw [show (fun n3 => (kBlockP 0 (E_ref14_number.cutb 0) (kSeq (evCP E_ref14_number (evLP E_ref14_number n) (sub C_ref14_number [1, 1, 1])) (kFnP E_ref14_number R_ref14_number))) (.exit 0) (frOf [(3, (.dat (.int .i64) n3 none))])) = (ref14_number_k3_0 n) from by
      funext n3
      exact ref14_number_k3_0_ok n n3]
    all_goals kernel_rfl]
  kernel_rfl
theorem ref14_number_sound : SoundG G Try.prog 55 s_ref14_number := by
  refine sound_of_evP' G_stays (E := E_ref14_number) (fn := Try.f55) (c := C_ref14_number) (tyOk_of_table rfl tis_ok) (fun w S hg => ⟨⟨fns_nil, fun f sp h => cns_nil f sp h w S⟩, gl_none w S hg, fun _ _ h => by cases h⟩) follows Try.func55 (by kernel_rfl) (by kernel_rfl) (by kernel_rfl) ?_
  intro avs r h
  unfold s_ref14_number at h
  split at h
  · simp only [Prod.mk.injEq] at h
    obtain ⟨hp, rfl⟩ := h
    obtain ⟨n, hn⟩ := ref14_number_math _ hp
    exact ⟨n, _, (ref14_number_ev n _ _).trans hn, .inl rfl⟩
  · cases h

/-! sheave/sheaveref14.Bits -/

noncomputable def E_ref14_Bits : EnvP := ⟨⟨tiOf tis, fnsOf [], cnsOf [], [], 28, (fun x => if x = 3 then some [0, 3, 4] else if x = 6 then some [0, 3, 4, 5] else none), (fun x => if x = 0 then some [3] else if x = 1 then some [0, 3, 4] else if x = 2 then some [0, 3, 4] else if x = 3 then some [0, 3, 4, 5] else none), some [2]⟩, fun _ => none, fun _ => none, fun _ => [], fun _ => none⟩
noncomputable def C_ref14_Bits : Code := Try.f53.body.getD .skip
noncomputable def R_ref14_Bits : Array ResultVar := Try.f53.results
theorem ref14_Bits_l6_ok (K : Ex → Fr → Option AV) : ∀ (n : Nat) (s0 : List UInt8) (out3 : List Int) (i4 : Int) (k5 : Int), evLP E_ref14_Bits n (sub C_ref14_Bits [1, 1, 0, 1, 0, 0, 1, 0, 0, 1, 0, 0]) K (frOf [(0, (.dat (.sl .byte) s0 none)), (3, (.dat (.sl (.int .i64)) out3 (some (3, 3)))), (4, (.dat (.int .i64) i4 none)), (5, (.dat (.int .i64) k5 none))]) = ref14_Bits_l6 (fun s0 out3 i4 => K (.exit 2) (frOf [(0, (.dat (.sl .byte) s0 none)), (3, (.dat (.sl (.int .i64)) out3 (some (3, 3)))), (4, (.dat (.int .i64) i4 none))])) n s0 out3 i4 k5 := by
  intro n
  induction n with
  | zero => intros; rfl
  | succ n IH =>
  intro s0 out3 i4 k5
  have ih : (fun s0 out3 i4 k5 => evLP E_ref14_Bits n (sub C_ref14_Bits [1, 1, 0, 1, 0, 0, 1, 0, 0, 1, 0, 0]) K (frOf [(0, (.dat (.sl .byte) s0 none)), (3, (.dat (.sl (.int .i64)) out3 (some (3, 3)))), (4, (.dat (.int .i64) i4 none)), (5, (.dat (.int .i64) k5 none))])) = ref14_Bits_l6 (fun s0 out3 i4 => K (.exit 2) (frOf [(0, (.dat (.sl .byte) s0 none)), (3, (.dat (.sl (.int .i64)) out3 (some (3, 3)))), (4, (.dat (.int .i64) i4 none))])) n := by
    funext s0 out3 i4 k5
    exact IH s0 out3 i4 k5
  show _ = ref14_Bits_l6_b (fun s0 out3 i4 => K (.exit 2) (frOf [(0, (.dat (.sl .byte) s0 none)), (3, (.dat (.sl (.int .i64)) out3 (some (3, 3)))), (4, (.dat (.int .i64) i4 none))])) (ref14_Bits_l6 (fun s0 out3 i4 => K (.exit 2) (frOf [(0, (.dat (.sl .byte) s0 none)), (3, (.dat (.sl (.int .i64)) out3 (some (3, 3)))), (4, (.dat (.int .i64) i4 none))])) n) n s0 out3 i4 k5
  rw [← ih]
  kernel_rfl
theorem ref14_Bits_k6_2_ok (K : Ex → Fr → Option AV) (n : Nat) (s0 : List UInt8) (out3 : List Int) (i4 : Int) : (kBlockP 2 (E_ref14_Bits.cutb 2) (kBlockP 1 (E_ref14_Bits.cutb 1) (kSeq (evCP E_ref14_Bits (evLP E_ref14_Bits n) (sub C_ref14_Bits [1, 1, 0, 1, 0, 0, 1, 1])) (kSeq (fun K fr => evLP E_ref14_Bits n (sub C_ref14_Bits [1, 1, 0, 1, 0, 0]) K (cutFP (E_ref14_Bits.cuts 3) fr)) K)))) (.exit 2) (frOf [(0, (.dat (.sl .byte) s0 none)), (3, (.dat (.sl (.int .i64)) out3 (some (3, 3)))), (4, (.dat (.int .i64) i4 none))]) = ref14_Bits_k6_2 (fun out3 => K (.exit 0) (frOf [(3, (.dat (.sl (.int .i64)) out3 (some (3, 3))))])) (fun s0 out3 i4 => evLP E_ref14_Bits n (sub C_ref14_Bits [1, 1, 0, 1, 0, 0]) K (frOf [(0, (.dat (.sl .byte) s0 none)), (3, (.dat (.sl (.int .i64)) out3 (some (3, 3)))), (4, (.dat (.int .i64) i4 none))])) n s0 out3 i4 := by
  kernel_rfl
theorem ref14_Bits_l3_ok (K : Ex → Fr → Option AV) : ∀ (n : Nat) (s0 : List UInt8) (out3 : List Int) (i4 : Int), evLP E_ref14_Bits n (sub C_ref14_Bits [1, 1, 0, 1, 0, 0]) K (frOf [(0, (.dat (.sl .byte) s0 none)), (3, (.dat (.sl (.int .i64)) out3 (some (3, 3)))), (4, (.dat (.int .i64) i4 none))]) = ref14_Bits_l3 (fun out3 => K (.exit 0) (frOf [(3, (.dat (.sl (.int .i64)) out3 (some (3, 3))))])) n s0 out3 i4 := by
  intro n
  induction n with
  | zero => intros; rfl
  | succ n IH =>
  intro s0 out3 i4
  have ih : (fun s0 out3 i4 => evLP E_ref14_Bits n (sub C_ref14_Bits [1, 1, 0, 1, 0, 0]) K (frOf [(0, (.dat (.sl .byte) s0 none)), (3, (.dat (.sl (.int .i64)) out3 (some (3, 3)))), (4, (.dat (.int .i64) i4 none))])) = ref14_Bits_l3 (fun out3 => K (.exit 0) (frOf [(3, (.dat (.sl (.int .i64)) out3 (some (3, 3))))])) n := by
    funext s0 out3 i4
    exact IH s0 out3 i4
  show _ = ref14_Bits_l3_b (fun out3 => K (.exit 0) (frOf [(3, (.dat (.sl (.int .i64)) out3 (some (3, 3))))])) (ref14_Bits_l3 (fun out3 => K (.exit 0) (frOf [(3, (.dat (.sl (.int .i64)) out3 (some (3, 3))))])) n) n s0 out3 i4
  rw [← ih]
  unfold ref14_Bits_l3_b
  rw [show ref14_Bits_l6 (ref14_Bits_k6_2 (fun out3 => K (.exit 0) (frOf [(3, (.dat (.sl (.int .i64)) out3 (some (3, 3))))])) (fun s0 out3 i4 => evLP E_ref14_Bits n (sub C_ref14_Bits [1, 1, 0, 1, 0, 0]) K (frOf [(0, (.dat (.sl .byte) s0 none)), (3, (.dat (.sl (.int .i64)) out3 (some (3, 3)))), (4, (.dat (.int .i64) i4 none))])) n) n = (fun s0 out3 i4 k5 => evLP E_ref14_Bits n (sub C_ref14_Bits [1, 1, 0, 1, 0, 0, 1, 0, 0, 1, 0, 0]) (kBlockP 2 (E_ref14_Bits.cutb 2) (kBlockP 1 (E_ref14_Bits.cutb 1) (kSeq (evCP E_ref14_Bits (evLP E_ref14_Bits n) (sub C_ref14_Bits [1, 1, 0, 1, 0, 0, 1, 1])) (kSeq (fun K fr => evLP E_ref14_Bits n (sub C_ref14_Bits [1, 1, 0, 1, 0, 0]) K (cutFP (E_ref14_Bits.cuts 3) fr)) K)))) (frOf [(0, (.dat (.sl .byte) s0 none)), (3, (.dat (.sl (.int .i64)) out3 (some (3, 3)))), (4, (.dat (.int .i64) i4 none)), (5, (.dat (.int .i64) k5 none))])) from by
    funext s0 out3 i4 k5
    refine Eq.trans ?_ (ref14_Bits_l6_ok (kBlockP 2 (E_ref14_Bits.cutb 2) (kBlockP 1 (E_ref14_Bits.cutb 1) (kSeq (evCP E_ref14_Bits (evLP E_ref14_Bits n) (sub C_ref14_Bits [1, 1, 0, 1, 0, 0, 1, 1])) (kSeq (fun K fr => evLP E_ref14_Bits n (sub C_ref14_Bits [1, 1, 0, 1, 0, 0]) K (cutFP (E_ref14_Bits.cuts 3) fr)) K)))) n s0 out3 i4 k5).symm
    rw [show (fun s0 out3 i4 => (kBlockP 2 (E_ref14_Bits.cutb 2) (kBlockP 1 (E_ref14_Bits.cutb 1) (kSeq (evCP E_ref14_Bits (evLP E_ref14_Bits n) (sub C_ref14_Bits [1, 1, 0, 1, 0, 0, 1, 1])) (kSeq (fun K fr => evLP E_ref14_Bits n (sub C_ref14_Bits [1, 1, 0, 1, 0, 0]) K (cutFP (E_ref14_Bits.cuts 3) fr)) K)))) (.exit 2) (frOf [(0, (.dat (.sl .byte) s0 none)), (3, (.dat (.sl (.int .i64)) out3 (some (3, 3)))), (4, (.dat (.int .i64) i4 none))])) = (ref14_Bits_k6_2 (fun out3 => K (.exit 0) (frOf [(3, (.dat (.sl (.int .i64)) out3 (some (3, 3))))])) (fun s0 out3 i4 => evLP E_ref14_Bits n (sub C_ref14_Bits [1, 1, 0, 1, 0, 0]) K (frOf [(0, (.dat (.sl .byte) s0 none)), (3, (.dat (.sl (.int .i64)) out3 (some (3, 3)))), (4, (.dat (.int .i64) i4 none))])) n) from by
      funext s0 out3 i4
      exact ref14_Bits_k6_2_ok K n s0 out3 i4]
    all_goals kernel_rfl]
  kernel_rfl
theorem ref14_Bits_k3_0_ok (n : Nat) (out3 : List Int) : (kBlockP 0 (E_ref14_Bits.cutb 0) (kSeq (evCP E_ref14_Bits (evLP E_ref14_Bits n) (sub C_ref14_Bits [1, 1, 1])) (kFnP E_ref14_Bits R_ref14_Bits))) (.exit 0) (frOf [(3, (.dat (.sl (.int .i64)) out3 (some (3, 3))))]) = ref14_Bits_k3_0 n out3 := by
  kernel_rfl
theorem ref14_Bits_ev (n : Nat) (s0 : List UInt8) (o0 : Lab) : evFnP E_ref14_Bits n C_ref14_Bits R_ref14_Bits [.dat (.sl .byte) s0 o0] = ref14_Bits_sh n s0 := by
  unfold ref14_Bits_sh
  rw [show ref14_Bits_l3 (ref14_Bits_k3_0 n) n = (fun s0 out3 i4 => evLP E_ref14_Bits n (sub C_ref14_Bits [1, 1, 0, 1, 0, 0]) (kBlockP 0 (E_ref14_Bits.cutb 0) (kSeq (evCP E_ref14_Bits (evLP E_ref14_Bits n) (sub C_ref14_Bits [1, 1, 1])) (kFnP E_ref14_Bits R_ref14_Bits))) (frOf [(0, (.dat (.sl .byte) s0 none)), (3, (.dat (.sl (.int .i64)) out3 (some (3, 3)))), (4, (.dat (.int .i64) i4 none))])) from by
    funext s0 out3 i4
    refine Eq.trans ?_ (ref14_Bits_l3_ok (kBlockP 0 (E_ref14_Bits.cutb 0) (kSeq (evCP E_ref14_Bits (evLP E_ref14_Bits n) (sub C_ref14_Bits [1, 1, 1])) (kFnP E_ref14_Bits R_ref14_Bits))) n s0 out3 i4).symm
    rw [show (fun out3 => (kBlockP 0 (E_ref14_Bits.cutb 0) (kSeq (evCP E_ref14_Bits (evLP E_ref14_Bits n) (sub C_ref14_Bits [1, 1, 1])) (kFnP E_ref14_Bits R_ref14_Bits))) (.exit 0) (frOf [(3, (.dat (.sl (.int .i64)) out3 (some (3, 3))))])) = (ref14_Bits_k3_0 n) from by
      funext out3
      exact ref14_Bits_k3_0_ok n out3]
    all_goals kernel_rfl]
  kernel_rfl
theorem ref14_Bits_sound : SoundG G Try.prog 53 s_ref14_Bits := by
  refine sound_of_evP' G_stays (E := E_ref14_Bits) (fn := Try.f53) (c := C_ref14_Bits) (tyOk_of_table rfl tis_ok) (fun w S hg => ⟨⟨fns_nil, fun f sp h => cns_nil f sp h w S⟩, gl_none w S hg, fun _ _ h => by cases h⟩) follows Try.func53 (by kernel_rfl) (by kernel_rfl) (by kernel_rfl) ?_
  intro avs r h
  unfold s_ref14_Bits at h
  split at h
  · simp only [Prod.mk.injEq] at h
    obtain ⟨hp, rfl⟩ := h
    obtain ⟨n, hn⟩ := ref14_Bits_math _ hp
    exact ⟨n, _, (ref14_Bits_ev n _ _).trans hn, .inl rfl⟩
  · cases h

/-! sheave/sheaveref14.Bare -/

noncomputable def E_ref14_Bare : EnvP := ⟨⟨tiOf tis, fnsOf [(53, s_ref14_Bits), (54, s_ref14_Digit), (55, s_ref14_number)], cnsOf [], [], 32, (fun x => if x = 2 then some [3] else if x = 6 then some [3, 4, 5] else none), (fun x => if x = 0 then some [3] else if x = 1 then some [3] else if x = 2 then some [4] else if x = 3 then some [3, 4, 5] else none), some [2]⟩, fun _ => none, fun _ => none, fun _ => [], fun _ => none⟩
noncomputable def C_ref14_Bare : Code := Try.f33.body.getD .skip
noncomputable def R_ref14_Bare : Array ResultVar := Try.f33.results
theorem ref14_Bare_l2_ok (K : Ex → Fr → Option AV) : ∀ (n : Nat) (l3 : List Int), evLP E_ref14_Bare n (sub C_ref14_Bare [1, 1, 0, 0, 0]) K (frOf [(3, (.dat (.sl (.int .i64)) l3 (some (3, 3))))]) = ref14_Bare_l2 (fun l3 => K (.exit 0) (frOf [(3, (.dat (.sl (.int .i64)) l3 (some (3, 3))))])) n l3 := by
  intro n
  induction n with
  | zero => intros; rfl
  | succ n IH =>
  intro l3
  have ih : (fun l3 => evLP E_ref14_Bare n (sub C_ref14_Bare [1, 1, 0, 0, 0]) K (frOf [(3, (.dat (.sl (.int .i64)) l3 (some (3, 3))))])) = ref14_Bare_l2 (fun l3 => K (.exit 0) (frOf [(3, (.dat (.sl (.int .i64)) l3 (some (3, 3))))])) n := by
    funext l3
    exact IH l3
  show _ = ref14_Bare_l2_b (fun l3 => K (.exit 0) (frOf [(3, (.dat (.sl (.int .i64)) l3 (some (3, 3))))])) (ref14_Bare_l2 (fun l3 => K (.exit 0) (frOf [(3, (.dat (.sl (.int .i64)) l3 (some (3, 3))))])) n) n l3
  rw [← ih]
  kernel_rfl
theorem ref14_Bare_l6_ok (K : Ex → Fr → Option AV) : ∀ (n : Nat) (l3 : List Int) (out4 : List UInt8) (i5 : Int), evLP E_ref14_Bare n (sub C_ref14_Bare [1, 1, 1, 1, 0, 1, 0, 0]) K (frOf [(3, (.dat (.sl (.int .i64)) l3 (some (3, 3)))), (4, (.dat (.sl .byte) out4 (some (4, 5)))), (5, (.dat (.int .i64) i5 none))]) = ref14_Bare_l6 (fun out4 => K (.exit 2) (frOf [(4, (.dat (.sl .byte) out4 (some (4, 5))))])) n l3 out4 i5 := by
  intro n
  induction n with
  | zero => intros; rfl
  | succ n IH =>
  intro l3 out4 i5
  have ih : (fun l3 out4 i5 => evLP E_ref14_Bare n (sub C_ref14_Bare [1, 1, 1, 1, 0, 1, 0, 0]) K (frOf [(3, (.dat (.sl (.int .i64)) l3 (some (3, 3)))), (4, (.dat (.sl .byte) out4 (some (4, 5)))), (5, (.dat (.int .i64) i5 none))])) = ref14_Bare_l6 (fun out4 => K (.exit 2) (frOf [(4, (.dat (.sl .byte) out4 (some (4, 5))))])) n := by
    funext l3 out4 i5
    exact IH l3 out4 i5
  show _ = ref14_Bare_l6_b (fun out4 => K (.exit 2) (frOf [(4, (.dat (.sl .byte) out4 (some (4, 5))))])) (ref14_Bare_l6 (fun out4 => K (.exit 2) (frOf [(4, (.dat (.sl .byte) out4 (some (4, 5))))])) n) n l3 out4 i5
  rw [← ih]
  kernel_rfl
theorem ref14_Bare_k6_2_ok (n : Nat) (out4 : List UInt8) : (kBlockP 2 (E_ref14_Bare.cutb 2) (kSeq (evCP E_ref14_Bare (evLP E_ref14_Bare n) (sub C_ref14_Bare [1, 1, 1, 1, 1])) (kFnP E_ref14_Bare R_ref14_Bare))) (.exit 2) (frOf [(4, (.dat (.sl .byte) out4 (some (4, 5))))]) = ref14_Bare_k6_2 n out4 := by
  kernel_rfl
theorem ref14_Bare_k2_0_ok (n : Nat) (l3 : List Int) : (kBlockP 0 (E_ref14_Bare.cutb 0) (kSeq (evCP E_ref14_Bare (evLP E_ref14_Bare n) (sub C_ref14_Bare [1, 1, 1])) (kFnP E_ref14_Bare R_ref14_Bare))) (.exit 0) (frOf [(3, (.dat (.sl (.int .i64)) l3 (some (3, 3))))]) = ref14_Bare_k2_0 n l3 := by
  unfold ref14_Bare_k2_0
  rw [show ref14_Bare_l6 (ref14_Bare_k6_2 n) n = (fun l3 out4 i5 => evLP E_ref14_Bare n (sub C_ref14_Bare [1, 1, 1, 1, 0, 1, 0, 0]) (kBlockP 2 (E_ref14_Bare.cutb 2) (kSeq (evCP E_ref14_Bare (evLP E_ref14_Bare n) (sub C_ref14_Bare [1, 1, 1, 1, 1])) (kFnP E_ref14_Bare R_ref14_Bare))) (frOf [(3, (.dat (.sl (.int .i64)) l3 (some (3, 3)))), (4, (.dat (.sl .byte) out4 (some (4, 5)))), (5, (.dat (.int .i64) i5 none))])) from by
    funext l3 out4 i5
    refine Eq.trans ?_ (ref14_Bare_l6_ok (kBlockP 2 (E_ref14_Bare.cutb 2) (kSeq (evCP E_ref14_Bare (evLP E_ref14_Bare n) (sub C_ref14_Bare [1, 1, 1, 1, 1])) (kFnP E_ref14_Bare R_ref14_Bare))) n l3 out4 i5).symm
    rw [show (fun out4 => (kBlockP 2 (E_ref14_Bare.cutb 2) (kSeq (evCP E_ref14_Bare (evLP E_ref14_Bare n) (sub C_ref14_Bare [1, 1, 1, 1, 1])) (kFnP E_ref14_Bare R_ref14_Bare))) (.exit 2) (frOf [(4, (.dat (.sl .byte) out4 (some (4, 5))))])) = (ref14_Bare_k6_2 n) from by
      funext out4
      exact ref14_Bare_k6_2_ok n out4]
    all_goals kernel_rfl]
  kernel_rfl
theorem ref14_Bare_ev (n : Nat) (s0 : List UInt8) (o0 : Lab) : evFnP E_ref14_Bare n C_ref14_Bare R_ref14_Bare [.dat (.sl .byte) s0 o0] = ref14_Bare_sh n s0 := by
  unfold ref14_Bare_sh
  rw [show ref14_Bare_l2 (ref14_Bare_k2_0 n) n = (fun l3 => evLP E_ref14_Bare n (sub C_ref14_Bare [1, 1, 0, 0, 0]) (kBlockP 0 (E_ref14_Bare.cutb 0) (kSeq (evCP E_ref14_Bare (evLP E_ref14_Bare n) (sub C_ref14_Bare [1, 1, 1])) (kFnP E_ref14_Bare R_ref14_Bare))) (frOf [(3, (.dat (.sl (.int .i64)) l3 (some (3, 3))))])) from by
    funext l3
    refine Eq.trans ?_ (ref14_Bare_l2_ok (kBlockP 0 (E_ref14_Bare.cutb 0) (kSeq (evCP E_ref14_Bare (evLP E_ref14_Bare n) (sub C_ref14_Bare [1, 1, 1])) (kFnP E_ref14_Bare R_ref14_Bare))) n l3).symm
    rw [show (fun l3 => (kBlockP 0 (E_ref14_Bare.cutb 0) (kSeq (evCP E_ref14_Bare (evLP E_ref14_Bare n) (sub C_ref14_Bare [1, 1, 1])) (kFnP E_ref14_Bare R_ref14_Bare))) (.exit 0) (frOf [(3, (.dat (.sl (.int .i64)) l3 (some (3, 3))))])) = (ref14_Bare_k2_0 n) from by
      funext l3
      exact ref14_Bare_k2_0_ok n l3]
    all_goals kernel_rfl]
  kernel_rfl
theorem ref14_Bare_sound : SoundG G Try.prog 33 s_ref14_Bare := by
  refine sound_of_evP' G_stays (E := E_ref14_Bare) (fn := Try.f33) (c := C_ref14_Bare) (tyOk_of_table rfl tis_ok) (fun w S hg => ⟨⟨(fns_cons (ref14_Bits_sound w S hg) (fns_cons (ref14_Digit_sound w S hg) (fns_cons (ref14_number_sound w S hg) fns_nil))), fun f sp h => cns_nil f sp h w S⟩, gl_none w S hg, fun _ _ h => by cases h⟩) follows Try.func33 (by kernel_rfl) (by kernel_rfl) (by kernel_rfl) ?_
  intro avs r h
  unfold s_ref14_Bare at h
  split at h
  · simp only [Prod.mk.injEq] at h
    obtain ⟨hp, rfl⟩ := h
    obtain ⟨n, hn⟩ := ref14_Bare_math _ hp
    exact ⟨n, _, (ref14_Bare_ev n _ _).trans hn, .inl rfl⟩
  · cases h

end Go.Av
