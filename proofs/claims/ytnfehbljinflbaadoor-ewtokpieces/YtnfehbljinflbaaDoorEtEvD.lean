import Derived.Test.YtnfehbljinflbaaDoorEtEvC
import Derived.Test.YtnfehbljinflbaaDoorEtN
import Derived.Test.YtnfehbljinflbaaDoorProg
import Derived.KernelRfl
namespace Go.Av
open Go.Proofs
set_option maxRecDepth 100000
/-! sheave/sheaveref01.has -/

noncomputable def E_ref01_has : EnvP := ⟨⟨tiOf tis, fnsOf [], cnsOf [], [], 17, (fun x => if x = 2 then some [0, 1, 5] else none), (fun x => if x = 0 then some [] else if x = 1 then some [0, 1, 5] else none), some [4]⟩, fun _ => none, fun _ => none, fun _ => []⟩
noncomputable def C_ref01_has : Code := Tryd.f70.body.getD .skip
noncomputable def R_ref01_has : Array ResultVar := Tryd.f70.results
theorem ref01_has_l2_ok (K : Ex → Fr → Option AV) : ∀ (n : Nat) (s0 : List UInt8) (c1 : UInt8) (i5 : Int), evLP E_ref01_has n (sub C_ref01_has [1, 0, 1, 0, 0]) K (frOf [(0, (.dat .str s0 none)), (1, (.dat .byte c1 none)), (5, (.dat (.int .i64) i5 none))]) = ref01_has_l2 (fun s4 => K .ret (frOf [(4, (.dat .bool s4 none))])) (K (.exit 0) (frOf [])) n s0 c1 i5 := by
  intro n
  induction n with
  | zero => intros; rfl
  | succ n IH =>
  intro s0 c1 i5
  have ih : (fun s0 c1 i5 => evLP E_ref01_has n (sub C_ref01_has [1, 0, 1, 0, 0]) K (frOf [(0, (.dat .str s0 none)), (1, (.dat .byte c1 none)), (5, (.dat (.int .i64) i5 none))])) = ref01_has_l2 (fun s4 => K .ret (frOf [(4, (.dat .bool s4 none))])) (K (.exit 0) (frOf [])) n := by
    funext s0 c1 i5
    exact IH s0 c1 i5
  show _ = ref01_has_l2_b (fun s4 => K .ret (frOf [(4, (.dat .bool s4 none))])) (K (.exit 0) (frOf [])) (ref01_has_l2 (fun s4 => K .ret (frOf [(4, (.dat .bool s4 none))])) (K (.exit 0) (frOf [])) n) n s0 c1 i5
  rw [← ih]
  kernel_rfl
theorem ref01_has_k2_0_ok (n : Nat)  : (kBlockP 0 (E_ref01_has.cutb 0) (kSeq (evCP E_ref01_has (evLP E_ref01_has n) (sub C_ref01_has [1, 1])) (kFnP E_ref01_has R_ref01_has))) (.exit 0) (frOf []) = ref01_has_k2_0 n  := by
  kernel_rfl
theorem ref01_has_ev (n : Nat) (s0 : List UInt8) (o0 : Lab) (c1 : UInt8) (o1 : Lab) : evFnP E_ref01_has n C_ref01_has R_ref01_has [.dat .str s0 o0, .dat .byte c1 o1] = ref01_has_sh n s0 c1 := by
  unfold ref01_has_sh
  rw [show ref01_has_l2 ref01_has_ret (ref01_has_k2_0 n) n = (fun s0 c1 i5 => evLP E_ref01_has n (sub C_ref01_has [1, 0, 1, 0, 0]) (kBlockP 0 (E_ref01_has.cutb 0) (kSeq (evCP E_ref01_has (evLP E_ref01_has n) (sub C_ref01_has [1, 1])) (kFnP E_ref01_has R_ref01_has))) (frOf [(0, (.dat .str s0 none)), (1, (.dat .byte c1 none)), (5, (.dat (.int .i64) i5 none))])) from by
    funext s0 c1 i5
    refine Eq.trans ?_ (ref01_has_l2_ok (kBlockP 0 (E_ref01_has.cutb 0) (kSeq (evCP E_ref01_has (evLP E_ref01_has n) (sub C_ref01_has [1, 1])) (kFnP E_ref01_has R_ref01_has))) n s0 c1 i5).symm
    rw [show ((kBlockP 0 (E_ref01_has.cutb 0) (kSeq (evCP E_ref01_has (evLP E_ref01_has n) (sub C_ref01_has [1, 1])) (kFnP E_ref01_has R_ref01_has))) (.exit 0) (frOf [])) = (ref01_has_k2_0 n) from by
      exact ref01_has_k2_0_ok n ]
    all_goals kernel_rfl]
  kernel_rfl
theorem ref01_has_sound : SoundG G Tryd.prog 70 s_ref01_has := by
  refine sound_of_evP' G_stays (E := E_ref01_has) (fn := Tryd.f70) (c := C_ref01_has) (tyOk_of_table rfl tis_ok) (fun w S hg => ⟨⟨fns_nil, fun f sp h => cns_nil f sp h w S⟩, gl_none w S hg⟩) follows Tryd.func70 (by kernel_rfl) (by kernel_rfl) (by kernel_rfl) ?_
  intro avs r h
  unfold s_ref01_has at h
  split at h
  · simp only [Prod.mk.injEq] at h
    obtain ⟨hp, rfl⟩ := h
    obtain ⟨n, hn⟩ := ref01_has_math _ _ hp
    exact ⟨n, _, (ref01_has_ev n _ _ _ _).trans hn, .inl rfl⟩
  · cases h

/-! sheave/sheaveref01.Kinds -/

noncomputable def E_ref01_Kinds : EnvP := ⟨⟨tiOf tis, fnsOf [(70, s_ref01_has)], cnsOf [], [], 104, (fun _ => none), (fun _ => none), some [2]⟩, fun _ => none, fun _ => none, fun _ => []⟩
noncomputable def C_ref01_Kinds : Code := Tryd.f62.body.getD .skip
noncomputable def R_ref01_Kinds : Array ResultVar := Tryd.f62.results
def resI : Option AV → Int → Bool
  | some (.dat (.int .i64) x none), v => x == v
  | _, _ => false
theorem resI_ok {o : Option AV} {v : Int} (h : resI o v = true) : o = some (.dat (.int .i64) v none) := by
  unfold resI at h
  split at h
  · simp only [beq_iff_eq] at h
    subst h
    rfl
  · cases h
theorem ref01_Kinds_all0 : ∀ i : Fin 32, resI (evFnP E_ref01_Kinds 1 C_ref01_Kinds R_ref01_Kinds [.dat .byte (UInt8.ofNat (i.val + 32 * 0)) none]) (ref01_Kinds (UInt8.ofNat (i.val + 32 * 0))) = true := by decide +kernel
theorem ref01_Kinds_all1 : ∀ i : Fin 32, resI (evFnP E_ref01_Kinds 1 C_ref01_Kinds R_ref01_Kinds [.dat .byte (UInt8.ofNat (i.val + 32 * 1)) none]) (ref01_Kinds (UInt8.ofNat (i.val + 32 * 1))) = true := by decide +kernel
theorem ref01_Kinds_all2 : ∀ i : Fin 32, resI (evFnP E_ref01_Kinds 1 C_ref01_Kinds R_ref01_Kinds [.dat .byte (UInt8.ofNat (i.val + 32 * 2)) none]) (ref01_Kinds (UInt8.ofNat (i.val + 32 * 2))) = true := by decide +kernel
theorem ref01_Kinds_all3 : ∀ i : Fin 32, resI (evFnP E_ref01_Kinds 1 C_ref01_Kinds R_ref01_Kinds [.dat .byte (UInt8.ofNat (i.val + 32 * 3)) none]) (ref01_Kinds (UInt8.ofNat (i.val + 32 * 3))) = true := by decide +kernel
theorem ref01_Kinds_all4 : ∀ i : Fin 32, resI (evFnP E_ref01_Kinds 1 C_ref01_Kinds R_ref01_Kinds [.dat .byte (UInt8.ofNat (i.val + 32 * 4)) none]) (ref01_Kinds (UInt8.ofNat (i.val + 32 * 4))) = true := by decide +kernel
theorem ref01_Kinds_all5 : ∀ i : Fin 32, resI (evFnP E_ref01_Kinds 1 C_ref01_Kinds R_ref01_Kinds [.dat .byte (UInt8.ofNat (i.val + 32 * 5)) none]) (ref01_Kinds (UInt8.ofNat (i.val + 32 * 5))) = true := by decide +kernel
theorem ref01_Kinds_all6 : ∀ i : Fin 32, resI (evFnP E_ref01_Kinds 1 C_ref01_Kinds R_ref01_Kinds [.dat .byte (UInt8.ofNat (i.val + 32 * 6)) none]) (ref01_Kinds (UInt8.ofNat (i.val + 32 * 6))) = true := by decide +kernel
theorem ref01_Kinds_all7 : ∀ i : Fin 32, resI (evFnP E_ref01_Kinds 1 C_ref01_Kinds R_ref01_Kinds [.dat .byte (UInt8.ofNat (i.val + 32 * 7)) none]) (ref01_Kinds (UInt8.ofNat (i.val + 32 * 7))) = true := by decide +kernel
theorem ref01_Kinds_all : ∀ i : Fin 256, resI (evFnP E_ref01_Kinds 1 C_ref01_Kinds R_ref01_Kinds [.dat .byte (UInt8.ofNat i.val) none]) (ref01_Kinds (UInt8.ofNat i.val)) = true := fun i => by
  have h : i.val < 256 := i.isLt
  obtain ⟨k, j, hk, hj, e⟩ : ∃ k j, k < 8 ∧ j < 32 ∧ i.val = j + 32 * k := ⟨i.val / 32, i.val % 32, by omega, by omega, by omega⟩
  rw [e]
  match k, hk with
  | 0, _ => exact ref01_Kinds_all0 ⟨j, hj⟩
  | 1, _ => exact ref01_Kinds_all1 ⟨j, hj⟩
  | 2, _ => exact ref01_Kinds_all2 ⟨j, hj⟩
  | 3, _ => exact ref01_Kinds_all3 ⟨j, hj⟩
  | 4, _ => exact ref01_Kinds_all4 ⟨j, hj⟩
  | 5, _ => exact ref01_Kinds_all5 ⟨j, hj⟩
  | 6, _ => exact ref01_Kinds_all6 ⟨j, hj⟩
  | 7, _ => exact ref01_Kinds_all7 ⟨j, hj⟩
theorem ref01_Kinds_ev (c : UInt8) (o : Lab) : evFnP E_ref01_Kinds 1 C_ref01_Kinds R_ref01_Kinds [.dat .byte c o] = some (.dat (.int .i64) (ref01_Kinds c) none) := by
  have h : resI (evFnP E_ref01_Kinds 1 C_ref01_Kinds R_ref01_Kinds [.dat .byte c none]) (ref01_Kinds c) = true := fin_of (P := fun c => resI (evFnP E_ref01_Kinds 1 C_ref01_Kinds R_ref01_Kinds [.dat .byte c none]) (ref01_Kinds c) = true) ref01_Kinds_all c
  have e : evFnP E_ref01_Kinds 1 C_ref01_Kinds R_ref01_Kinds [.dat .byte c o] = evFnP E_ref01_Kinds 1 C_ref01_Kinds R_ref01_Kinds [.dat .byte c none] := by
    unfold evFnP
    have : (fun t => (([.dat .byte c o] : List AV).getD t .bad).strip) = fun t => (([.dat .byte c none] : List AV).getD t .bad).strip := by
      funext t
      match t with
      | 0 => rfl
      | t + 1 => rfl
    rw [this]
    rfl
  rw [e]
  exact resI_ok h
theorem ref01_Kinds_sound : SoundG G Tryd.prog 62 s_ref01_Kinds := by
  refine sound_of_evP' G_stays (E := E_ref01_Kinds) (fn := Tryd.f62) (c := C_ref01_Kinds) (tyOk_of_table rfl tis_ok) (fun w S hg => ⟨⟨(fns_cons (ref01_has_sound w S hg) fns_nil), fun f sp h => cns_nil f sp h w S⟩, gl_none w S hg⟩) follows Tryd.func62 (by kernel_rfl) (by kernel_rfl) (by kernel_rfl) ?_
  intro avs r h
  unfold s_ref01_Kinds at h
  split at h
  · simp only [Prod.mk.injEq, true_and] at h
    subst h
    exact ⟨1, _, ref01_Kinds_ev _ _, .inl rfl⟩
  · cases h

/-! sheave/sheaveref01.Is -/

noncomputable def E_ref01_Is : EnvP := ⟨⟨tiOf tis, fnsOf [(62, s_ref01_Kinds)], cnsOf [], [], 10, (fun _ => none), (fun _ => none), some [4]⟩, fun _ => none, fun _ => none, fun _ => []⟩
noncomputable def C_ref01_Is : Code := Tryd.f51.body.getD .skip
noncomputable def R_ref01_Is : Array ResultVar := Tryd.f51.results
theorem ref01_Is_ev (n : Nat) (c0 : UInt8) (o0 : Lab) (kinds1 : Int) (o1 : Lab) : evFnP E_ref01_Is n C_ref01_Is R_ref01_Is [.dat .byte c0 o0, .dat (.int .i64) kinds1 o1] = ref01_Is_sh n c0 kinds1 := by
  kernel_rfl
theorem ref01_Is_sound : SoundG G Tryd.prog 51 s_ref01_Is := by
  refine sound_of_evP' G_stays (E := E_ref01_Is) (fn := Tryd.f51) (c := C_ref01_Is) (tyOk_of_table rfl tis_ok) (fun w S hg => ⟨⟨(fns_cons (ref01_Kinds_sound w S hg) fns_nil), fun f sp h => cns_nil f sp h w S⟩, gl_none w S hg⟩) follows Tryd.func51 (by kernel_rfl) (by kernel_rfl) (by kernel_rfl) ?_
  intro avs r h
  unfold s_ref01_Is at h
  split at h
  · simp only [Prod.mk.injEq, true_and] at h
    subst h
    obtain ⟨n, hn⟩ := ref01_Is_math _ _
    exact ⟨n, _, (ref01_Is_ev n _ _ _ _).trans hn, .inl rfl⟩
  · cases h

/-! sheave/sheaveref01.Count -/

noncomputable def E_ref01_Count : EnvP := ⟨⟨tiOf tis, fnsOf [(51, s_ref01_Is)], cnsOf [], [], 22, (fun x => if x = 3 then some [0, 1, 5, 6] else none), (fun x => if x = 0 then some [5] else if x = 1 then some [0, 1, 5, 6] else none), some [4]⟩, fun _ => none, fun _ => none, fun _ => []⟩
noncomputable def C_ref01_Count : Code := Tryd.f38.body.getD .skip
noncomputable def R_ref01_Count : Array ResultVar := Tryd.f38.results
theorem ref01_Count_l3_ok (K : Ex → Fr → Option AV) : ∀ (n : Nat) (s0 : List UInt8) (kinds1 : Int) (n5 : Int) (i6 : Int), evLP E_ref01_Count n (sub C_ref01_Count [1, 1, 0, 1, 0, 0]) K (frOf [(0, (.dat (.sl .byte) s0 none)), (1, (.dat (.int .i64) kinds1 none)), (5, (.dat (.int .i64) n5 none)), (6, (.dat (.int .i64) i6 none))]) = ref01_Count_l3 (fun n5 => K (.exit 0) (frOf [(5, (.dat (.int .i64) n5 none))])) n s0 kinds1 n5 i6 := by
  intro n
  induction n with
  | zero => intros; rfl
  | succ n IH =>
  intro s0 kinds1 n5 i6
  have ih : (fun s0 kinds1 n5 i6 => evLP E_ref01_Count n (sub C_ref01_Count [1, 1, 0, 1, 0, 0]) K (frOf [(0, (.dat (.sl .byte) s0 none)), (1, (.dat (.int .i64) kinds1 none)), (5, (.dat (.int .i64) n5 none)), (6, (.dat (.int .i64) i6 none))])) = ref01_Count_l3 (fun n5 => K (.exit 0) (frOf [(5, (.dat (.int .i64) n5 none))])) n := by
    funext s0 kinds1 n5 i6
    exact IH s0 kinds1 n5 i6
  show _ = ref01_Count_l3_b (fun n5 => K (.exit 0) (frOf [(5, (.dat (.int .i64) n5 none))])) (ref01_Count_l3 (fun n5 => K (.exit 0) (frOf [(5, (.dat (.int .i64) n5 none))])) n) n s0 kinds1 n5 i6
  rw [← ih]
  kernel_rfl
theorem ref01_Count_k3_0_ok (n : Nat) (n5 : Int) : (kBlockP 0 (E_ref01_Count.cutb 0) (kSeq (evCP E_ref01_Count (evLP E_ref01_Count n) (sub C_ref01_Count [1, 1, 1])) (kFnP E_ref01_Count R_ref01_Count))) (.exit 0) (frOf [(5, (.dat (.int .i64) n5 none))]) = ref01_Count_k3_0 n n5 := by
  kernel_rfl
theorem ref01_Count_ev (n : Nat) (s0 : List UInt8) (o0 : Lab) (kinds1 : Int) (o1 : Lab) : evFnP E_ref01_Count n C_ref01_Count R_ref01_Count [.dat (.sl .byte) s0 o0, .dat (.int .i64) kinds1 o1] = ref01_Count_sh n s0 kinds1 := by
  unfold ref01_Count_sh
  rw [show ref01_Count_l3 (ref01_Count_k3_0 n) n = (fun s0 kinds1 n5 i6 => evLP E_ref01_Count n (sub C_ref01_Count [1, 1, 0, 1, 0, 0]) (kBlockP 0 (E_ref01_Count.cutb 0) (kSeq (evCP E_ref01_Count (evLP E_ref01_Count n) (sub C_ref01_Count [1, 1, 1])) (kFnP E_ref01_Count R_ref01_Count))) (frOf [(0, (.dat (.sl .byte) s0 none)), (1, (.dat (.int .i64) kinds1 none)), (5, (.dat (.int .i64) n5 none)), (6, (.dat (.int .i64) i6 none))])) from by
    funext s0 kinds1 n5 i6
    refine Eq.trans ?_ (ref01_Count_l3_ok (kBlockP 0 (E_ref01_Count.cutb 0) (kSeq (evCP E_ref01_Count (evLP E_ref01_Count n) (sub C_ref01_Count [1, 1, 1])) (kFnP E_ref01_Count R_ref01_Count))) n s0 kinds1 n5 i6).symm
    rw [show (fun n5 => (kBlockP 0 (E_ref01_Count.cutb 0) (kSeq (evCP E_ref01_Count (evLP E_ref01_Count n) (sub C_ref01_Count [1, 1, 1])) (kFnP E_ref01_Count R_ref01_Count))) (.exit 0) (frOf [(5, (.dat (.int .i64) n5 none))])) = (ref01_Count_k3_0 n) from by
      funext n5
      exact ref01_Count_k3_0_ok n n5]
    all_goals kernel_rfl]
  kernel_rfl
theorem ref01_Count_sound : SoundG G Tryd.prog 38 s_ref01_Count := by
  refine sound_of_evP' G_stays (E := E_ref01_Count) (fn := Tryd.f38) (c := C_ref01_Count) (tyOk_of_table rfl tis_ok) (fun w S hg => ⟨⟨(fns_cons (ref01_Is_sound w S hg) fns_nil), fun f sp h => cns_nil f sp h w S⟩, gl_none w S hg⟩) follows Tryd.func38 (by kernel_rfl) (by kernel_rfl) (by kernel_rfl) ?_
  intro avs r h
  unfold s_ref01_Count at h
  split at h
  · simp only [Prod.mk.injEq] at h
    obtain ⟨hp, rfl⟩ := h
    obtain ⟨n, hn⟩ := ref01_Count_math _ _ hp
    exact ⟨n, _, (ref01_Count_ev n _ _ _ _).trans hn, .inl rfl⟩
  · cases h

/-! sheave/sheaveref01.Lower -/

noncomputable def E_ref01_Lower : EnvP := ⟨⟨tiOf tis, fnsOf [], cnsOf [], [], 12, (fun _ => none), (fun _ => none), some [2]⟩, fun _ => none, fun _ => none, fun _ => []⟩
noncomputable def C_ref01_Lower : Code := Tryd.f50.body.getD .skip
noncomputable def R_ref01_Lower : Array ResultVar := Tryd.f50.results
theorem ref01_Lower_ev (n : Nat) (c0 : UInt8) (o0 : Lab) : evFnP E_ref01_Lower n C_ref01_Lower R_ref01_Lower [.dat .byte c0 o0] = ref01_Lower_sh n c0 := by
  kernel_rfl
theorem ref01_Lower_sound : SoundG G Tryd.prog 50 s_ref01_Lower := by
  refine sound_of_evP' G_stays (E := E_ref01_Lower) (fn := Tryd.f50) (c := C_ref01_Lower) (tyOk_of_table rfl tis_ok) (fun w S hg => ⟨⟨fns_nil, fun f sp h => cns_nil f sp h w S⟩, gl_none w S hg⟩) follows Tryd.func50 (by kernel_rfl) (by kernel_rfl) (by kernel_rfl) ?_
  intro avs r h
  unfold s_ref01_Lower at h
  split at h
  · simp only [Prod.mk.injEq, true_and] at h
    subst h
    obtain ⟨n, hn⟩ := ref01_Lower_math _
    exact ⟨n, _, (ref01_Lower_ev n _ _).trans hn, .inl rfl⟩
  · cases h

/-! bytes.Count -/

noncomputable def E_bytes_Count : EnvP := ⟨⟨tiOf tis, fnsOf [(67, s_bytes_Index), (71, s_unicode_utf8_RuneCount), (72, s_internal_bytealg_Count)], cnsOf [], [], 35, (fun x => if x = 6 then some [0, 1, 5] else none), (fun x => if x = 0 then some [4] else if x = 1 then some [0, 1, 5] else none), some [4]⟩, fun _ => none, fun _ => none, fun _ => []⟩
noncomputable def C_bytes_Count : Code := Tryd.f66.body.getD .skip
noncomputable def R_bytes_Count : Array ResultVar := Tryd.f66.results
theorem bytes_Count_l6_ok (K : Ex → Fr → Option AV) : ∀ (n : Nat) (s0 : List UInt8) (sep1 : List UInt8) (n5 : Int), evLP E_bytes_Count n (sub C_bytes_Count [1, 1, 1, 1, 0, 0]) K (frOf [(0, (.dat (.sl .byte) s0 none)), (1, (.dat (.sl .byte) sep1 none)), (5, (.dat (.int .i64) n5 none))]) = bytes_Count_l6 (fun s4 => K .ret (frOf [(4, (.dat (.int .i64) s4 none))])) n s0 sep1 n5 := by
  intro n
  induction n with
  | zero => intros; rfl
  | succ n IH =>
  intro s0 sep1 n5
  have ih : (fun s0 sep1 n5 => evLP E_bytes_Count n (sub C_bytes_Count [1, 1, 1, 1, 0, 0]) K (frOf [(0, (.dat (.sl .byte) s0 none)), (1, (.dat (.sl .byte) sep1 none)), (5, (.dat (.int .i64) n5 none))])) = bytes_Count_l6 (fun s4 => K .ret (frOf [(4, (.dat (.int .i64) s4 none))])) n := by
    funext s0 sep1 n5
    exact IH s0 sep1 n5
  show _ = bytes_Count_l6_b (fun s4 => K .ret (frOf [(4, (.dat (.int .i64) s4 none))])) (bytes_Count_l6 (fun s4 => K .ret (frOf [(4, (.dat (.int .i64) s4 none))])) n) n s0 sep1 n5
  rw [← ih]
  kernel_rfl
theorem bytes_Count_ev (n : Nat) (s0 : List UInt8) (o0 : Lab) (sep1 : List UInt8) (o1 : Lab) : evFnP E_bytes_Count n C_bytes_Count R_bytes_Count [.dat (.sl .byte) s0 o0, .dat (.sl .byte) sep1 o1] = bytes_Count_sh n s0 sep1 := by
  unfold bytes_Count_sh
  rw [show bytes_Count_l6 bytes_Count_ret n = (fun s0 sep1 n5 => evLP E_bytes_Count n (sub C_bytes_Count [1, 1, 1, 1, 0, 0]) (kBlockP 0 (E_bytes_Count.cutb 0) (kFnP E_bytes_Count R_bytes_Count)) (frOf [(0, (.dat (.sl .byte) s0 none)), (1, (.dat (.sl .byte) sep1 none)), (5, (.dat (.int .i64) n5 none))])) from by
    funext s0 sep1 n5
    refine Eq.trans ?_ (bytes_Count_l6_ok (kBlockP 0 (E_bytes_Count.cutb 0) (kFnP E_bytes_Count R_bytes_Count)) n s0 sep1 n5).symm
    all_goals kernel_rfl]
  kernel_rfl
theorem bytes_Count_sound : SoundG G Tryd.prog 66 s_bytes_Count := by
  refine sound_of_evP' G_stays (E := E_bytes_Count) (fn := Tryd.f66) (c := C_bytes_Count) (tyOk_of_table rfl tis_ok) (fun w S hg => ⟨⟨(fns_cons (bytes_Index_sound w S hg) (fns_cons (unicode_utf8_RuneCount_sound w S hg) (fns_cons (internal_bytealg_Count_sound w S hg) fns_nil))), fun f sp h => cns_nil f sp h w S⟩, gl_none w S hg⟩) follows Tryd.func66 (by kernel_rfl) (by kernel_rfl) (by kernel_rfl) ?_
  intro avs r h
  unfold s_bytes_Count at h
  split at h
  · simp only [Prod.mk.injEq] at h
    obtain ⟨hp, rfl⟩ := h
    obtain ⟨n, hn⟩ := bytes_Count_math _ _ hp
    exact ⟨n, _, (bytes_Count_ev n _ _ _ _).trans hn, .inl rfl⟩
  · cases h

/-! bytes.genSplit -/

noncomputable def E_bytes_genSplit : EnvP := ⟨⟨tiOf tis, fnsOf [(65, s_bytes_explode), (66, s_bytes_Count), (67, s_bytes_Index)], cnsOf [], [], 70, (fun x => if x = 11 then some [0, 1, 2, 3, 9, 10] else none), (fun x => if x = 0 then some [0, 9, 10] else if x = 1 then some [0, 1, 2, 3, 9, 10] else none), some [1000008]⟩, (fun x => if x = 32 then some (.psl 25 (.leaf (.sl .byte))) else none), fun _ => none, fun _ => []⟩
noncomputable def C_bytes_genSplit : Code := Tryd.f59.body.getD .skip
noncomputable def R_bytes_genSplit : Array ResultVar := Tryd.f59.results
theorem bytes_genSplit_l11_ok (K : Ex → Fr → Option AV) : ∀ (n : Nat) (s0 : List UInt8) (sep1 : List UInt8) (sepSave2 : Int) (n3 : Int) (a9 : List (List UInt8)) (i10 : Int), evLP E_bytes_genSplit n (sub C_bytes_genSplit [1, 1, 1, 1, 1, 1, 1, 1, 0, 0, 0]) K (frOf [(0, (.dat (.sl .byte) s0 none)), (1, (.dat (.sl .byte) sep1 none)), (2, (.dat (.int .i64) sepSave2 none)), (3, (.dat (.int .i64) n3 none)), (9, (.pv (.psl 25 (.leaf (.sl .byte))) a9 none)), (10, (.dat (.int .i64) i10 none))]) = bytes_genSplit_l11 (fun s0 a9 i10 => K (.exit 0) (frOf [(0, (.dat (.sl .byte) s0 none)), (9, (.pv (.psl 25 (.leaf (.sl .byte))) a9 none)), (10, (.dat (.int .i64) i10 none))])) n s0 sep1 sepSave2 n3 a9 i10 := by
  intro n
  induction n with
  | zero => intros; rfl
  | succ n IH =>
  intro s0 sep1 sepSave2 n3 a9 i10
  have ih : (fun s0 sep1 sepSave2 n3 a9 i10 => evLP E_bytes_genSplit n (sub C_bytes_genSplit [1, 1, 1, 1, 1, 1, 1, 1, 0, 0, 0]) K (frOf [(0, (.dat (.sl .byte) s0 none)), (1, (.dat (.sl .byte) sep1 none)), (2, (.dat (.int .i64) sepSave2 none)), (3, (.dat (.int .i64) n3 none)), (9, (.pv (.psl 25 (.leaf (.sl .byte))) a9 none)), (10, (.dat (.int .i64) i10 none))])) = bytes_genSplit_l11 (fun s0 a9 i10 => K (.exit 0) (frOf [(0, (.dat (.sl .byte) s0 none)), (9, (.pv (.psl 25 (.leaf (.sl .byte))) a9 none)), (10, (.dat (.int .i64) i10 none))])) n := by
    funext s0 sep1 sepSave2 n3 a9 i10
    exact IH s0 sep1 sepSave2 n3 a9 i10
  show _ = bytes_genSplit_l11_b (fun s0 a9 i10 => K (.exit 0) (frOf [(0, (.dat (.sl .byte) s0 none)), (9, (.pv (.psl 25 (.leaf (.sl .byte))) a9 none)), (10, (.dat (.int .i64) i10 none))])) (bytes_genSplit_l11 (fun s0 a9 i10 => K (.exit 0) (frOf [(0, (.dat (.sl .byte) s0 none)), (9, (.pv (.psl 25 (.leaf (.sl .byte))) a9 none)), (10, (.dat (.int .i64) i10 none))])) n) n s0 sep1 sepSave2 n3 a9 i10
  rw [← ih]
  kernel_rfl
theorem bytes_genSplit_k11_0_ok (n : Nat) (s0 : List UInt8) (a9 : List (List UInt8)) (i10 : Int) : (kBlockP 0 (E_bytes_genSplit.cutb 0) (kSeq (evCP E_bytes_genSplit (evLP E_bytes_genSplit n) (sub C_bytes_genSplit [1, 1, 1, 1, 1, 1, 1, 1, 1])) (kFnP E_bytes_genSplit R_bytes_genSplit))) (.exit 0) (frOf [(0, (.dat (.sl .byte) s0 none)), (9, (.pv (.psl 25 (.leaf (.sl .byte))) a9 none)), (10, (.dat (.int .i64) i10 none))]) = bytes_genSplit_k11_0 n s0 a9 i10 := by
  kernel_rfl
theorem bytes_genSplit_ev (n : Nat) (s0 : List UInt8) (o0 : Lab) (sep1 : List UInt8) (o1 : Lab) (sepSave2 : Int) (o2 : Lab) (n3 : Int) (o3 : Lab) : evFnP E_bytes_genSplit n C_bytes_genSplit R_bytes_genSplit [.dat (.sl .byte) s0 o0, .dat (.sl .byte) sep1 o1, .dat (.int .i64) sepSave2 o2, .dat (.int .i64) n3 o3] = bytes_genSplit_sh n s0 sep1 sepSave2 n3 := by
  unfold bytes_genSplit_sh
  rw [show bytes_genSplit_l11 (bytes_genSplit_k11_0 n) n = (fun s0 sep1 sepSave2 n3 a9 i10 => evLP E_bytes_genSplit n (sub C_bytes_genSplit [1, 1, 1, 1, 1, 1, 1, 1, 0, 0, 0]) (kBlockP 0 (E_bytes_genSplit.cutb 0) (kSeq (evCP E_bytes_genSplit (evLP E_bytes_genSplit n) (sub C_bytes_genSplit [1, 1, 1, 1, 1, 1, 1, 1, 1])) (kFnP E_bytes_genSplit R_bytes_genSplit))) (frOf [(0, (.dat (.sl .byte) s0 none)), (1, (.dat (.sl .byte) sep1 none)), (2, (.dat (.int .i64) sepSave2 none)), (3, (.dat (.int .i64) n3 none)), (9, (.pv (.psl 25 (.leaf (.sl .byte))) a9 none)), (10, (.dat (.int .i64) i10 none))])) from by
    funext s0 sep1 sepSave2 n3 a9 i10
    refine Eq.trans ?_ (bytes_genSplit_l11_ok (kBlockP 0 (E_bytes_genSplit.cutb 0) (kSeq (evCP E_bytes_genSplit (evLP E_bytes_genSplit n) (sub C_bytes_genSplit [1, 1, 1, 1, 1, 1, 1, 1, 1])) (kFnP E_bytes_genSplit R_bytes_genSplit))) n s0 sep1 sepSave2 n3 a9 i10).symm
    rw [show (fun s0 a9 i10 => (kBlockP 0 (E_bytes_genSplit.cutb 0) (kSeq (evCP E_bytes_genSplit (evLP E_bytes_genSplit n) (sub C_bytes_genSplit [1, 1, 1, 1, 1, 1, 1, 1, 1])) (kFnP E_bytes_genSplit R_bytes_genSplit))) (.exit 0) (frOf [(0, (.dat (.sl .byte) s0 none)), (9, (.pv (.psl 25 (.leaf (.sl .byte))) a9 none)), (10, (.dat (.int .i64) i10 none))])) = (bytes_genSplit_k11_0 n) from by
      funext s0 a9 i10
      exact bytes_genSplit_k11_0_ok n s0 a9 i10]
    all_goals kernel_rfl]
  kernel_rfl
theorem bytes_genSplit_sound : SoundG G Tryd.prog 59 s_bytes_genSplit := by
  refine sound_of_evP' G_stays (E := E_bytes_genSplit) (fn := Tryd.f59) (c := C_bytes_genSplit) (tyOk_of_table rfl tis_ok) (fun w S hg => ⟨⟨(fns_cons (bytes_explode_sound w S hg) (fns_cons (bytes_Count_sound w S hg) (fns_cons (bytes_Index_sound w S hg) fns_nil))), fun f sp h => cns_nil f sp h w S⟩, gl_none w S hg⟩) follows Tryd.func59 (by kernel_rfl) (by kernel_rfl) (by kernel_rfl) ?_
  intro avs r h
  unfold s_bytes_genSplit at h
  split at h
  · simp only [Prod.mk.injEq] at h
    obtain ⟨hp, rfl⟩ := h
    obtain ⟨n, hn⟩ := bytes_genSplit_math _ _ _ _ hp
    exact ⟨n, _, (bytes_genSplit_ev n _ _ _ _ _ _ _ _).trans hn, .inl rfl⟩
  · cases h

end Go.Av
