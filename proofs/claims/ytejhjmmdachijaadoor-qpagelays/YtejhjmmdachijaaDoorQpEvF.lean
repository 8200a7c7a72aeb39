import Derived.Test.YtejhjmmdachijaaDoorQpEvE
import Derived.Test.YtejhjmmdachijaaDoorQpN
import Derived.Test.YtejhjmmdachijaaDoorProg
import Derived.KernelRfl
namespace Go.Av
open Go.Proofs
set_option maxRecDepth 100000
set_option linter.unusedVariables false
/-! sheave/sheaveref01.Like -/

noncomputable def E_ref01_Like : EnvP := ⟨⟨tiOf tis, fnsOf [], cnsOf [], [], 26, (fun x => if x = 4 then some [0, 1, 5] else none), (fun x => if x = 0 then some [] else if x = 1 then some [0, 1, 5] else none), some [4]⟩, fun _ => none, fun _ => none, fun _ => [], fun _ => none⟩
noncomputable def C_ref01_Like : Code := Tryd.f18.body.getD .skip
noncomputable def R_ref01_Like : Array ResultVar := Tryd.f18.results
theorem ref01_Like_l4_ok (K : Ex → Fr → Option AV) : ∀ (n : Nat) (a0 : List UInt8) (b1 : List UInt8) (i5 : Int), evLP E_ref01_Like n (sub C_ref01_Like [1, 1, 0, 1, 0, 0]) K (frOf [(0, (.dat (.sl .byte) a0 none)), (1, (.dat (.sl .byte) b1 none)), (5, (.dat (.int .i64) i5 none))]) = ref01_Like_l4 (fun s4 => K .ret (frOf [(4, (.dat .bool s4 none))])) (K (.exit 0) (frOf [])) n a0 b1 i5 := by
  intro n
  induction n with
  | zero => intros; rfl
  | succ n IH =>
  intro a0 b1 i5
  have ih : (fun a0 b1 i5 => evLP E_ref01_Like n (sub C_ref01_Like [1, 1, 0, 1, 0, 0]) K (frOf [(0, (.dat (.sl .byte) a0 none)), (1, (.dat (.sl .byte) b1 none)), (5, (.dat (.int .i64) i5 none))])) = ref01_Like_l4 (fun s4 => K .ret (frOf [(4, (.dat .bool s4 none))])) (K (.exit 0) (frOf [])) n := by
    funext a0 b1 i5
    exact IH a0 b1 i5
  show _ = ref01_Like_l4_b (fun s4 => K .ret (frOf [(4, (.dat .bool s4 none))])) (K (.exit 0) (frOf [])) (ref01_Like_l4 (fun s4 => K .ret (frOf [(4, (.dat .bool s4 none))])) (K (.exit 0) (frOf [])) n) n a0 b1 i5
  rw [← ih]
  kernel_rfl
theorem ref01_Like_k4_0_ok (n : Nat)  : (kBlockP 0 (E_ref01_Like.cutb 0) (kSeq (evCP E_ref01_Like (evLP E_ref01_Like n) (sub C_ref01_Like [1, 1, 1])) (kFnP E_ref01_Like R_ref01_Like))) (.exit 0) (frOf []) = ref01_Like_k4_0 n  := by
  kernel_rfl
theorem ref01_Like_ev (n : Nat) (a0 : List UInt8) (o0 : Lab) (b1 : List UInt8) (o1 : Lab) : evFnP E_ref01_Like n C_ref01_Like R_ref01_Like [.dat (.sl .byte) a0 o0, .dat (.sl .byte) b1 o1] = ref01_Like_sh n a0 b1 := by
  unfold ref01_Like_sh
  rw [show ref01_Like_l4 ref01_Like_ret (ref01_Like_k4_0 n) n = (fun a0 b1 i5 => evLP E_ref01_Like n (sub C_ref01_Like [1, 1, 0, 1, 0, 0]) (kBlockP 0 (E_ref01_Like.cutb 0) (kSeq (evCP E_ref01_Like (evLP E_ref01_Like n) (sub C_ref01_Like [1, 1, 1])) (kFnP E_ref01_Like R_ref01_Like))) (frOf [(0, (.dat (.sl .byte) a0 none)), (1, (.dat (.sl .byte) b1 none)), (5, (.dat (.int .i64) i5 none))])) from by
    funext a0 b1 i5
    refine Eq.trans ?_ (ref01_Like_l4_ok (kBlockP 0 (E_ref01_Like.cutb 0) (kSeq (evCP E_ref01_Like (evLP E_ref01_Like n) (sub C_ref01_Like [1, 1, 1])) (kFnP E_ref01_Like R_ref01_Like))) n a0 b1 i5).symm
    rw [show ((kBlockP 0 (E_ref01_Like.cutb 0) (kSeq (evCP E_ref01_Like (evLP E_ref01_Like n) (sub C_ref01_Like [1, 1, 1])) (kFnP E_ref01_Like R_ref01_Like))) (.exit 0) (frOf [])) = (ref01_Like_k4_0 n) from by
      exact ref01_Like_k4_0_ok n ]
    all_goals kernel_rfl]
  kernel_rfl
theorem ref01_Like_sound : SoundG G Tryd.prog 18 s_ref01_Like := by
  refine sound_of_evP' G_stays (E := E_ref01_Like) (fn := Tryd.f18) (c := C_ref01_Like) (tyOk_of_table rfl tis_ok) (fun w S hg => ⟨⟨fns_nil, fun f sp h => cns_nil f sp h w S⟩, gl_none w S hg, fun _ _ h => by cases h⟩) follows Tryd.func18 (by kernel_rfl) (by kernel_rfl) (by kernel_rfl) ?_
  intro avs r h
  unfold s_ref01_Like at h
  split at h
  · simp only [Prod.mk.injEq] at h
    obtain ⟨hp, rfl⟩ := h
    obtain ⟨n, hn⟩ := ref01_Like_math _ _ hp
    exact ⟨n, _, (ref01_Like_ev n _ _ _ _).trans hn, .inl rfl⟩
  · cases h

/-! sheave/sheaveref01.has -/

noncomputable def E_ref01_has : EnvP := ⟨⟨tiOf tis, fnsOf [], cnsOf [], [], 17, (fun x => if x = 2 then some [0, 1, 5] else none), (fun x => if x = 0 then some [] else if x = 1 then some [0, 1, 5] else none), some [4]⟩, fun _ => none, fun _ => none, fun _ => [], fun _ => none⟩
noncomputable def C_ref01_has : Code := Tryd.f76.body.getD .skip
noncomputable def R_ref01_has : Array ResultVar := Tryd.f76.results
theorem ref01_has_l2_ok (K : Ex → Fr → Option AV) : ∀ (n : Nat) (s0 : List UInt8) (c1 : UInt8) (i5 : Int), evLP E_ref01_has n (sub C_ref01_has [1, 0, 1, 0, 0]) K (frOf [(0, (.dat .str s0 none)), (1, (.dat .byte c1 none)), (5, (.dat (.int .i64) i5 none))]) = ref01_has_l2 (fun s4 => K .ret (frOf [(4, (.dat .bool s4 none))])) (K (.exit 0) (frOf [])) n s0 c1 i5 := by
  intro n
  induction n with
  | zero => intros; rfl
  | succ n IH =>
  intro s0 c1 i5
  have ih : (fun s0 c1 i5 => evLP E_ref01_has n (sub C_ref01_has [1, 0, 1, 0, 0]) K (frOf [(0, (.dat .str s0 none)), (1, (.dat .byte c1 none)), (5, (.dat (.int .i64) i5 none))])) = ref01_has_l2 (fun s4 => K .ret (frOf [(4, (.dat .bool s4 none))])) (K (.exit 0) (frOf [])) n := by
    funext s0 c1 i5
    exact IH s0 c1 i5
  show _ = ref01_has_l2_b (fun s4 => K .ret (frOf [(4, (.dat .bool s4 none))])) (K (.exit 0) (frOf [])) (ref01_has_l2 (fun s4 => K .ret (frOf [(4, (.dat .bool s4 none))])) (K (.exit 0) (frOf [])) n) n s0 c1 i5
  rw [← ih]
  kernel_rfl
theorem ref01_has_k2_0_ok (n : Nat)  : (kBlockP 0 (E_ref01_has.cutb 0) (kSeq (evCP E_ref01_has (evLP E_ref01_has n) (sub C_ref01_has [1, 1])) (kFnP E_ref01_has R_ref01_has))) (.exit 0) (frOf []) = ref01_has_k2_0 n  := by
  kernel_rfl
theorem ref01_has_ev (n : Nat) (s0 : List UInt8) (o0 : Lab) (c1 : UInt8) (o1 : Lab) : evFnP E_ref01_has n C_ref01_has R_ref01_has [.dat .str s0 o0, .dat .byte c1 o1] = ref01_has_sh n s0 c1 := by
  unfold ref01_has_sh
  rw [show ref01_has_l2 ref01_has_ret (ref01_has_k2_0 n) n = (fun s0 c1 i5 => evLP E_ref01_has n (sub C_ref01_has [1, 0, 1, 0, 0]) (kBlockP 0 (E_ref01_has.cutb 0) (kSeq (evCP E_ref01_has (evLP E_ref01_has n) (sub C_ref01_has [1, 1])) (kFnP E_ref01_has R_ref01_has))) (frOf [(0, (.dat .str s0 none)), (1, (.dat .byte c1 none)), (5, (.dat (.int .i64) i5 none))])) from by
    funext s0 c1 i5
    refine Eq.trans ?_ (ref01_has_l2_ok (kBlockP 0 (E_ref01_has.cutb 0) (kSeq (evCP E_ref01_has (evLP E_ref01_has n) (sub C_ref01_has [1, 1])) (kFnP E_ref01_has R_ref01_has))) n s0 c1 i5).symm
    rw [show ((kBlockP 0 (E_ref01_has.cutb 0) (kSeq (evCP E_ref01_has (evLP E_ref01_has n) (sub C_ref01_has [1, 1])) (kFnP E_ref01_has R_ref01_has))) (.exit 0) (frOf [])) = (ref01_has_k2_0 n) from by
      exact ref01_has_k2_0_ok n ]
    all_goals kernel_rfl]
  kernel_rfl
theorem ref01_has_sound : SoundG G Tryd.prog 76 s_ref01_has := by
  refine sound_of_evP' G_stays (E := E_ref01_has) (fn := Tryd.f76) (c := C_ref01_has) (tyOk_of_table rfl tis_ok) (fun w S hg => ⟨⟨fns_nil, fun f sp h => cns_nil f sp h w S⟩, gl_none w S hg, fun _ _ h => by cases h⟩) follows Tryd.func76 (by kernel_rfl) (by kernel_rfl) (by kernel_rfl) ?_
  intro avs r h
  unfold s_ref01_has at h
  split at h
  · simp only [Prod.mk.injEq] at h
    obtain ⟨hp, rfl⟩ := h
    obtain ⟨n, hn⟩ := ref01_has_math _ _ hp
    exact ⟨n, _, (ref01_has_ev n _ _ _ _).trans hn, .inl rfl⟩
  · cases h

/-! sheave/sheaveref01.Kinds -/

noncomputable def E_ref01_Kinds : EnvP := ⟨⟨tiOf tis, fnsOf [(76, s_ref01_has)], cnsOf [], [], 104, (fun _ => none), (fun _ => none), some [2]⟩, fun _ => none, fun _ => none, fun _ => [], fun _ => none⟩
noncomputable def C_ref01_Kinds : Code := Tryd.f57.body.getD .skip
noncomputable def R_ref01_Kinds : Array ResultVar := Tryd.f57.results
def resI : Option AV → Int → Bool
  | some (.dat (.int .i64) x none), v => x == v
  | _, _ => false
theorem resI_ok {o : Option AV} {v : Int} (h : resI o v = true) : o = some (.dat (.int .i64) v none) := by
  unfold resI at h
  split at h
  · simp only [beq_iff_eq] at h
    subst h
    rfl
  · cases h
theorem ref01_Kinds_0 : ∀ i : Fin 16, resI (evFnP E_ref01_Kinds 1 C_ref01_Kinds R_ref01_Kinds [.dat .byte (UInt8.ofNat (0 + i.val)) none]) (ref01_Kinds (UInt8.ofNat (0 + i.val))) = true := by decide +kernel
theorem ref01_Kinds_1 : ∀ i : Fin 16, resI (evFnP E_ref01_Kinds 1 C_ref01_Kinds R_ref01_Kinds [.dat .byte (UInt8.ofNat (16 + i.val)) none]) (ref01_Kinds (UInt8.ofNat (16 + i.val))) = true := by decide +kernel
theorem ref01_Kinds_2 : ∀ i : Fin 16, resI (evFnP E_ref01_Kinds 1 C_ref01_Kinds R_ref01_Kinds [.dat .byte (UInt8.ofNat (32 + i.val)) none]) (ref01_Kinds (UInt8.ofNat (32 + i.val))) = true := by decide +kernel
theorem ref01_Kinds_3 : ∀ i : Fin 16, resI (evFnP E_ref01_Kinds 1 C_ref01_Kinds R_ref01_Kinds [.dat .byte (UInt8.ofNat (48 + i.val)) none]) (ref01_Kinds (UInt8.ofNat (48 + i.val))) = true := by decide +kernel
theorem ref01_Kinds_4 : ∀ i : Fin 16, resI (evFnP E_ref01_Kinds 1 C_ref01_Kinds R_ref01_Kinds [.dat .byte (UInt8.ofNat (64 + i.val)) none]) (ref01_Kinds (UInt8.ofNat (64 + i.val))) = true := by decide +kernel
theorem ref01_Kinds_5 : ∀ i : Fin 16, resI (evFnP E_ref01_Kinds 1 C_ref01_Kinds R_ref01_Kinds [.dat .byte (UInt8.ofNat (80 + i.val)) none]) (ref01_Kinds (UInt8.ofNat (80 + i.val))) = true := by decide +kernel
theorem ref01_Kinds_6 : ∀ i : Fin 16, resI (evFnP E_ref01_Kinds 1 C_ref01_Kinds R_ref01_Kinds [.dat .byte (UInt8.ofNat (96 + i.val)) none]) (ref01_Kinds (UInt8.ofNat (96 + i.val))) = true := by decide +kernel
theorem ref01_Kinds_7 : ∀ i : Fin 16, resI (evFnP E_ref01_Kinds 1 C_ref01_Kinds R_ref01_Kinds [.dat .byte (UInt8.ofNat (112 + i.val)) none]) (ref01_Kinds (UInt8.ofNat (112 + i.val))) = true := by decide +kernel
theorem ref01_Kinds_8 : ∀ i : Fin 16, resI (evFnP E_ref01_Kinds 1 C_ref01_Kinds R_ref01_Kinds [.dat .byte (UInt8.ofNat (128 + i.val)) none]) (ref01_Kinds (UInt8.ofNat (128 + i.val))) = true := by decide +kernel
theorem ref01_Kinds_9 : ∀ i : Fin 16, resI (evFnP E_ref01_Kinds 1 C_ref01_Kinds R_ref01_Kinds [.dat .byte (UInt8.ofNat (144 + i.val)) none]) (ref01_Kinds (UInt8.ofNat (144 + i.val))) = true := by decide +kernel
theorem ref01_Kinds_10 : ∀ i : Fin 16, resI (evFnP E_ref01_Kinds 1 C_ref01_Kinds R_ref01_Kinds [.dat .byte (UInt8.ofNat (160 + i.val)) none]) (ref01_Kinds (UInt8.ofNat (160 + i.val))) = true := by decide +kernel
theorem ref01_Kinds_11 : ∀ i : Fin 16, resI (evFnP E_ref01_Kinds 1 C_ref01_Kinds R_ref01_Kinds [.dat .byte (UInt8.ofNat (176 + i.val)) none]) (ref01_Kinds (UInt8.ofNat (176 + i.val))) = true := by decide +kernel
theorem ref01_Kinds_12 : ∀ i : Fin 16, resI (evFnP E_ref01_Kinds 1 C_ref01_Kinds R_ref01_Kinds [.dat .byte (UInt8.ofNat (192 + i.val)) none]) (ref01_Kinds (UInt8.ofNat (192 + i.val))) = true := by decide +kernel
theorem ref01_Kinds_13 : ∀ i : Fin 16, resI (evFnP E_ref01_Kinds 1 C_ref01_Kinds R_ref01_Kinds [.dat .byte (UInt8.ofNat (208 + i.val)) none]) (ref01_Kinds (UInt8.ofNat (208 + i.val))) = true := by decide +kernel
theorem ref01_Kinds_14 : ∀ i : Fin 16, resI (evFnP E_ref01_Kinds 1 C_ref01_Kinds R_ref01_Kinds [.dat .byte (UInt8.ofNat (224 + i.val)) none]) (ref01_Kinds (UInt8.ofNat (224 + i.val))) = true := by decide +kernel
theorem ref01_Kinds_15 : ∀ i : Fin 16, resI (evFnP E_ref01_Kinds 1 C_ref01_Kinds R_ref01_Kinds [.dat .byte (UInt8.ofNat (240 + i.val)) none]) (ref01_Kinds (UInt8.ofNat (240 + i.val))) = true := by decide +kernel
theorem ref01_Kinds_all : ∀ i : Fin 256, resI (evFnP E_ref01_Kinds 1 C_ref01_Kinds R_ref01_Kinds [.dat .byte (UInt8.ofNat (i.val)) none]) (ref01_Kinds (UInt8.ofNat (i.val))) = true := fun ⟨i, hi⟩ => by
  rcases (show i / 16 = 0 ∨ i / 16 = 1 ∨ i / 16 = 2 ∨ i / 16 = 3 ∨ i / 16 = 4 ∨ i / 16 = 5 ∨ i / 16 = 6 ∨ i / 16 = 7 ∨ i / 16 = 8 ∨ i / 16 = 9 ∨ i / 16 = 10 ∨ i / 16 = 11 ∨ i / 16 = 12 ∨ i / 16 = 13 ∨ i / 16 = 14 ∨ i / 16 = 15 by omega) with e | e | e | e | e | e | e | e | e | e | e | e | e | e | e | e
  · have h := ref01_Kinds_0 ⟨i - 0, by omega⟩
    have e2 : 0 + (i - 0) = i := by omega
    simp only [e2] at h
    exact h
  · have h := ref01_Kinds_1 ⟨i - 16, by omega⟩
    have e2 : 16 + (i - 16) = i := by omega
    simp only [e2] at h
    exact h
  · have h := ref01_Kinds_2 ⟨i - 32, by omega⟩
    have e2 : 32 + (i - 32) = i := by omega
    simp only [e2] at h
    exact h
  · have h := ref01_Kinds_3 ⟨i - 48, by omega⟩
    have e2 : 48 + (i - 48) = i := by omega
    simp only [e2] at h
    exact h
  · have h := ref01_Kinds_4 ⟨i - 64, by omega⟩
    have e2 : 64 + (i - 64) = i := by omega
    simp only [e2] at h
    exact h
  · have h := ref01_Kinds_5 ⟨i - 80, by omega⟩
    have e2 : 80 + (i - 80) = i := by omega
    simp only [e2] at h
    exact h
  · have h := ref01_Kinds_6 ⟨i - 96, by omega⟩
    have e2 : 96 + (i - 96) = i := by omega
    simp only [e2] at h
    exact h
  · have h := ref01_Kinds_7 ⟨i - 112, by omega⟩
    have e2 : 112 + (i - 112) = i := by omega
    simp only [e2] at h
    exact h
  · have h := ref01_Kinds_8 ⟨i - 128, by omega⟩
    have e2 : 128 + (i - 128) = i := by omega
    simp only [e2] at h
    exact h
  · have h := ref01_Kinds_9 ⟨i - 144, by omega⟩
    have e2 : 144 + (i - 144) = i := by omega
    simp only [e2] at h
    exact h
  · have h := ref01_Kinds_10 ⟨i - 160, by omega⟩
    have e2 : 160 + (i - 160) = i := by omega
    simp only [e2] at h
    exact h
  · have h := ref01_Kinds_11 ⟨i - 176, by omega⟩
    have e2 : 176 + (i - 176) = i := by omega
    simp only [e2] at h
    exact h
  · have h := ref01_Kinds_12 ⟨i - 192, by omega⟩
    have e2 : 192 + (i - 192) = i := by omega
    simp only [e2] at h
    exact h
  · have h := ref01_Kinds_13 ⟨i - 208, by omega⟩
    have e2 : 208 + (i - 208) = i := by omega
    simp only [e2] at h
    exact h
  · have h := ref01_Kinds_14 ⟨i - 224, by omega⟩
    have e2 : 224 + (i - 224) = i := by omega
    simp only [e2] at h
    exact h
  · have h := ref01_Kinds_15 ⟨i - 240, by omega⟩
    have e2 : 240 + (i - 240) = i := by omega
    simp only [e2] at h
    exact h
theorem ref01_Kinds_ev (c : UInt8) (o : Lab) : evFnP E_ref01_Kinds 1 C_ref01_Kinds R_ref01_Kinds [.dat .byte c o] = some (.dat (.int .i64) (ref01_Kinds c) none) := by
  have h : resI (evFnP E_ref01_Kinds 1 C_ref01_Kinds R_ref01_Kinds [.dat .byte c none]) (ref01_Kinds c) = true := fin_of (P := fun c => resI (evFnP E_ref01_Kinds 1 C_ref01_Kinds R_ref01_Kinds [.dat .byte c none]) (ref01_Kinds c) = true) ref01_Kinds_all c
  have e : evFnP E_ref01_Kinds 1 C_ref01_Kinds R_ref01_Kinds [.dat .byte c o] = evFnP E_ref01_Kinds 1 C_ref01_Kinds R_ref01_Kinds [.dat .byte c none] := by
    unfold evFnP
    have : (fun t => (([.dat .byte c o] : List AV).getD t .bad).strip) = fun t => (([.dat .byte c none] : List AV).getD t .bad).strip := by
      funext t
      match t with
      | 0 => rfl
      | t + 1 => rfl
    rw [this]
    rfl
  rw [e]
  exact resI_ok h
theorem ref01_Kinds_sound : SoundG G Tryd.prog 57 s_ref01_Kinds := by
  refine sound_of_evP' G_stays (E := E_ref01_Kinds) (fn := Tryd.f57) (c := C_ref01_Kinds) (tyOk_of_table rfl tis_ok) (fun w S hg => ⟨⟨(fns_cons (ref01_has_sound w S hg) fns_nil), fun f sp h => cns_nil f sp h w S⟩, gl_none w S hg, fun _ _ h => by cases h⟩) follows Tryd.func57 (by kernel_rfl) (by kernel_rfl) (by kernel_rfl) ?_
  intro avs r h
  unfold s_ref01_Kinds at h
  split at h
  · simp only [Prod.mk.injEq, true_and] at h
    subst h
    exact ⟨1, _, ref01_Kinds_ev _ _, .inl rfl⟩
  · cases h

end Go.Av
