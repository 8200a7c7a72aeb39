import Derived.Test.YtejhjmmdachijaaDoorQrEvA
import Derived.Test.YtejhjmmdachijaaDoorQpN
import Derived.Test.YtejhjmmdachijaaDoorProg
import Derived.KernelRfl
namespace Go.Av
set_option linter.unusedSimpArgs false
open Go.Proofs
set_option maxRecDepth 100000
set_option linter.unusedVariables false
noncomputable def E_z76 : EnvP := ⟨⟨tiOf tis, fnsOf [], cnsOf [], [], 17, (fun x => if x = 2 then some [0, 1, 5] else none), (fun x => if x = 0 then some [] else if x = 1 then some [0, 1, 5] else none), some [4]⟩, fun _ => none, fun _ => none, fun _ => [], fun _ => none, fun _ => none, fun _ => none⟩
noncomputable def C_z76 : Code := Tryd.f76.body.getD .skip
noncomputable def R_z76 : Array ResultVar := Tryd.f76.results
theorem z76_l2_ok (K : Ex → Fr → Option AV) : ∀ (n : Nat) (s0 : List UInt8) (c1 : UInt8) (i5 : Int), evLP E_z76 n (sub C_z76 [1, 0, 1, 0, 0]) K (frOf [(0, (.dat .str s0 none)), (1, (.dat .byte c1 none)), (5, (.dat (.int .i64) i5 none))]) = z76_l2 (fun s4 => K .ret (frOf [(4, (.dat .bool s4 none))])) (K (.exit 0) (frOf [])) n s0 c1 i5 := by
  intro n
  induction n with
  | zero => intros; rfl
  | succ n IH =>
  intro s0 c1 i5
  have ih : (fun s0 c1 i5 => evLP E_z76 n (sub C_z76 [1, 0, 1, 0, 0]) K (frOf [(0, (.dat .str s0 none)), (1, (.dat .byte c1 none)), (5, (.dat (.int .i64) i5 none))])) = z76_l2 (fun s4 => K .ret (frOf [(4, (.dat .bool s4 none))])) (K (.exit 0) (frOf [])) n := by
    funext s0 c1 i5
    exact IH s0 c1 i5
  show _ = z76_l2_b (fun s4 => K .ret (frOf [(4, (.dat .bool s4 none))])) (K (.exit 0) (frOf [])) (z76_l2 (fun s4 => K .ret (frOf [(4, (.dat .bool s4 none))])) (K (.exit 0) (frOf [])) n) n s0 c1 i5
  rw [← ih]
  kernel_rfl
theorem z76_k2_0_ok (n : Nat)  : (kBlockP 0 (E_z76.cutb 0) (kSeq (evCP E_z76 (evLP E_z76 n) (sub C_z76 [1, 1])) (kFnP E_z76 R_z76))) (.exit 0) (frOf []) = z76_k2_0 n  := by
  kernel_rfl
theorem z76_ev (n : Nat) (s0 : List UInt8) (o0 : Lab) (c1 : UInt8) (o1 : Lab) : evFnP E_z76 n C_z76 R_z76 [.dat .str s0 o0, .dat .byte c1 o1] = z76_sh n s0 c1 := by
  unfold z76_sh
  rw [show z76_l2 z76_ret (z76_k2_0 n) n = (fun s0 c1 i5 => evLP E_z76 n (sub C_z76 [1, 0, 1, 0, 0]) (kBlockP 0 (E_z76.cutb 0) (kSeq (evCP E_z76 (evLP E_z76 n) (sub C_z76 [1, 1])) (kFnP E_z76 R_z76))) (frOf [(0, (.dat .str s0 none)), (1, (.dat .byte c1 none)), (5, (.dat (.int .i64) i5 none))])) from by
    funext s0 c1 i5
    refine Eq.trans ?_ (z76_l2_ok (kBlockP 0 (E_z76.cutb 0) (kSeq (evCP E_z76 (evLP E_z76 n) (sub C_z76 [1, 1])) (kFnP E_z76 R_z76))) n s0 c1 i5).symm
    rw [show ((kBlockP 0 (E_z76.cutb 0) (kSeq (evCP E_z76 (evLP E_z76 n) (sub C_z76 [1, 1])) (kFnP E_z76 R_z76))) (.exit 0) (frOf [])) = (z76_k2_0 n) from by
      exact z76_k2_0_ok n ]
    all_goals kernel_rfl]
  kernel_rfl
theorem z76_sound : SoundG G Tryd.prog 76 s_z76 := by
  refine sound_of_evP' G_stays (E := E_z76) (fn := Tryd.f76) (c := C_z76) (tyOk_of_table rfl tis_ok) (fun w S hg => ⟨⟨fns_nil, fun f sp h => cns_nil f sp h w S⟩, gl_none w S hg, (fun _ _ h => by cases h), (fun f sp h => rns_nil f sp h), (fun f it h => its_nil f it h)⟩) follows Tryd.func76 (by kernel_rfl) (by kernel_rfl) (by kernel_rfl) ?_
  intro avs r h
  unfold s_z76 at h
  split at h
  · simp only [Prod.mk.injEq] at h
    obtain ⟨hp, rfl⟩ := h
    obtain ⟨n, hn⟩ := z76_math _ _ hp
    exact ⟨n, _, (z76_ev n _ _ _ _).trans hn, .inl rfl⟩
  · cases h
noncomputable def E_z57 : EnvP := ⟨⟨tiOf tis, fnsOf [(76, s_z76)], cnsOf [], [], 104, (fun _ => none), (fun _ => none), some [2]⟩, fun _ => none, fun _ => none, fun _ => [], fun _ => none, fun _ => none, fun _ => none⟩
noncomputable def C_z57 : Code := Tryd.f57.body.getD .skip
noncomputable def R_z57 : Array ResultVar := Tryd.f57.results
def resI : Option AV → Int → Bool
  | some (.dat (.int .i64) x none), v => x == v
  | _, _ => false
theorem resI_ok {o : Option AV} {v : Int} (h : resI o v = true) : o = some (.dat (.int .i64) v none) := by
  unfold resI at h
  split at h
  · simp only [beq_iff_eq] at h
    subst h
    rfl
  · cases h
theorem z57_0 : ∀ i : Fin 16, resI (evFnP E_z57 1 C_z57 R_z57 [.dat .byte (UInt8.ofNat (0 + i.val)) none]) (z57 (UInt8.ofNat (0 + i.val))) = true := by decide +kernel
theorem z57_1 : ∀ i : Fin 16, resI (evFnP E_z57 1 C_z57 R_z57 [.dat .byte (UInt8.ofNat (16 + i.val)) none]) (z57 (UInt8.ofNat (16 + i.val))) = true := by decide +kernel
theorem z57_2 : ∀ i : Fin 16, resI (evFnP E_z57 1 C_z57 R_z57 [.dat .byte (UInt8.ofNat (32 + i.val)) none]) (z57 (UInt8.ofNat (32 + i.val))) = true := by decide +kernel
theorem z57_3 : ∀ i : Fin 16, resI (evFnP E_z57 1 C_z57 R_z57 [.dat .byte (UInt8.ofNat (48 + i.val)) none]) (z57 (UInt8.ofNat (48 + i.val))) = true := by decide +kernel
theorem z57_4 : ∀ i : Fin 16, resI (evFnP E_z57 1 C_z57 R_z57 [.dat .byte (UInt8.ofNat (64 + i.val)) none]) (z57 (UInt8.ofNat (64 + i.val))) = true := by decide +kernel
theorem z57_5 : ∀ i : Fin 16, resI (evFnP E_z57 1 C_z57 R_z57 [.dat .byte (UInt8.ofNat (80 + i.val)) none]) (z57 (UInt8.ofNat (80 + i.val))) = true := by decide +kernel
theorem z57_6 : ∀ i : Fin 16, resI (evFnP E_z57 1 C_z57 R_z57 [.dat .byte (UInt8.ofNat (96 + i.val)) none]) (z57 (UInt8.ofNat (96 + i.val))) = true := by decide +kernel
theorem z57_7 : ∀ i : Fin 16, resI (evFnP E_z57 1 C_z57 R_z57 [.dat .byte (UInt8.ofNat (112 + i.val)) none]) (z57 (UInt8.ofNat (112 + i.val))) = true := by decide +kernel
theorem z57_8 : ∀ i : Fin 16, resI (evFnP E_z57 1 C_z57 R_z57 [.dat .byte (UInt8.ofNat (128 + i.val)) none]) (z57 (UInt8.ofNat (128 + i.val))) = true := by decide +kernel
theorem z57_9 : ∀ i : Fin 16, resI (evFnP E_z57 1 C_z57 R_z57 [.dat .byte (UInt8.ofNat (144 + i.val)) none]) (z57 (UInt8.ofNat (144 + i.val))) = true := by decide +kernel
theorem z57_10 : ∀ i : Fin 16, resI (evFnP E_z57 1 C_z57 R_z57 [.dat .byte (UInt8.ofNat (160 + i.val)) none]) (z57 (UInt8.ofNat (160 + i.val))) = true := by decide +kernel
theorem z57_11 : ∀ i : Fin 16, resI (evFnP E_z57 1 C_z57 R_z57 [.dat .byte (UInt8.ofNat (176 + i.val)) none]) (z57 (UInt8.ofNat (176 + i.val))) = true := by decide +kernel
theorem z57_12 : ∀ i : Fin 16, resI (evFnP E_z57 1 C_z57 R_z57 [.dat .byte (UInt8.ofNat (192 + i.val)) none]) (z57 (UInt8.ofNat (192 + i.val))) = true := by decide +kernel
theorem z57_13 : ∀ i : Fin 16, resI (evFnP E_z57 1 C_z57 R_z57 [.dat .byte (UInt8.ofNat (208 + i.val)) none]) (z57 (UInt8.ofNat (208 + i.val))) = true := by decide +kernel
theorem z57_14 : ∀ i : Fin 16, resI (evFnP E_z57 1 C_z57 R_z57 [.dat .byte (UInt8.ofNat (224 + i.val)) none]) (z57 (UInt8.ofNat (224 + i.val))) = true := by decide +kernel
theorem z57_15 : ∀ i : Fin 16, resI (evFnP E_z57 1 C_z57 R_z57 [.dat .byte (UInt8.ofNat (240 + i.val)) none]) (z57 (UInt8.ofNat (240 + i.val))) = true := by decide +kernel
theorem z57_all : ∀ i : Fin 256, resI (evFnP E_z57 1 C_z57 R_z57 [.dat .byte (UInt8.ofNat (i.val)) none]) (z57 (UInt8.ofNat (i.val))) = true := fun ⟨i, hi⟩ => by
  rcases (show i / 16 = 0 ∨ i / 16 = 1 ∨ i / 16 = 2 ∨ i / 16 = 3 ∨ i / 16 = 4 ∨ i / 16 = 5 ∨ i / 16 = 6 ∨ i / 16 = 7 ∨ i / 16 = 8 ∨ i / 16 = 9 ∨ i / 16 = 10 ∨ i / 16 = 11 ∨ i / 16 = 12 ∨ i / 16 = 13 ∨ i / 16 = 14 ∨ i / 16 = 15 by omega) with e | e | e | e | e | e | e | e | e | e | e | e | e | e | e | e
  · have h := z57_0 ⟨i - 0, by omega⟩
    have e2 : 0 + (i - 0) = i := by omega
    simp only [e2] at h
    exact h
  · have h := z57_1 ⟨i - 16, by omega⟩
    have e2 : 16 + (i - 16) = i := by omega
    simp only [e2] at h
    exact h
  · have h := z57_2 ⟨i - 32, by omega⟩
    have e2 : 32 + (i - 32) = i := by omega
    simp only [e2] at h
    exact h
  · have h := z57_3 ⟨i - 48, by omega⟩
    have e2 : 48 + (i - 48) = i := by omega
    simp only [e2] at h
    exact h
  · have h := z57_4 ⟨i - 64, by omega⟩
    have e2 : 64 + (i - 64) = i := by omega
    simp only [e2] at h
    exact h
  · have h := z57_5 ⟨i - 80, by omega⟩
    have e2 : 80 + (i - 80) = i := by omega
    simp only [e2] at h
    exact h
  · have h := z57_6 ⟨i - 96, by omega⟩
    have e2 : 96 + (i - 96) = i := by omega
    simp only [e2] at h
    exact h
  · have h := z57_7 ⟨i - 112, by omega⟩
    have e2 : 112 + (i - 112) = i := by omega
    simp only [e2] at h
    exact h
  · have h := z57_8 ⟨i - 128, by omega⟩
    have e2 : 128 + (i - 128) = i := by omega
    simp only [e2] at h
    exact h
  · have h := z57_9 ⟨i - 144, by omega⟩
    have e2 : 144 + (i - 144) = i := by omega
    simp only [e2] at h
    exact h
  · have h := z57_10 ⟨i - 160, by omega⟩
    have e2 : 160 + (i - 160) = i := by omega
    simp only [e2] at h
    exact h
  · have h := z57_11 ⟨i - 176, by omega⟩
    have e2 : 176 + (i - 176) = i := by omega
    simp only [e2] at h
    exact h
  · have h := z57_12 ⟨i - 192, by omega⟩
    have e2 : 192 + (i - 192) = i := by omega
    simp only [e2] at h
    exact h
  · have h := z57_13 ⟨i - 208, by omega⟩
    have e2 : 208 + (i - 208) = i := by omega
    simp only [e2] at h
    exact h
  · have h := z57_14 ⟨i - 224, by omega⟩
    have e2 : 224 + (i - 224) = i := by omega
    simp only [e2] at h
    exact h
  · have h := z57_15 ⟨i - 240, by omega⟩
    have e2 : 240 + (i - 240) = i := by omega
    simp only [e2] at h
    exact h
theorem z57_ev (c : UInt8) (o : Lab) : evFnP E_z57 1 C_z57 R_z57 [.dat .byte c o] = some (.dat (.int .i64) (z57 c) none) := by
  have h : resI (evFnP E_z57 1 C_z57 R_z57 [.dat .byte c none]) (z57 c) = true := fin_of (P := fun c => resI (evFnP E_z57 1 C_z57 R_z57 [.dat .byte c none]) (z57 c) = true) z57_all c
  have e : evFnP E_z57 1 C_z57 R_z57 [.dat .byte c o] = evFnP E_z57 1 C_z57 R_z57 [.dat .byte c none] := by
    unfold evFnP
    have : (fun t => (([.dat .byte c o] : List AV).getD t .bad).strip) = fun t => (([.dat .byte c none] : List AV).getD t .bad).strip := by
      funext t
      match t with
      | 0 => rfl
      | t + 1 => rfl
    rw [this]
    rfl
  rw [e]
  exact resI_ok h
theorem z57_sound : SoundG G Tryd.prog 57 s_z57 := by
  refine sound_of_evP' G_stays (E := E_z57) (fn := Tryd.f57) (c := C_z57) (tyOk_of_table rfl tis_ok) (fun w S hg => ⟨⟨(fns_cons (z76_sound w S hg) fns_nil), fun f sp h => cns_nil f sp h w S⟩, gl_none w S hg, (fun _ _ h => by cases h), (fun _ _ h => by cases h), (fun _ _ h => by cases h)⟩) follows Tryd.func57 (by kernel_rfl) (by kernel_rfl) (by kernel_rfl) ?_
  intro avs r h
  unfold s_z57 at h
  split at h
  · simp only [Prod.mk.injEq, true_and] at h
    subst h
    exact ⟨1, _, z57_ev _ _, .inl rfl⟩
  · cases h
end Go.Av
