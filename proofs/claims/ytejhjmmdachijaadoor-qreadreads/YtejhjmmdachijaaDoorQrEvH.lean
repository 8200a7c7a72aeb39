import Derived.Test.YtejhjmmdachijaaDoorQrEvG
import Derived.Test.YtejhjmmdachijaaDoorQpN
import Derived.Test.YtejhjmmdachijaaDoorProg
import Derived.KernelRfl
namespace Go.Av
set_option linter.unusedSimpArgs false
open Go.Proofs
set_option maxRecDepth 100000
set_option linter.unusedVariables false
noncomputable def E_z12 : EnvP := ⟨⟨tiOf tis, fnsOf [(33, s_z33), (34, s_z34)], cnsOf [], [], 29, (fun x => if x = 1 then some [0] else none), (fun x => if x = 0 then some [] else if x = 1 then some [0] else if x = 2 then some [4] else none), some [2]⟩, fun _ => none, fun _ => none, fun _ => [], fun _ => none, fun _ => none, fun _ => none⟩
noncomputable def C_z12 : Code := Tryd.f12.body.getD .skip
noncomputable def R_z12 : Array ResultVar := Tryd.f12.results
theorem z12_l1_ok (K : Ex → Fr → Option AV) : ∀ (n : Nat) (s0 : List UInt8), evLP E_z12 n (sub C_z12 [1, 0, 0, 0]) K (frOf [(0, (.dat (.sl .byte) s0 none))]) = z12_l1 (fun s2 => K .ret (frOf [(2, (.dat (.int .i64) s2 none))])) (K (.exit 0) (frOf [])) n s0 := by
  intro n
  induction n with
  | zero => intros; rfl
  | succ n IH =>
  intro s0
  have ih : (fun s0 => evLP E_z12 n (sub C_z12 [1, 0, 0, 0]) K (frOf [(0, (.dat (.sl .byte) s0 none))])) = z12_l1 (fun s2 => K .ret (frOf [(2, (.dat (.int .i64) s2 none))])) (K (.exit 0) (frOf [])) n := by
    funext s0
    exact IH s0
  show _ = z12_l1_b (fun s2 => K .ret (frOf [(2, (.dat (.int .i64) s2 none))])) (K (.exit 0) (frOf [])) (z12_l1 (fun s2 => K .ret (frOf [(2, (.dat (.int .i64) s2 none))])) (K (.exit 0) (frOf [])) n) n s0
  rw [← ih]
  kernel_rfl
theorem z12_k1_0_ok (n : Nat)  : (kBlockP 0 (E_z12.cutb 0) (kSeq (evCP E_z12 (evLP E_z12 n) (sub C_z12 [1, 1])) (kFnP E_z12 R_z12))) (.exit 0) (frOf []) = z12_k1_0 n  := by
  kernel_rfl
theorem z12_ev (n : Nat) (s0 : List UInt8) (o0 : Lab) : evFnP E_z12 n C_z12 R_z12 [.dat (.sl .byte) s0 o0] = z12_sh n s0 := by
  unfold z12_sh
  rw [show z12_l1 z12_ret (z12_k1_0 n) n = (fun s0 => evLP E_z12 n (sub C_z12 [1, 0, 0, 0]) (kBlockP 0 (E_z12.cutb 0) (kSeq (evCP E_z12 (evLP E_z12 n) (sub C_z12 [1, 1])) (kFnP E_z12 R_z12))) (frOf [(0, (.dat (.sl .byte) s0 none))])) from by
    funext s0
    refine Eq.trans ?_ (z12_l1_ok (kBlockP 0 (E_z12.cutb 0) (kSeq (evCP E_z12 (evLP E_z12 n) (sub C_z12 [1, 1])) (kFnP E_z12 R_z12))) n s0).symm
    rw [show ((kBlockP 0 (E_z12.cutb 0) (kSeq (evCP E_z12 (evLP E_z12 n) (sub C_z12 [1, 1])) (kFnP E_z12 R_z12))) (.exit 0) (frOf [])) = (z12_k1_0 n) from by
      exact z12_k1_0_ok n ]
    all_goals kernel_rfl]
  kernel_rfl
theorem z12_sound : SoundG G Tryd.prog 12 s_z12 := by
  refine sound_of_evP' G_stays (E := E_z12) (fn := Tryd.f12) (c := C_z12) (tyOk_of_table rfl tis_ok) (fun w S hg => ⟨⟨(fns_cons (z33_sound w S hg) (fns_cons (z34_sound w S hg) fns_nil)), fun f sp h => cns_nil f sp h w S⟩, gl_none w S hg, (fun _ _ h => by cases h), (fun f sp h => rns_nil f sp h), (fun f it h => its_nil f it h)⟩) follows Tryd.func12 (by kernel_rfl) (by kernel_rfl) (by kernel_rfl) ?_
  intro avs r h
  unfold s_z12 at h
  split at h
  · simp only [Prod.mk.injEq] at h
    obtain ⟨hp, rfl⟩ := h
    obtain ⟨n, hn⟩ := z12_math _ hp
    exact ⟨n, _, (z12_ev n _ _).trans hn, .inl rfl⟩
  · cases h
noncomputable def E_z29 : EnvP := ⟨⟨tiOf tis, fnsOf [(12, s_z12), (27, s_z27)], cnsOf [], [], 12, (fun _ => none), (fun _ => none), some [1000002, 3]⟩, fun _ => none, fun _ => none, fun _ => [], fun _ => none, fun _ => none, fun _ => none⟩
noncomputable def C_z29 : Code := Tryd.f29.body.getD .skip
noncomputable def R_z29 : Array ResultVar := Tryd.f29.results
theorem z29_ev (n : Nat) (s0 : List UInt8) (o0 : Lab) : evFnP E_z29 n C_z29 R_z29 [.dat (.sl .byte) s0 o0] = z29_sh n s0 := by
  kernel_rfl
theorem z29_sound : SoundG G Tryd.prog 29 s_z29 := by
  refine sound_of_evP' G_stays (E := E_z29) (fn := Tryd.f29) (c := C_z29) (tyOk_of_table rfl tis_ok) (fun w S hg => ⟨⟨(fns_cons (z12_sound w S hg) (fns_cons (z27_sound w S hg) fns_nil)), fun f sp h => cns_nil f sp h w S⟩, gl_none w S hg, (fun _ _ h => by cases h), (fun f sp h => rns_nil f sp h), (fun f it h => its_nil f it h)⟩) follows Tryd.func29 (by kernel_rfl) (by kernel_rfl) (by kernel_rfl) ?_
  intro avs r h
  unfold s_z29 at h
  split at h
  · simp only [Prod.mk.injEq] at h
    obtain ⟨hp, rfl⟩ := h
    obtain ⟨n, hn⟩ := z29_math _ hp
    exact ⟨n, _, (z29_ev n _ _).trans hn, .inl rfl⟩
  · cases h
noncomputable def E_z35 : EnvP := ⟨⟨tiOf tis, fnsOf [], cnsOf [], [], 69, (fun x => if x = 3 then some [0, 4, 5] else none), (fun x => if x = 0 then some [4] else if x = 1 then some [0, 4, 5] else none), some [2, 3]⟩, (fun x => if x = 2 then some (.psl 22 (.osl 5 .byte)) else if x = 8 then some (.psl 22 (.osl 5 .byte)) else if x = 39 then some (.psl 22 (.osl 5 .byte)) else if x = 40 then some (.psl 22 (.osl 5 .byte)) else if x = 54 then some (.osl 5 .byte) else none), fun _ => none, fun _ => [], fun _ => none, fun _ => none, fun _ => none⟩
noncomputable def C_z35 : Code := Tryd.f35.body.getD .skip
noncomputable def R_z35 : Array ResultVar := Tryd.f35.results
theorem z35_l3_ok (K : Ex → Fr → Option AV) : ∀ (n : Nat) (s0 : List UInt8) (out4 : List (List UInt8)) (i5 : Int), evLP E_z35 n (sub C_z35 [1, 1, 0, 1, 0, 0]) K (frOf [(0, (.dat (.sl .byte) s0 none)), (4, (.pv (.psl 22 (.osl 5 .byte)) out4 none)), (5, (.dat (.int .i64) i5 none))]) = z35_l3 (fun out4 => K (.exit 0) (frOf [(4, (.pv (.psl 22 (.osl 5 .byte)) out4 none))])) n s0 out4 i5 := by
  intro n
  induction n with
  | zero => intros; rfl
  | succ n IH =>
  intro s0 out4 i5
  have ih : (fun s0 out4 i5 => evLP E_z35 n (sub C_z35 [1, 1, 0, 1, 0, 0]) K (frOf [(0, (.dat (.sl .byte) s0 none)), (4, (.pv (.psl 22 (.osl 5 .byte)) out4 none)), (5, (.dat (.int .i64) i5 none))])) = z35_l3 (fun out4 => K (.exit 0) (frOf [(4, (.pv (.psl 22 (.osl 5 .byte)) out4 none))])) n := by
    funext s0 out4 i5
    exact IH s0 out4 i5
  show _ = z35_l3_b (fun out4 => K (.exit 0) (frOf [(4, (.pv (.psl 22 (.osl 5 .byte)) out4 none))])) (z35_l3 (fun out4 => K (.exit 0) (frOf [(4, (.pv (.psl 22 (.osl 5 .byte)) out4 none))])) n) n s0 out4 i5
  rw [← ih]
  kernel_rfl
theorem z35_k3_0_ok (n : Nat) (out4 : List (List UInt8)) : (kBlockP 0 (E_z35.cutb 0) (kSeq (evCP E_z35 (evLP E_z35 n) (sub C_z35 [1, 1, 1])) (kFnP E_z35 R_z35))) (.exit 0) (frOf [(4, (.pv (.psl 22 (.osl 5 .byte)) out4 none))]) = z35_k3_0 n out4 := by
  kernel_rfl
theorem z35_ev (n : Nat) (s0 : List UInt8) (o0 : Lab) : evFnP E_z35 n C_z35 R_z35 [.dat (.sl .byte) s0 o0] = z35_sh n s0 := by
  unfold z35_sh
  rw [show z35_l3 (z35_k3_0 n) n = (fun s0 out4 i5 => evLP E_z35 n (sub C_z35 [1, 1, 0, 1, 0, 0]) (kBlockP 0 (E_z35.cutb 0) (kSeq (evCP E_z35 (evLP E_z35 n) (sub C_z35 [1, 1, 1])) (kFnP E_z35 R_z35))) (frOf [(0, (.dat (.sl .byte) s0 none)), (4, (.pv (.psl 22 (.osl 5 .byte)) out4 none)), (5, (.dat (.int .i64) i5 none))])) from by
    funext s0 out4 i5
    refine Eq.trans ?_ (z35_l3_ok (kBlockP 0 (E_z35.cutb 0) (kSeq (evCP E_z35 (evLP E_z35 n) (sub C_z35 [1, 1, 1])) (kFnP E_z35 R_z35))) n s0 out4 i5).symm
    rw [show (fun out4 => (kBlockP 0 (E_z35.cutb 0) (kSeq (evCP E_z35 (evLP E_z35 n) (sub C_z35 [1, 1, 1])) (kFnP E_z35 R_z35))) (.exit 0) (frOf [(4, (.pv (.psl 22 (.osl 5 .byte)) out4 none))])) = (z35_k3_0 n) from by
      funext out4
      exact z35_k3_0_ok n out4]
    all_goals kernel_rfl]
  kernel_rfl
theorem z35_sound : SoundG G Tryd.prog 35 s_z35 := by
  refine sound_of_evP' G_stays (E := E_z35) (fn := Tryd.f35) (c := C_z35) (tyOk_of_table rfl tis_ok) (fun w S hg => ⟨⟨fns_nil, fun f sp h => cns_nil f sp h w S⟩, gl_none w S hg, (fun _ _ h => by cases h), (fun f sp h => rns_nil f sp h), (fun f it h => its_nil f it h)⟩) follows Tryd.func35 (by kernel_rfl) (by kernel_rfl) (by kernel_rfl) ?_
  intro avs r h
  unfold s_z35 at h
  split at h
  · simp only [Prod.mk.injEq] at h
    obtain ⟨hp, rfl⟩ := h
    obtain ⟨n, hn⟩ := z35_math _ hp
    exact ⟨n, _, (z35_ev n _ _).trans hn, .inl rfl⟩
  · cases h
noncomputable def E_z36 : EnvP := ⟨⟨tiOf tis, fnsOf [(18, s_z18), (43, s_z43), (44, s_z44), (47, s_z47)], cnsOf [], [], 70, (fun x => if x = 2 then some [0, 3] else none), (fun x => if x = 0 then some [0] else if x = 1 then some [0, 3] else none), some [2]⟩, fun _ => none, fun _ => none, fun _ => [], fun _ => none, fun _ => none, fun _ => none⟩
noncomputable def C_z36 : Code := Tryd.f36.body.getD .skip
noncomputable def R_z36 : Array ResultVar := Tryd.f36.results
theorem z36_l2_ok (K : Ex → Fr → Option AV) : ∀ (n : Nat) (l0 : List UInt8) (i3 : Int), evLP E_z36 n (sub C_z36 [1, 0, 1, 0, 0]) K (frOf [(0, (.dat (.sl .byte) l0 none)), (3, (.dat (.int .i64) i3 none))]) = z36_l2 (fun s2 => K .ret (frOf [(2, (.dat .bool s2 none))])) (fun l0 => K (.exit 0) (frOf [(0, (.dat (.sl .byte) l0 none))])) n l0 i3 := by
  intro n
  induction n with
  | zero => intros; rfl
  | succ n IH =>
  intro l0 i3
  have ih : (fun l0 i3 => evLP E_z36 n (sub C_z36 [1, 0, 1, 0, 0]) K (frOf [(0, (.dat (.sl .byte) l0 none)), (3, (.dat (.int .i64) i3 none))])) = z36_l2 (fun s2 => K .ret (frOf [(2, (.dat .bool s2 none))])) (fun l0 => K (.exit 0) (frOf [(0, (.dat (.sl .byte) l0 none))])) n := by
    funext l0 i3
    exact IH l0 i3
  show _ = z36_l2_b (fun s2 => K .ret (frOf [(2, (.dat .bool s2 none))])) (fun l0 => K (.exit 0) (frOf [(0, (.dat (.sl .byte) l0 none))])) (z36_l2 (fun s2 => K .ret (frOf [(2, (.dat .bool s2 none))])) (fun l0 => K (.exit 0) (frOf [(0, (.dat (.sl .byte) l0 none))])) n) n l0 i3
  rw [← ih]
  kernel_rfl
theorem z36_k2_0_ok (n : Nat) (l0 : List UInt8) : (kBlockP 0 (E_z36.cutb 0) (kSeq (evCP E_z36 (evLP E_z36 n) (sub C_z36 [1, 1])) (kFnP E_z36 R_z36))) (.exit 0) (frOf [(0, (.dat (.sl .byte) l0 none))]) = z36_k2_0 n l0 := by
  kernel_rfl
theorem z36_ev (n : Nat) (l0 : List UInt8) (o0 : Lab) : evFnP E_z36 n C_z36 R_z36 [.dat (.sl .byte) l0 o0] = z36_sh n l0 := by
  unfold z36_sh
  rw [show z36_l2 z36_ret (z36_k2_0 n) n = (fun l0 i3 => evLP E_z36 n (sub C_z36 [1, 0, 1, 0, 0]) (kBlockP 0 (E_z36.cutb 0) (kSeq (evCP E_z36 (evLP E_z36 n) (sub C_z36 [1, 1])) (kFnP E_z36 R_z36))) (frOf [(0, (.dat (.sl .byte) l0 none)), (3, (.dat (.int .i64) i3 none))])) from by
    funext l0 i3
    refine Eq.trans ?_ (z36_l2_ok (kBlockP 0 (E_z36.cutb 0) (kSeq (evCP E_z36 (evLP E_z36 n) (sub C_z36 [1, 1])) (kFnP E_z36 R_z36))) n l0 i3).symm
    rw [show (fun l0 => (kBlockP 0 (E_z36.cutb 0) (kSeq (evCP E_z36 (evLP E_z36 n) (sub C_z36 [1, 1])) (kFnP E_z36 R_z36))) (.exit 0) (frOf [(0, (.dat (.sl .byte) l0 none))])) = (z36_k2_0 n) from by
      funext l0
      exact z36_k2_0_ok n l0]
    all_goals kernel_rfl]
  kernel_rfl
theorem z36_sound : SoundG G Tryd.prog 36 s_z36 := by
  refine sound_of_evP' G_stays (E := E_z36) (fn := Tryd.f36) (c := C_z36) (tyOk_of_table rfl tis_ok) (fun w S hg => ⟨⟨(fns_cons (z18_sound w S hg) (fns_cons (z43_sound w S hg) (fns_cons (z44_sound w S hg) (fns_cons (z47_sound w S hg) fns_nil)))), fun f sp h => cns_nil f sp h w S⟩, gl_none w S hg, (fun _ _ h => by cases h), (fun f sp h => rns_nil f sp h), (fun f it h => its_nil f it h)⟩) follows Tryd.func36 (by kernel_rfl) (by kernel_rfl) (by kernel_rfl) ?_
  intro avs r h
  unfold s_z36 at h
  split at h
  · simp only [Prod.mk.injEq] at h
    obtain ⟨hp, rfl⟩ := h
    obtain ⟨n, hn⟩ := z36_math _ hp
    exact ⟨n, _, (z36_ev n _ _).trans hn, .inl rfl⟩
  · cases h
noncomputable def E_z13 : EnvP := ⟨⟨tiOf tis, fnsOf [(35, s_z35), (36, s_z36)], cnsOf [], [], 38, (fun x => if x = 3 then some [3, 4, 5] else none), (fun x => if x = 0 then some [] else if x = 1 then some [3, 4, 5] else none), some [2]⟩, fun _ => none, fun _ => none, fun _ => [], fun _ => none, fun _ => none, fun _ => none⟩
noncomputable def C_z13 : Code := Tryd.f13.body.getD .skip
noncomputable def R_z13 : Array ResultVar := Tryd.f13.results
theorem z13_l3_ok (K : Ex → Fr → Option AV) : ∀ (n : Nat) (l3 : List (List UInt8)) (ends4 : Bool) (i5 : Int), evLP E_z13 n (sub C_z13 [1, 1, 0, 1, 0, 0]) K (frOf [(3, (.dat (.sl (.sl .byte)) l3 none)), (4, (.dat .bool ends4 none)), (5, (.dat (.int .i64) i5 none))]) = z13_l3 (fun s2 => K .ret (frOf [(2, (.dat (.int .i64) s2 none))])) (K (.exit 0) (frOf [])) n l3 ends4 i5 := by
  intro n
  induction n with
  | zero => intros; rfl
  | succ n IH =>
  intro l3 ends4 i5
  have ih : (fun l3 ends4 i5 => evLP E_z13 n (sub C_z13 [1, 1, 0, 1, 0, 0]) K (frOf [(3, (.dat (.sl (.sl .byte)) l3 none)), (4, (.dat .bool ends4 none)), (5, (.dat (.int .i64) i5 none))])) = z13_l3 (fun s2 => K .ret (frOf [(2, (.dat (.int .i64) s2 none))])) (K (.exit 0) (frOf [])) n := by
    funext l3 ends4 i5
    exact IH l3 ends4 i5
  show _ = z13_l3_b (fun s2 => K .ret (frOf [(2, (.dat (.int .i64) s2 none))])) (K (.exit 0) (frOf [])) (z13_l3 (fun s2 => K .ret (frOf [(2, (.dat (.int .i64) s2 none))])) (K (.exit 0) (frOf [])) n) n l3 ends4 i5
  rw [← ih]
  kernel_rfl
theorem z13_k3_0_ok (n : Nat)  : (kBlockP 0 (E_z13.cutb 0) (kSeq (evCP E_z13 (evLP E_z13 n) (sub C_z13 [1, 1, 1])) (kFnP E_z13 R_z13))) (.exit 0) (frOf []) = z13_k3_0 n  := by
  kernel_rfl
theorem z13_ev (n : Nat) (s0 : List UInt8) (o0 : Lab) : evFnP E_z13 n C_z13 R_z13 [.dat (.sl .byte) s0 o0] = z13_sh n s0 := by
  unfold z13_sh
  rw [show z13_l3 z13_ret (z13_k3_0 n) n = (fun l3 ends4 i5 => evLP E_z13 n (sub C_z13 [1, 1, 0, 1, 0, 0]) (kBlockP 0 (E_z13.cutb 0) (kSeq (evCP E_z13 (evLP E_z13 n) (sub C_z13 [1, 1, 1])) (kFnP E_z13 R_z13))) (frOf [(3, (.dat (.sl (.sl .byte)) l3 none)), (4, (.dat .bool ends4 none)), (5, (.dat (.int .i64) i5 none))])) from by
    funext l3 ends4 i5
    refine Eq.trans ?_ (z13_l3_ok (kBlockP 0 (E_z13.cutb 0) (kSeq (evCP E_z13 (evLP E_z13 n) (sub C_z13 [1, 1, 1])) (kFnP E_z13 R_z13))) n l3 ends4 i5).symm
    rw [show ((kBlockP 0 (E_z13.cutb 0) (kSeq (evCP E_z13 (evLP E_z13 n) (sub C_z13 [1, 1, 1])) (kFnP E_z13 R_z13))) (.exit 0) (frOf [])) = (z13_k3_0 n) from by
      exact z13_k3_0_ok n ]
    all_goals kernel_rfl]
  kernel_rfl
theorem z13_sound : SoundG G Tryd.prog 13 s_z13 := by
  refine sound_of_evP' G_stays (E := E_z13) (fn := Tryd.f13) (c := C_z13) (tyOk_of_table rfl tis_ok) (fun w S hg => ⟨⟨(fns_cons (z35_sound w S hg) (fns_cons (z36_sound w S hg) fns_nil)), fun f sp h => cns_nil f sp h w S⟩, gl_none w S hg, (fun _ _ h => by cases h), (fun f sp h => rns_nil f sp h), (fun f it h => its_nil f it h)⟩) follows Tryd.func13 (by kernel_rfl) (by kernel_rfl) (by kernel_rfl) ?_
  intro avs r h
  unfold s_z13 at h
  split at h
  · simp only [Prod.mk.injEq] at h
    obtain ⟨hp, rfl⟩ := h
    obtain ⟨n, hn⟩ := z13_math _ hp
    exact ⟨n, _, (z13_ev n _ _).trans hn, .inl rfl⟩
  · cases h
noncomputable def E_z30 : EnvP := ⟨⟨tiOf tis, fnsOf [(13, s_z13), (28, s_z28)], cnsOf [], [], 18, (fun _ => none), (fun _ => none), some [1000002, 3]⟩, fun _ => none, fun _ => none, fun _ => [], fun _ => none, fun _ => none, fun _ => none⟩
noncomputable def C_z30 : Code := Tryd.f30.body.getD .skip
noncomputable def R_z30 : Array ResultVar := Tryd.f30.results
theorem z30_ev (n : Nat) (s0 : List UInt8) (o0 : Lab) : evFnP E_z30 n C_z30 R_z30 [.dat (.sl .byte) s0 o0] = z30_sh n s0 := by
  kernel_rfl
theorem z30_sound : SoundG G Tryd.prog 30 s_z30 := by
  refine sound_of_evP' G_stays (E := E_z30) (fn := Tryd.f30) (c := C_z30) (tyOk_of_table rfl tis_ok) (fun w S hg => ⟨⟨(fns_cons (z13_sound w S hg) (fns_cons (z28_sound w S hg) fns_nil)), fun f sp h => cns_nil f sp h w S⟩, gl_none w S hg, (fun _ _ h => by cases h), (fun f sp h => rns_nil f sp h), (fun f it h => its_nil f it h)⟩) follows Tryd.func30 (by kernel_rfl) (by kernel_rfl) (by kernel_rfl) ?_
  intro avs r h
  unfold s_z30 at h
  split at h
  · simp only [Prod.mk.injEq] at h
    obtain ⟨hp, rfl⟩ := h
    obtain ⟨n, hn⟩ := z30_math _ hp
    exact ⟨n, _, (z30_ev n _ _).trans hn, .inl rfl⟩
  · cases h
end Go.Av
