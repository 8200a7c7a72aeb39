import Derived.Test.YtejhjmmdachijaaDoorQrEvE
import Derived.Test.YtejhjmmdachijaaDoorQpN
import Derived.Test.YtejhjmmdachijaaDoorProg
import Derived.KernelRfl
namespace Go.Av
set_option linter.unusedSimpArgs false
open Go.Proofs
set_option maxRecDepth 100000
set_option linter.unusedVariables false
noncomputable def E_z46 : EnvP := ⟨⟨tiOf tis, fnsOf [(50, s_z50)], cnsOf [], [], 44, (fun x => if x = 4 then some [0, 4, 5, 6] else none), (fun x => if x = 0 then some [4, 5] else if x = 1 then some [0, 4, 5, 6] else none), some [2, 3]⟩, fun _ => none, fun _ => none, fun _ => [], fun _ => none, fun _ => none, fun _ => none⟩
noncomputable def C_z46 : Code := Tryd.f46.body.getD .skip
noncomputable def R_z46 : Array ResultVar := Tryd.f46.results
theorem z46_l4_ok (K : Ex → Fr → Option AV) : ∀ (n : Nat) (l0 : List UInt8) (out4 : List UInt8) (strange5 : Int) (at6 : Int), evLP E_z46 n (sub C_z46 [1, 1, 1, 0, 1, 0, 0]) K (frOf [(0, (.dat (.sl .byte) l0 none)), (4, (.dat (.sl .byte) out4 (some (4, 5)))), (5, (.dat (.int .i64) strange5 none)), (6, (.dat (.int .i64) at6 none))]) = z46_l4 (fun out4 strange5 => K (.exit 0) (frOf [(4, (.dat (.sl .byte) out4 (some (4, 5)))), (5, (.dat (.int .i64) strange5 none))])) n l0 out4 strange5 at6 := by
  intro n
  induction n with
  | zero => intros; rfl
  | succ n IH =>
  intro l0 out4 strange5 at6
  have ih : (fun l0 out4 strange5 at6 => evLP E_z46 n (sub C_z46 [1, 1, 1, 0, 1, 0, 0]) K (frOf [(0, (.dat (.sl .byte) l0 none)), (4, (.dat (.sl .byte) out4 (some (4, 5)))), (5, (.dat (.int .i64) strange5 none)), (6, (.dat (.int .i64) at6 none))])) = z46_l4 (fun out4 strange5 => K (.exit 0) (frOf [(4, (.dat (.sl .byte) out4 (some (4, 5)))), (5, (.dat (.int .i64) strange5 none))])) n := by
    funext l0 out4 strange5 at6
    exact IH l0 out4 strange5 at6
  show _ = z46_l4_b (fun out4 strange5 => K (.exit 0) (frOf [(4, (.dat (.sl .byte) out4 (some (4, 5)))), (5, (.dat (.int .i64) strange5 none))])) (z46_l4 (fun out4 strange5 => K (.exit 0) (frOf [(4, (.dat (.sl .byte) out4 (some (4, 5)))), (5, (.dat (.int .i64) strange5 none))])) n) n l0 out4 strange5 at6
  rw [← ih]
  kernel_rfl
theorem z46_k4_0_ok (n : Nat) (out4 : List UInt8) (strange5 : Int) : (kBlockP 0 (E_z46.cutb 0) (kSeq (evCP E_z46 (evLP E_z46 n) (sub C_z46 [1, 1, 1, 1])) (kFnP E_z46 R_z46))) (.exit 0) (frOf [(4, (.dat (.sl .byte) out4 (some (4, 5)))), (5, (.dat (.int .i64) strange5 none))]) = z46_k4_0 n out4 strange5 := by
  kernel_rfl
theorem z46_ev (n : Nat) (l0 : List UInt8) (o0 : Lab) : evFnP E_z46 n C_z46 R_z46 [.dat (.sl .byte) l0 o0] = z46_sh n l0 := by
  unfold z46_sh
  rw [show z46_l4 (z46_k4_0 n) n = (fun l0 out4 strange5 at6 => evLP E_z46 n (sub C_z46 [1, 1, 1, 0, 1, 0, 0]) (kBlockP 0 (E_z46.cutb 0) (kSeq (evCP E_z46 (evLP E_z46 n) (sub C_z46 [1, 1, 1, 1])) (kFnP E_z46 R_z46))) (frOf [(0, (.dat (.sl .byte) l0 none)), (4, (.dat (.sl .byte) out4 (some (4, 5)))), (5, (.dat (.int .i64) strange5 none)), (6, (.dat (.int .i64) at6 none))])) from by
    funext l0 out4 strange5 at6
    refine Eq.trans ?_ (z46_l4_ok (kBlockP 0 (E_z46.cutb 0) (kSeq (evCP E_z46 (evLP E_z46 n) (sub C_z46 [1, 1, 1, 1])) (kFnP E_z46 R_z46))) n l0 out4 strange5 at6).symm
    rw [show (fun out4 strange5 => (kBlockP 0 (E_z46.cutb 0) (kSeq (evCP E_z46 (evLP E_z46 n) (sub C_z46 [1, 1, 1, 1])) (kFnP E_z46 R_z46))) (.exit 0) (frOf [(4, (.dat (.sl .byte) out4 (some (4, 5)))), (5, (.dat (.int .i64) strange5 none))])) = (z46_k4_0 n) from by
      funext out4 strange5
      exact z46_k4_0_ok n out4 strange5]
    all_goals kernel_rfl]
  kernel_rfl
theorem z46_sound : SoundG G Tryd.prog 46 s_z46 := by
  refine sound_of_evP' G_stays (E := E_z46) (fn := Tryd.f46) (c := C_z46) (tyOk_of_table rfl tis_ok) (fun w S hg => ⟨⟨(fns_cons (z50_sound w S hg) fns_nil), fun f sp h => cns_nil f sp h w S⟩, gl_none w S hg, (fun _ _ h => by cases h), (fun f sp h => rns_nil f sp h), (fun f it h => its_nil f it h)⟩) follows Tryd.func46 (by kernel_rfl) (by kernel_rfl) (by kernel_rfl) ?_
  intro avs r h
  unfold s_z46 at h
  split at h
  · simp only [Prod.mk.injEq] at h
    obtain ⟨hp, rfl⟩ := h
    obtain ⟨n, hn⟩ := z46_math _ hp
    exact ⟨n, _, (z46_ev n _ _).trans hn, .inl rfl⟩
  · cases h
noncomputable def E_z25 : EnvP := ⟨⟨tiOf tis, fnsOf [(45, s_z45), (46, s_z46)], cnsOf [], [], 19, (fun _ => none), (fun _ => none), some [2, 3]⟩, fun _ => none, fun _ => none, fun _ => [], fun _ => none, fun _ => none, fun _ => none⟩
noncomputable def C_z25 : Code := Tryd.f25.body.getD .skip
noncomputable def R_z25 : Array ResultVar := Tryd.f25.results
theorem z25_ev (n : Nat) (l0 : List UInt8) (o0 : Lab) : evFnP E_z25 n C_z25 R_z25 [.dat (.sl .byte) l0 o0] = z25_sh n l0 := by
  kernel_rfl
theorem z25_sound : SoundG G Tryd.prog 25 s_z25 := by
  refine sound_of_evP' G_stays (E := E_z25) (fn := Tryd.f25) (c := C_z25) (tyOk_of_table rfl tis_ok) (fun w S hg => ⟨⟨(fns_cons (z45_sound w S hg) (fns_cons (z46_sound w S hg) fns_nil)), fun f sp h => cns_nil f sp h w S⟩, gl_none w S hg, (fun _ _ h => by cases h), (fun f sp h => rns_nil f sp h), (fun f it h => its_nil f it h)⟩) follows Tryd.func25 (by kernel_rfl) (by kernel_rfl) (by kernel_rfl) ?_
  intro avs r h
  unfold s_z25 at h
  split at h
  · simp only [Prod.mk.injEq] at h
    obtain ⟨hp, rfl⟩ := h
    obtain ⟨n, hn⟩ := z25_math _ hp
    exact ⟨n, _, (z25_ev n _ _).trans hn, .inl rfl⟩
  · cases h
noncomputable def E_z84 : EnvP := ⟨⟨tiOf tis, fnsOf [], cnsOf [], [], 5, (fun _ => none), (fun _ => none), some [2]⟩, fun _ => none, fun _ => none, fun _ => [], fun _ => none, fun _ => none, fun _ => none⟩
noncomputable def C_z84 : Code := Tryd.f84.body.getD .skip
noncomputable def R_z84 : Array ResultVar := Tryd.f84.results
theorem z84_ev (n : Nat) (bufLen0 : Int) (o0 : Lab) : evFnP E_z84 n C_z84 R_z84 [.dat (.int .i64) bufLen0 o0] = z84_sh n bufLen0 := by
  kernel_rfl
theorem z84_sound : SoundG G Tryd.prog 84 s_z84 := by
  refine sound_of_evP' G_stays (E := E_z84) (fn := Tryd.f84) (c := C_z84) (tyOk_of_table rfl tis_ok) (fun w S hg => ⟨⟨fns_nil, fun f sp h => cns_nil f sp h w S⟩, gl_none w S hg, (fun _ _ h => by cases h), (fun f sp h => rns_nil f sp h), (fun f it h => its_nil f it h)⟩) follows Tryd.func84 (by kernel_rfl) (by kernel_rfl) (by kernel_rfl) ?_
  intro avs r h
  unfold s_z84 at h
  split at h
  · simp only [Prod.mk.injEq, true_and] at h
    subst h
    obtain ⟨n, hn⟩ := z84_math _
    exact ⟨n, _, (z84_ev n _ _).trans hn, .inl rfl⟩
  · cases h
noncomputable def E_z63 (m0 : Int) : EnvP := ⟨⟨tiOf tis, fnsOf [(78, s_z78), (82, s_z82), (83, s_z83), (84, s_z84), (85, s_z85), (86, s_z86), (87, (s_z87 m0))], cnsOf [], [], 129, (fun x => if x = 7 then some [28] else if x = 24 then some [7, 60, 61, 62] else if x = 32 then some [0, 1, 12] else if x = 48 then some [0, 1, 11, 12, 13, 121] else none), (fun x => if x = 0 then some [] else if x = 1 then some [28] else if x = 2 then some [] else if x = 3 then some [7, 60, 61, 62] else if x = 4 then some [] else if x = 5 then some [0, 1, 11, 12] else if x = 6 then some [0, 1, 11, 12] else if x = 7 then some [0, 1, 11, 12, 13, 121] else none), some [4]⟩, fun _ => none, glm m0, (fun x => if x = 24 then [7] else []), fun _ => none, fun _ => none, fun _ => none⟩
noncomputable def C_z63 : Code := Tryd.f63.body.getD .skip
noncomputable def R_z63 : Array ResultVar := Tryd.f63.results
theorem z63_l7_ok (m0 : Int) (K : Ex → Fr → Option AV) : ∀ (n : Nat) (s28 : List UInt8) (s28p : Nat), evLP (E_z63 m0) n (sub C_z63 [1, 1, 0, 1, 0, 1, 0, 1, 0, 0, 1, 0, 0]) K (frOf [(28, (.itr s28 s28p))]) = (z63_l7 m0) (fun s4 => K .ret (frOf [(4, (.dat (.int .i64) s4 none))])) (K (.exit 0) (frOf [])) n s28 s28p := by
  intro n
  induction n with
  | zero => intros; rfl
  | succ n IH =>
  intro s28 s28p
  have ih : (fun s28 s28p => evLP (E_z63 m0) n (sub C_z63 [1, 1, 0, 1, 0, 1, 0, 1, 0, 0, 1, 0, 0]) K (frOf [(28, (.itr s28 s28p))])) = (z63_l7 m0) (fun s4 => K .ret (frOf [(4, (.dat (.int .i64) s4 none))])) (K (.exit 0) (frOf [])) n := by
    funext s28 s28p
    exact IH s28 s28p
  show _ = (z63_l7_b m0) (fun s4 => K .ret (frOf [(4, (.dat (.int .i64) s4 none))])) (K (.exit 0) (frOf [])) ((z63_l7 m0) (fun s4 => K .ret (frOf [(4, (.dat (.int .i64) s4 none))])) (K (.exit 0) (frOf [])) n) n s28 s28p
  rw [← ih]
  kernel_rfl
theorem z63_k7_0_ok (m0 : Int) (n : Nat)  : (kBlockP 0 ((E_z63 m0).cutb 0) (kSeq (evCP (E_z63 m0) (evLP (E_z63 m0) n) (sub C_z63 [1, 1, 0, 1, 0, 1, 0, 1, 0, 1])) (kSeq (evCP (E_z63 m0) (evLP (E_z63 m0) n) (sub C_z63 [1, 1, 0, 1, 0, 1, 1])) (kSeq (evCP (E_z63 m0) (evLP (E_z63 m0) n) (sub C_z63 [1, 1, 1])) (kFnP (E_z63 m0) R_z63))))) (.exit 0) (frOf []) = (z63_k7_0 m0) n  := by
  kernel_rfl
theorem z63_l24_ok (m0 : Int) (K : Ex → Fr → Option AV) : ∀ (n : Nat) (as7 : List Bool) (s60 : List UInt8) (s61 : Int) (s62 : Int), evLP (E_z63 m0) n (sub C_z63 [1, 1, 1, 1, 0, 1, 0, 1, 1, 0, 0, 1, 0, 0]) K (frOf [(7, (.adr (.arr 256 .bool) as7)), (60, (.dat (.sl .byte) s60 none)), (61, (.dat (.int .i64) s61 none)), (62, (.dat (.int .i64) s62 none))]) = (z63_l24 m0) (fun s4 => K .ret (frOf [(4, (.dat (.int .i64) s4 none))])) (K (.exit 2) (frOf [])) n as7 s60 s61 s62 := by
  intro n
  induction n with
  | zero => intros; rfl
  | succ n IH =>
  intro as7 s60 s61 s62
  have ih : (fun as7 s60 s61 s62 => evLP (E_z63 m0) n (sub C_z63 [1, 1, 1, 1, 0, 1, 0, 1, 1, 0, 0, 1, 0, 0]) K (frOf [(7, (.adr (.arr 256 .bool) as7)), (60, (.dat (.sl .byte) s60 none)), (61, (.dat (.int .i64) s61 none)), (62, (.dat (.int .i64) s62 none))])) = (z63_l24 m0) (fun s4 => K .ret (frOf [(4, (.dat (.int .i64) s4 none))])) (K (.exit 2) (frOf [])) n := by
    funext as7 s60 s61 s62
    exact IH as7 s60 s61 s62
  show _ = (z63_l24_b m0) (fun s4 => K .ret (frOf [(4, (.dat (.int .i64) s4 none))])) (K (.exit 2) (frOf [])) ((z63_l24 m0) (fun s4 => K .ret (frOf [(4, (.dat (.int .i64) s4 none))])) (K (.exit 2) (frOf [])) n) n as7 s60 s61 s62
  rw [← ih]
  kernel_rfl
theorem z63_k24_2_ok (m0 : Int) (n : Nat)  : (kBlockP 2 ((E_z63 m0).cutb 2) (kSeq (evCP (E_z63 m0) (evLP (E_z63 m0) n) (sub C_z63 [1, 1, 1, 1, 0, 1, 0, 1, 1, 0, 1])) (kSeq (evCP (E_z63 m0) (evLP (E_z63 m0) n) (sub C_z63 [1, 1, 1, 1, 1])) (kFnP (E_z63 m0) R_z63)))) (.exit 2) (frOf []) = (z63_k24_2 m0) n  := by
  kernel_rfl
theorem z63_l48_ok (m0 : Int) (K : Ex → Fr → Option AV) : ∀ (n : Nat) (s0 : List UInt8) (chars1 : List UInt8) (width11 : Int) (i12 : Int) (r13 : Int) (s121 : List UInt8) (s121p : Nat), evLP (E_z63 m0) n (sub C_z63 [1, 1, 1, 1, 1, 1, 0, 1, 0, 0, 1, 0, 0, 1, 1, 1, 1, 1, 0, 0]) K (frOf [(0, (.dat (.sl .byte) s0 none)), (1, (.dat .str chars1 none)), (11, (.dat (.int .i64) width11 none)), (12, (.dat (.int .i64) i12 none)), (13, (.dat (.int .i32) r13 none)), (121, (.itr s121 s121p))]) = (z63_l48 m0) (fun s4 => K .ret (frOf [(4, (.dat (.int .i64) s4 none))])) (fun s0 chars1 width11 i12 => K (.exit 6) (frOf [(0, (.dat (.sl .byte) s0 none)), (1, (.dat .str chars1 none)), (11, (.dat (.int .i64) width11 none)), (12, (.dat (.int .i64) i12 none))])) n s0 chars1 width11 i12 r13 s121 s121p := by
  intro n
  induction n with
  | zero => intros; rfl
  | succ n IH =>
  intro s0 chars1 width11 i12 r13 s121 s121p
  have ih : (fun s0 chars1 width11 i12 r13 s121 s121p => evLP (E_z63 m0) n (sub C_z63 [1, 1, 1, 1, 1, 1, 0, 1, 0, 0, 1, 0, 0, 1, 1, 1, 1, 1, 0, 0]) K (frOf [(0, (.dat (.sl .byte) s0 none)), (1, (.dat .str chars1 none)), (11, (.dat (.int .i64) width11 none)), (12, (.dat (.int .i64) i12 none)), (13, (.dat (.int .i32) r13 none)), (121, (.itr s121 s121p))])) = (z63_l48 m0) (fun s4 => K .ret (frOf [(4, (.dat (.int .i64) s4 none))])) (fun s0 chars1 width11 i12 => K (.exit 6) (frOf [(0, (.dat (.sl .byte) s0 none)), (1, (.dat .str chars1 none)), (11, (.dat (.int .i64) width11 none)), (12, (.dat (.int .i64) i12 none))])) n := by
    funext s0 chars1 width11 i12 r13 s121 s121p
    exact IH s0 chars1 width11 i12 r13 s121 s121p
  show _ = (z63_l48_b m0) (fun s4 => K .ret (frOf [(4, (.dat (.int .i64) s4 none))])) (fun s0 chars1 width11 i12 => K (.exit 6) (frOf [(0, (.dat (.sl .byte) s0 none)), (1, (.dat .str chars1 none)), (11, (.dat (.int .i64) width11 none)), (12, (.dat (.int .i64) i12 none))])) ((z63_l48 m0) (fun s4 => K .ret (frOf [(4, (.dat (.int .i64) s4 none))])) (fun s0 chars1 width11 i12 => K (.exit 6) (frOf [(0, (.dat (.sl .byte) s0 none)), (1, (.dat .str chars1 none)), (11, (.dat (.int .i64) width11 none)), (12, (.dat (.int .i64) i12 none))])) n) n s0 chars1 width11 i12 r13 s121 s121p
  rw [← ih]
  kernel_rfl
theorem z63_k48_6_ok (m0 : Int) (K : Ex → Fr → Option AV) (n : Nat) (s0 : List UInt8) (chars1 : List UInt8) (width11 : Int) (i12 : Int) : (kBlockP 6 ((E_z63 m0).cutb 6) (kBlockP 5 ((E_z63 m0).cutb 5) (kSeq (evCP (E_z63 m0) (evLP (E_z63 m0) n) (sub C_z63 [1, 1, 1, 1, 1, 1, 0, 1, 0, 0, 1, 1])) (kSeq (fun K fr => evLP (E_z63 m0) n (sub C_z63 [1, 1, 1, 1, 1, 1, 0, 1, 0, 0]) K (cutFP ((E_z63 m0).cuts 32) fr)) K)))) (.exit 6) (frOf [(0, (.dat (.sl .byte) s0 none)), (1, (.dat .str chars1 none)), (11, (.dat (.int .i64) width11 none)), (12, (.dat (.int .i64) i12 none))]) = (z63_k48_6 m0) (fun s4 => K .ret (frOf [(4, (.dat (.int .i64) s4 none))])) (K (.exit 4) (frOf [])) (fun s0 chars1 i12 => evLP (E_z63 m0) n (sub C_z63 [1, 1, 1, 1, 1, 1, 0, 1, 0, 0]) K (frOf [(0, (.dat (.sl .byte) s0 none)), (1, (.dat .str chars1 none)), (12, (.dat (.int .i64) i12 none))])) n s0 chars1 width11 i12 := by
  kernel_rfl
theorem z63_l32_ok (m0 : Int) (K : Ex → Fr → Option AV) : ∀ (n : Nat) (s0 : List UInt8) (chars1 : List UInt8) (i12 : Int), evLP (E_z63 m0) n (sub C_z63 [1, 1, 1, 1, 1, 1, 0, 1, 0, 0]) K (frOf [(0, (.dat (.sl .byte) s0 none)), (1, (.dat .str chars1 none)), (12, (.dat (.int .i64) i12 none))]) = (z63_l32 m0) (fun s4 => K .ret (frOf [(4, (.dat (.int .i64) s4 none))])) (K (.exit 4) (frOf [])) n s0 chars1 i12 := by
  intro n
  induction n with
  | zero => intros; rfl
  | succ n IH =>
  intro s0 chars1 i12
  have ih : (fun s0 chars1 i12 => evLP (E_z63 m0) n (sub C_z63 [1, 1, 1, 1, 1, 1, 0, 1, 0, 0]) K (frOf [(0, (.dat (.sl .byte) s0 none)), (1, (.dat .str chars1 none)), (12, (.dat (.int .i64) i12 none))])) = (z63_l32 m0) (fun s4 => K .ret (frOf [(4, (.dat (.int .i64) s4 none))])) (K (.exit 4) (frOf [])) n := by
    funext s0 chars1 i12
    exact IH s0 chars1 i12
  show _ = (z63_l32_b m0) (fun s4 => K .ret (frOf [(4, (.dat (.int .i64) s4 none))])) (K (.exit 4) (frOf [])) ((z63_l32 m0) (fun s4 => K .ret (frOf [(4, (.dat (.int .i64) s4 none))])) (K (.exit 4) (frOf [])) n) n s0 chars1 i12
  rw [← ih]
  unfold z63_l32_b
  rw [show (z63_l48 m0) (fun s4 => K .ret (frOf [(4, (.dat (.int .i64) s4 none))])) ((z63_k48_6 m0) (fun s4 => K .ret (frOf [(4, (.dat (.int .i64) s4 none))])) (K (.exit 4) (frOf [])) (fun s0 chars1 i12 => evLP (E_z63 m0) n (sub C_z63 [1, 1, 1, 1, 1, 1, 0, 1, 0, 0]) K (frOf [(0, (.dat (.sl .byte) s0 none)), (1, (.dat .str chars1 none)), (12, (.dat (.int .i64) i12 none))])) n) n = (fun s0 chars1 width11 i12 r13 s121 s121p => evLP (E_z63 m0) n (sub C_z63 [1, 1, 1, 1, 1, 1, 0, 1, 0, 0, 1, 0, 0, 1, 1, 1, 1, 1, 0, 0]) (kBlockP 6 ((E_z63 m0).cutb 6) (kBlockP 5 ((E_z63 m0).cutb 5) (kSeq (evCP (E_z63 m0) (evLP (E_z63 m0) n) (sub C_z63 [1, 1, 1, 1, 1, 1, 0, 1, 0, 0, 1, 1])) (kSeq (fun K fr => evLP (E_z63 m0) n (sub C_z63 [1, 1, 1, 1, 1, 1, 0, 1, 0, 0]) K (cutFP ((E_z63 m0).cuts 32) fr)) K)))) (frOf [(0, (.dat (.sl .byte) s0 none)), (1, (.dat .str chars1 none)), (11, (.dat (.int .i64) width11 none)), (12, (.dat (.int .i64) i12 none)), (13, (.dat (.int .i32) r13 none)), (121, (.itr s121 s121p))])) from by
    funext s0 chars1 width11 i12 r13 s121 s121p
    refine Eq.trans ?_ ((z63_l48_ok m0) (kBlockP 6 ((E_z63 m0).cutb 6) (kBlockP 5 ((E_z63 m0).cutb 5) (kSeq (evCP (E_z63 m0) (evLP (E_z63 m0) n) (sub C_z63 [1, 1, 1, 1, 1, 1, 0, 1, 0, 0, 1, 1])) (kSeq (fun K fr => evLP (E_z63 m0) n (sub C_z63 [1, 1, 1, 1, 1, 1, 0, 1, 0, 0]) K (cutFP ((E_z63 m0).cuts 32) fr)) K)))) n s0 chars1 width11 i12 r13 s121 s121p).symm
    rw [show (fun s0 chars1 width11 i12 => (kBlockP 6 ((E_z63 m0).cutb 6) (kBlockP 5 ((E_z63 m0).cutb 5) (kSeq (evCP (E_z63 m0) (evLP (E_z63 m0) n) (sub C_z63 [1, 1, 1, 1, 1, 1, 0, 1, 0, 0, 1, 1])) (kSeq (fun K fr => evLP (E_z63 m0) n (sub C_z63 [1, 1, 1, 1, 1, 1, 0, 1, 0, 0]) K (cutFP ((E_z63 m0).cuts 32) fr)) K)))) (.exit 6) (frOf [(0, (.dat (.sl .byte) s0 none)), (1, (.dat .str chars1 none)), (11, (.dat (.int .i64) width11 none)), (12, (.dat (.int .i64) i12 none))])) = ((z63_k48_6 m0) (fun s4 => K .ret (frOf [(4, (.dat (.int .i64) s4 none))])) (K (.exit 4) (frOf [])) (fun s0 chars1 i12 => evLP (E_z63 m0) n (sub C_z63 [1, 1, 1, 1, 1, 1, 0, 1, 0, 0]) K (frOf [(0, (.dat (.sl .byte) s0 none)), (1, (.dat .str chars1 none)), (12, (.dat (.int .i64) i12 none))])) n) from by
      funext s0 chars1 width11 i12
      exact (z63_k48_6_ok m0) K n s0 chars1 width11 i12]
    all_goals kernel_rfl]
  kernel_rfl
theorem z63_k32_4_ok (m0 : Int) (n : Nat)  : (kBlockP 4 ((E_z63 m0).cutb 4) (kSeq (evCP (E_z63 m0) (evLP (E_z63 m0) n) (sub C_z63 [1, 1, 1, 1, 1, 1, 1])) (kFnP (E_z63 m0) R_z63))) (.exit 4) (frOf []) = (z63_k32_4 m0) n  := by
  kernel_rfl
theorem z63_ev (m0 : Int) (n : Nat) (s0 : List UInt8) (o0 : Lab) (chars1 : List UInt8) (o1 : Lab) : evFnP (E_z63 m0) n C_z63 R_z63 [.dat (.sl .byte) s0 o0, .dat .str chars1 o1] = (z63_sh m0) n s0 chars1 := by
  unfold z63_sh
  rw [show (z63_l7 m0) z63_ret ((z63_k7_0 m0) n) n = (fun s28 s28p => evLP (E_z63 m0) n (sub C_z63 [1, 1, 0, 1, 0, 1, 0, 1, 0, 0, 1, 0, 0]) (kBlockP 0 ((E_z63 m0).cutb 0) (kSeq (evCP (E_z63 m0) (evLP (E_z63 m0) n) (sub C_z63 [1, 1, 0, 1, 0, 1, 0, 1, 0, 1])) (kSeq (evCP (E_z63 m0) (evLP (E_z63 m0) n) (sub C_z63 [1, 1, 0, 1, 0, 1, 1])) (kSeq (evCP (E_z63 m0) (evLP (E_z63 m0) n) (sub C_z63 [1, 1, 1])) (kFnP (E_z63 m0) R_z63))))) (frOf [(28, (.itr s28 s28p))])) from by
    funext s28 s28p
    refine Eq.trans ?_ ((z63_l7_ok m0) (kBlockP 0 ((E_z63 m0).cutb 0) (kSeq (evCP (E_z63 m0) (evLP (E_z63 m0) n) (sub C_z63 [1, 1, 0, 1, 0, 1, 0, 1, 0, 1])) (kSeq (evCP (E_z63 m0) (evLP (E_z63 m0) n) (sub C_z63 [1, 1, 0, 1, 0, 1, 1])) (kSeq (evCP (E_z63 m0) (evLP (E_z63 m0) n) (sub C_z63 [1, 1, 1])) (kFnP (E_z63 m0) R_z63))))) n s28 s28p).symm
    rw [show ((kBlockP 0 ((E_z63 m0).cutb 0) (kSeq (evCP (E_z63 m0) (evLP (E_z63 m0) n) (sub C_z63 [1, 1, 0, 1, 0, 1, 0, 1, 0, 1])) (kSeq (evCP (E_z63 m0) (evLP (E_z63 m0) n) (sub C_z63 [1, 1, 0, 1, 0, 1, 1])) (kSeq (evCP (E_z63 m0) (evLP (E_z63 m0) n) (sub C_z63 [1, 1, 1])) (kFnP (E_z63 m0) R_z63))))) (.exit 0) (frOf [])) = ((z63_k7_0 m0) n) from by
      exact (z63_k7_0_ok m0) n ]
    all_goals kernel_rfl]
  rw [show (z63_l24 m0) z63_ret ((z63_k24_2 m0) n) n = (fun as7 s60 s61 s62 => evLP (E_z63 m0) n (sub C_z63 [1, 1, 1, 1, 0, 1, 0, 1, 1, 0, 0, 1, 0, 0]) (kBlockP 2 ((E_z63 m0).cutb 2) (kSeq (evCP (E_z63 m0) (evLP (E_z63 m0) n) (sub C_z63 [1, 1, 1, 1, 0, 1, 0, 1, 1, 0, 1])) (kSeq (evCP (E_z63 m0) (evLP (E_z63 m0) n) (sub C_z63 [1, 1, 1, 1, 1])) (kFnP (E_z63 m0) R_z63)))) (frOf [(7, (.adr (.arr 256 .bool) as7)), (60, (.dat (.sl .byte) s60 none)), (61, (.dat (.int .i64) s61 none)), (62, (.dat (.int .i64) s62 none))])) from by
    funext as7 s60 s61 s62
    refine Eq.trans ?_ ((z63_l24_ok m0) (kBlockP 2 ((E_z63 m0).cutb 2) (kSeq (evCP (E_z63 m0) (evLP (E_z63 m0) n) (sub C_z63 [1, 1, 1, 1, 0, 1, 0, 1, 1, 0, 1])) (kSeq (evCP (E_z63 m0) (evLP (E_z63 m0) n) (sub C_z63 [1, 1, 1, 1, 1])) (kFnP (E_z63 m0) R_z63)))) n as7 s60 s61 s62).symm
    rw [show ((kBlockP 2 ((E_z63 m0).cutb 2) (kSeq (evCP (E_z63 m0) (evLP (E_z63 m0) n) (sub C_z63 [1, 1, 1, 1, 0, 1, 0, 1, 1, 0, 1])) (kSeq (evCP (E_z63 m0) (evLP (E_z63 m0) n) (sub C_z63 [1, 1, 1, 1, 1])) (kFnP (E_z63 m0) R_z63)))) (.exit 2) (frOf [])) = ((z63_k24_2 m0) n) from by
      exact (z63_k24_2_ok m0) n ]
    all_goals kernel_rfl]
  rw [show (z63_l32 m0) z63_ret ((z63_k32_4 m0) n) n = (fun s0 chars1 i12 => evLP (E_z63 m0) n (sub C_z63 [1, 1, 1, 1, 1, 1, 0, 1, 0, 0]) (kBlockP 4 ((E_z63 m0).cutb 4) (kSeq (evCP (E_z63 m0) (evLP (E_z63 m0) n) (sub C_z63 [1, 1, 1, 1, 1, 1, 1])) (kFnP (E_z63 m0) R_z63))) (frOf [(0, (.dat (.sl .byte) s0 none)), (1, (.dat .str chars1 none)), (12, (.dat (.int .i64) i12 none))])) from by
    funext s0 chars1 i12
    refine Eq.trans ?_ ((z63_l32_ok m0) (kBlockP 4 ((E_z63 m0).cutb 4) (kSeq (evCP (E_z63 m0) (evLP (E_z63 m0) n) (sub C_z63 [1, 1, 1, 1, 1, 1, 1])) (kFnP (E_z63 m0) R_z63))) n s0 chars1 i12).symm
    rw [show ((kBlockP 4 ((E_z63 m0).cutb 4) (kSeq (evCP (E_z63 m0) (evLP (E_z63 m0) n) (sub C_z63 [1, 1, 1, 1, 1, 1, 1])) (kFnP (E_z63 m0) R_z63))) (.exit 4) (frOf [])) = ((z63_k32_4 m0) n) from by
      exact (z63_k32_4_ok m0) n ]
    all_goals kernel_rfl]
  kernel_rfl
theorem z63_soundm (m0 : Int) : SoundG (Gm m0) Tryd.prog 63 s_z63 := by
  refine sound_of_evP' (Gm_stays m0) (E := E_z63 m0) (fn := Tryd.f63) (c := C_z63) (tyOk_of_table rfl tis_ok) (fun w S hg => ⟨⟨(fns_cons (z78_sound w S (G_of m0 hg)) (fns_cons (z82_sound w S (G_of m0 hg)) (fns_cons (z83_sound w S (G_of m0 hg)) (fns_cons (z84_sound w S (G_of m0 hg)) (fns_cons (z85_sound w S (G_of m0 hg)) (fns_cons (z86_sound w S (G_of m0 hg)) (fns_cons (z87_sound m0 w S hg) fns_nil))))))), fun f sp h => cns_nil f sp h w S⟩, hg.2, (fun _ _ h => by cases h), (fun _ _ h => by cases h), (fun _ _ h => by cases h)⟩) follows Tryd.func63 (by kernel_rfl) (by kernel_rfl) (by kernel_rfl) ?_
  intro avs r h
  unfold s_z63 at h
  split at h
  · simp only [Prod.mk.injEq] at h
    obtain ⟨hp, rfl⟩ := h
    obtain ⟨n, hn⟩ := z63_math m0 _ _ hp
    exact ⟨n, _, (z63_ev m0 n _ _ _ _).trans hn, .inl rfl⟩
  · cases h
theorem z63_sound : SoundG G Tryd.prog 63 s_z63 := fun w S hg => by obtain ⟨m, h⟩ := G_to hg; exact z63_soundm m w S h
end Go.Av
