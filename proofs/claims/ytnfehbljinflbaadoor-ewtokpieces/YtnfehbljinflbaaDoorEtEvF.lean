import Derived.Test.YtnfehbljinflbaaDoorEtEvE
import Derived.Test.YtnfehbljinflbaaDoorEtN
import Derived.Test.YtnfehbljinflbaaDoorProg
import Derived.KernelRfl
namespace Go.Av
open Go.Proofs
set_option maxRecDepth 100000
/-! sheave/ewtok.Join -/

noncomputable def E_ewtok_Join : EnvP := ⟨⟨tiOf tis, fnsOf [], cnsOf [], [], 18, (fun x => if x = 3 then some [3, 6, 7, 8] else none), (fun x => if x = 0 then some [3] else if x = 1 then some [3, 6, 7, 8] else none), some [2]⟩, fun _ => none, fun _ => none, fun _ => []⟩
noncomputable def C_ewtok_Join : Code := Tryd.f10.body.getD .skip
noncomputable def R_ewtok_Join : Array ResultVar := Tryd.f10.results
theorem ewtok_Join_l3_ok (K : Ex → Fr → Option AV) : ∀ (n : Nat) (out3 : List UInt8) (s6 : List (Int × ((List UInt8) × Unit))) (s7 : Int) (s8 : Int), evLP E_ewtok_Join n (sub C_ewtok_Join [1, 1, 0, 1, 0, 0]) K (frOf [(3, (.dat (.sl .byte) out3 (some (3, 5)))), (6, (.dat (.sl (.pair (.int .i64) (.pair (.sl .byte) .unit))) s6 none)), (7, (.dat (.int .i64) s7 none)), (8, (.dat (.int .i64) s8 none))]) = ewtok_Join_l3 (fun out3 => K (.exit 0) (frOf [(3, (.dat (.sl .byte) out3 (some (3, 5))))])) n out3 s6 s7 s8 := by
  intro n
  induction n with
  | zero => intros; rfl
  | succ n IH =>
  intro out3 s6 s7 s8
  have ih : (fun out3 s6 s7 s8 => evLP E_ewtok_Join n (sub C_ewtok_Join [1, 1, 0, 1, 0, 0]) K (frOf [(3, (.dat (.sl .byte) out3 (some (3, 5)))), (6, (.dat (.sl (.pair (.int .i64) (.pair (.sl .byte) .unit))) s6 none)), (7, (.dat (.int .i64) s7 none)), (8, (.dat (.int .i64) s8 none))])) = ewtok_Join_l3 (fun out3 => K (.exit 0) (frOf [(3, (.dat (.sl .byte) out3 (some (3, 5))))])) n := by
    funext out3 s6 s7 s8
    exact IH out3 s6 s7 s8
  show _ = ewtok_Join_l3_b (fun out3 => K (.exit 0) (frOf [(3, (.dat (.sl .byte) out3 (some (3, 5))))])) (ewtok_Join_l3 (fun out3 => K (.exit 0) (frOf [(3, (.dat (.sl .byte) out3 (some (3, 5))))])) n) n out3 s6 s7 s8
  rw [← ih]
  kernel_rfl
theorem ewtok_Join_k3_0_ok (n : Nat) (out3 : List UInt8) : (kBlockP 0 (E_ewtok_Join.cutb 0) (kSeq (evCP E_ewtok_Join (evLP E_ewtok_Join n) (sub C_ewtok_Join [1, 1, 1])) (kFnP E_ewtok_Join R_ewtok_Join))) (.exit 0) (frOf [(3, (.dat (.sl .byte) out3 (some (3, 5))))]) = ewtok_Join_k3_0 n out3 := by
  kernel_rfl
theorem ewtok_Join_ev (n : Nat) (l0 : List (Int × ((List UInt8) × Unit))) (o0 : Lab) : evFnP E_ewtok_Join n C_ewtok_Join R_ewtok_Join [.dat (.sl (.pair (.int .i64) (.pair (.sl .byte) .unit))) l0 o0] = ewtok_Join_sh n l0 := by
  unfold ewtok_Join_sh
  rw [show ewtok_Join_l3 (ewtok_Join_k3_0 n) n = (fun out3 s6 s7 s8 => evLP E_ewtok_Join n (sub C_ewtok_Join [1, 1, 0, 1, 0, 0]) (kBlockP 0 (E_ewtok_Join.cutb 0) (kSeq (evCP E_ewtok_Join (evLP E_ewtok_Join n) (sub C_ewtok_Join [1, 1, 1])) (kFnP E_ewtok_Join R_ewtok_Join))) (frOf [(3, (.dat (.sl .byte) out3 (some (3, 5)))), (6, (.dat (.sl (.pair (.int .i64) (.pair (.sl .byte) .unit))) s6 none)), (7, (.dat (.int .i64) s7 none)), (8, (.dat (.int .i64) s8 none))])) from by
    funext out3 s6 s7 s8
    refine Eq.trans ?_ (ewtok_Join_l3_ok (kBlockP 0 (E_ewtok_Join.cutb 0) (kSeq (evCP E_ewtok_Join (evLP E_ewtok_Join n) (sub C_ewtok_Join [1, 1, 1])) (kFnP E_ewtok_Join R_ewtok_Join))) n out3 s6 s7 s8).symm
    rw [show (fun out3 => (kBlockP 0 (E_ewtok_Join.cutb 0) (kSeq (evCP E_ewtok_Join (evLP E_ewtok_Join n) (sub C_ewtok_Join [1, 1, 1])) (kFnP E_ewtok_Join R_ewtok_Join))) (.exit 0) (frOf [(3, (.dat (.sl .byte) out3 (some (3, 5))))])) = (ewtok_Join_k3_0 n) from by
      funext out3
      exact ewtok_Join_k3_0_ok n out3]
    all_goals kernel_rfl]
  kernel_rfl
theorem ewtok_Join_sound : SoundG G Tryd.prog 10 s_ewtok_Join := by
  refine sound_of_evP' G_stays (E := E_ewtok_Join) (fn := Tryd.f10) (c := C_ewtok_Join) (tyOk_of_table rfl tis_ok) (fun w S hg => ⟨⟨fns_nil, fun f sp h => cns_nil f sp h w S⟩, gl_none w S hg⟩) follows Tryd.func10 (by kernel_rfl) (by kernel_rfl) (by kernel_rfl) ?_
  intro avs r h
  unfold s_ewtok_Join at h
  split at h
  · simp only [Prod.mk.injEq] at h
    obtain ⟨hp, rfl⟩ := h
    obtain ⟨n, hn⟩ := ewtok_Join_math _ hp
    exact ⟨n, _, (ewtok_Join_ev n _ _).trans hn, .inl rfl⟩
  · cases h

/-! sheave/ewtok.Words -/

noncomputable def E_ewtok_Words : EnvP := ⟨⟨tiOf tis, fnsOf [(11, s_ewtok_Pieces)], cnsOf [], [], 20, (fun x => if x = 3 then some [3, 7, 8, 9] else none), (fun x => if x = 0 then some [3] else if x = 1 then some [3, 7, 8, 9] else none), some [2]⟩, fun _ => none, fun _ => none, fun _ => []⟩
noncomputable def C_ewtok_Words : Code := Tryd.f18.body.getD .skip
noncomputable def R_ewtok_Words : Array ResultVar := Tryd.f18.results
theorem ewtok_Words_l3_ok (K : Ex → Fr → Option AV) : ∀ (n : Nat) (n3 : Int) (s7 : List (Int × ((List UInt8) × Unit))) (s8 : Int) (s9 : Int), evLP E_ewtok_Words n (sub C_ewtok_Words [1, 1, 0, 1, 0, 0]) K (frOf [(3, (.dat (.int .i64) n3 none)), (7, (.dat (.sl (.pair (.int .i64) (.pair (.sl .byte) .unit))) s7 (some (7, 28)))), (8, (.dat (.int .i64) s8 none)), (9, (.dat (.int .i64) s9 none))]) = ewtok_Words_l3 (fun n3 => K (.exit 0) (frOf [(3, (.dat (.int .i64) n3 none))])) n n3 s7 s8 s9 := by
  intro n
  induction n with
  | zero => intros; rfl
  | succ n IH =>
  intro n3 s7 s8 s9
  have ih : (fun n3 s7 s8 s9 => evLP E_ewtok_Words n (sub C_ewtok_Words [1, 1, 0, 1, 0, 0]) K (frOf [(3, (.dat (.int .i64) n3 none)), (7, (.dat (.sl (.pair (.int .i64) (.pair (.sl .byte) .unit))) s7 (some (7, 28)))), (8, (.dat (.int .i64) s8 none)), (9, (.dat (.int .i64) s9 none))])) = ewtok_Words_l3 (fun n3 => K (.exit 0) (frOf [(3, (.dat (.int .i64) n3 none))])) n := by
    funext n3 s7 s8 s9
    exact IH n3 s7 s8 s9
  show _ = ewtok_Words_l3_b (fun n3 => K (.exit 0) (frOf [(3, (.dat (.int .i64) n3 none))])) (ewtok_Words_l3 (fun n3 => K (.exit 0) (frOf [(3, (.dat (.int .i64) n3 none))])) n) n n3 s7 s8 s9
  rw [← ih]
  kernel_rfl
theorem ewtok_Words_k3_0_ok (n : Nat) (n3 : Int) : (kBlockP 0 (E_ewtok_Words.cutb 0) (kSeq (evCP E_ewtok_Words (evLP E_ewtok_Words n) (sub C_ewtok_Words [1, 1, 1])) (kFnP E_ewtok_Words R_ewtok_Words))) (.exit 0) (frOf [(3, (.dat (.int .i64) n3 none))]) = ewtok_Words_k3_0 n n3 := by
  kernel_rfl
theorem ewtok_Words_ev (n : Nat) (s0 : List UInt8) (o0 : Lab) : evFnP E_ewtok_Words n C_ewtok_Words R_ewtok_Words [.dat (.sl .byte) s0 o0] = ewtok_Words_sh n s0 := by
  unfold ewtok_Words_sh
  rw [show ewtok_Words_l3 (ewtok_Words_k3_0 n) n = (fun n3 s7 s8 s9 => evLP E_ewtok_Words n (sub C_ewtok_Words [1, 1, 0, 1, 0, 0]) (kBlockP 0 (E_ewtok_Words.cutb 0) (kSeq (evCP E_ewtok_Words (evLP E_ewtok_Words n) (sub C_ewtok_Words [1, 1, 1])) (kFnP E_ewtok_Words R_ewtok_Words))) (frOf [(3, (.dat (.int .i64) n3 none)), (7, (.dat (.sl (.pair (.int .i64) (.pair (.sl .byte) .unit))) s7 (some (7, 28)))), (8, (.dat (.int .i64) s8 none)), (9, (.dat (.int .i64) s9 none))])) from by
    funext n3 s7 s8 s9
    refine Eq.trans ?_ (ewtok_Words_l3_ok (kBlockP 0 (E_ewtok_Words.cutb 0) (kSeq (evCP E_ewtok_Words (evLP E_ewtok_Words n) (sub C_ewtok_Words [1, 1, 1])) (kFnP E_ewtok_Words R_ewtok_Words))) n n3 s7 s8 s9).symm
    rw [show (fun n3 => (kBlockP 0 (E_ewtok_Words.cutb 0) (kSeq (evCP E_ewtok_Words (evLP E_ewtok_Words n) (sub C_ewtok_Words [1, 1, 1])) (kFnP E_ewtok_Words R_ewtok_Words))) (.exit 0) (frOf [(3, (.dat (.int .i64) n3 none))])) = (ewtok_Words_k3_0 n) from by
      funext n3
      exact ewtok_Words_k3_0_ok n n3]
    all_goals kernel_rfl]
  kernel_rfl
theorem ewtok_Words_sound : SoundG G Tryd.prog 18 s_ewtok_Words := by
  refine sound_of_evP' G_stays (E := E_ewtok_Words) (fn := Tryd.f18) (c := C_ewtok_Words) (tyOk_of_table rfl tis_ok) (fun w S hg => ⟨⟨(fns_cons (ewtok_Pieces_sound w S hg) fns_nil), fun f sp h => cns_nil f sp h w S⟩, gl_none w S hg⟩) follows Tryd.func18 (by kernel_rfl) (by kernel_rfl) (by kernel_rfl) ?_
  intro avs r h
  unfold s_ewtok_Words at h
  split at h
  · simp only [Prod.mk.injEq] at h
    obtain ⟨hp, rfl⟩ := h
    obtain ⟨n, hn⟩ := ewtok_Words_math _ hp
    exact ⟨n, _, (ewtok_Words_ev n _ _).trans hn, .inl rfl⟩
  · cases h

/-! sheave/sheaveref32.gap -/

noncomputable def E_ref32_gap : EnvP := ⟨⟨tiOf tis, fnsOf [], cnsOf [], [], 17, (fun _ => none), (fun _ => none), some [2]⟩, fun _ => none, fun _ => none, fun _ => []⟩
noncomputable def C_ref32_gap : Code := Tryd.f24.body.getD .skip
noncomputable def R_ref32_gap : Array ResultVar := Tryd.f24.results
theorem ref32_gap_ev (n : Nat) (c0 : UInt8) (o0 : Lab) : evFnP E_ref32_gap n C_ref32_gap R_ref32_gap [.dat .byte c0 o0] = ref32_gap_sh n c0 := by
  kernel_rfl
theorem ref32_gap_sound : SoundG G Tryd.prog 24 s_ref32_gap := by
  refine sound_of_evP' G_stays (E := E_ref32_gap) (fn := Tryd.f24) (c := C_ref32_gap) (tyOk_of_table rfl tis_ok) (fun w S hg => ⟨⟨fns_nil, fun f sp h => cns_nil f sp h w S⟩, gl_none w S hg⟩) follows Tryd.func24 (by kernel_rfl) (by kernel_rfl) (by kernel_rfl) ?_
  intro avs r h
  unfold s_ref32_gap at h
  split at h
  · simp only [Prod.mk.injEq, true_and] at h
    subst h
    obtain ⟨n, hn⟩ := ref32_gap_math _
    exact ⟨n, _, (ref32_gap_ev n _ _).trans hn, .inl rfl⟩
  · cases h

/-! sheave/sheaveref29.code -/

noncomputable def E_ref29_code : EnvP := ⟨⟨tiOf tis, fnsOf [(50, s_ref01_Lower)], cnsOf [], [], 9, (fun _ => none), (fun x => if x = 0 then some [] else none), some [2]⟩, fun _ => none, fun _ => none, fun _ => []⟩
noncomputable def C_ref29_code : Code := Tryd.f37.body.getD .skip
noncomputable def R_ref29_code : Array ResultVar := Tryd.f37.results
theorem ref29_code_ev (n : Nat) (c0 : UInt8) (o0 : Lab) : evFnP E_ref29_code n C_ref29_code R_ref29_code [.dat .byte c0 o0] = ref29_code_sh n c0 := by
  kernel_rfl
theorem ref29_code_sound : SoundG G Tryd.prog 37 s_ref29_code := by
  refine sound_of_evP' G_stays (E := E_ref29_code) (fn := Tryd.f37) (c := C_ref29_code) (tyOk_of_table rfl tis_ok) (fun w S hg => ⟨⟨(fns_cons (ref01_Lower_sound w S hg) fns_nil), fun f sp h => cns_nil f sp h w S⟩, gl_none w S hg⟩) follows Tryd.func37 (by kernel_rfl) (by kernel_rfl) (by kernel_rfl) ?_
  intro avs r h
  unfold s_ref29_code at h
  split at h
  · simp only [Prod.mk.injEq, true_and] at h
    subst h
    obtain ⟨n, hn⟩ := ref29_code_math _
    exact ⟨n, _, (ref29_code_ev n _ _).trans hn, .inl rfl⟩
  · cases h

/-! sheave/sheaveref29.cut -/

noncomputable def E_ref29_cut : EnvP := ⟨⟨tiOf tis, fnsOf [], cnsOf [], [], 38, (fun x => if x = 3 then some [0, 3, 4] else none), (fun x => if x = 0 then some [3] else if x = 1 then some [0, 3, 4] else none), some [2]⟩, (fun x => if x = 2 then some (.psl 25 (.osl 5 .byte)) else if x = 6 then some (.psl 25 (.osl 5 .byte)) else if x = 22 then some (.psl 25 (.osl 5 .byte)) else if x = 23 then some (.psl 25 (.osl 5 .byte)) else if x = 35 then some (.osl 5 .byte) else none), fun _ => none, fun _ => []⟩
noncomputable def C_ref29_cut : Code := Tryd.f36.body.getD .skip
noncomputable def R_ref29_cut : Array ResultVar := Tryd.f36.results
theorem ref29_cut_l3_ok (K : Ex → Fr → Option AV) : ∀ (n : Nat) (s0 : List UInt8) (out3 : List (List UInt8)) (i4 : Int), evLP E_ref29_cut n (sub C_ref29_cut [1, 1, 0, 1, 0, 0]) K (frOf [(0, (.dat (.sl .byte) s0 none)), (3, (.pv (.psl 25 (.osl 5 .byte)) out3 none)), (4, (.dat (.int .i64) i4 none))]) = ref29_cut_l3 (fun out3 => K (.exit 0) (frOf [(3, (.pv (.psl 25 (.osl 5 .byte)) out3 none))])) n s0 out3 i4 := by
  intro n
  induction n with
  | zero => intros; rfl
  | succ n IH =>
  intro s0 out3 i4
  have ih : (fun s0 out3 i4 => evLP E_ref29_cut n (sub C_ref29_cut [1, 1, 0, 1, 0, 0]) K (frOf [(0, (.dat (.sl .byte) s0 none)), (3, (.pv (.psl 25 (.osl 5 .byte)) out3 none)), (4, (.dat (.int .i64) i4 none))])) = ref29_cut_l3 (fun out3 => K (.exit 0) (frOf [(3, (.pv (.psl 25 (.osl 5 .byte)) out3 none))])) n := by
    funext s0 out3 i4
    exact IH s0 out3 i4
  show _ = ref29_cut_l3_b (fun out3 => K (.exit 0) (frOf [(3, (.pv (.psl 25 (.osl 5 .byte)) out3 none))])) (ref29_cut_l3 (fun out3 => K (.exit 0) (frOf [(3, (.pv (.psl 25 (.osl 5 .byte)) out3 none))])) n) n s0 out3 i4
  rw [← ih]
  kernel_rfl
theorem ref29_cut_k3_0_ok (n : Nat) (out3 : List (List UInt8)) : (kBlockP 0 (E_ref29_cut.cutb 0) (kSeq (evCP E_ref29_cut (evLP E_ref29_cut n) (sub C_ref29_cut [1, 1, 1])) (kFnP E_ref29_cut R_ref29_cut))) (.exit 0) (frOf [(3, (.pv (.psl 25 (.osl 5 .byte)) out3 none))]) = ref29_cut_k3_0 n out3 := by
  kernel_rfl
theorem ref29_cut_ev (n : Nat) (s0 : List UInt8) (o0 : Lab) : evFnP E_ref29_cut n C_ref29_cut R_ref29_cut [.dat (.sl .byte) s0 o0] = ref29_cut_sh n s0 := by
  unfold ref29_cut_sh
  rw [show ref29_cut_l3 (ref29_cut_k3_0 n) n = (fun s0 out3 i4 => evLP E_ref29_cut n (sub C_ref29_cut [1, 1, 0, 1, 0, 0]) (kBlockP 0 (E_ref29_cut.cutb 0) (kSeq (evCP E_ref29_cut (evLP E_ref29_cut n) (sub C_ref29_cut [1, 1, 1])) (kFnP E_ref29_cut R_ref29_cut))) (frOf [(0, (.dat (.sl .byte) s0 none)), (3, (.pv (.psl 25 (.osl 5 .byte)) out3 none)), (4, (.dat (.int .i64) i4 none))])) from by
    funext s0 out3 i4
    refine Eq.trans ?_ (ref29_cut_l3_ok (kBlockP 0 (E_ref29_cut.cutb 0) (kSeq (evCP E_ref29_cut (evLP E_ref29_cut n) (sub C_ref29_cut [1, 1, 1])) (kFnP E_ref29_cut R_ref29_cut))) n s0 out3 i4).symm
    rw [show (fun out3 => (kBlockP 0 (E_ref29_cut.cutb 0) (kSeq (evCP E_ref29_cut (evLP E_ref29_cut n) (sub C_ref29_cut [1, 1, 1])) (kFnP E_ref29_cut R_ref29_cut))) (.exit 0) (frOf [(3, (.pv (.psl 25 (.osl 5 .byte)) out3 none))])) = (ref29_cut_k3_0 n) from by
      funext out3
      exact ref29_cut_k3_0_ok n out3]
    all_goals kernel_rfl]
  kernel_rfl
theorem ref29_cut_sound : SoundG G Tryd.prog 36 s_ref29_cut := by
  refine sound_of_evP' G_stays (E := E_ref29_cut) (fn := Tryd.f36) (c := C_ref29_cut) (tyOk_of_table rfl tis_ok) (fun w S hg => ⟨⟨fns_nil, fun f sp h => cns_nil f sp h w S⟩, gl_none w S hg⟩) follows Tryd.func36 (by kernel_rfl) (by kernel_rfl) (by kernel_rfl) ?_
  intro avs r h
  unfold s_ref29_cut at h
  split at h
  · simp only [Prod.mk.injEq] at h
    obtain ⟨hp, rfl⟩ := h
    obtain ⟨n, hn⟩ := ref29_cut_math _ hp
    exact ⟨n, _, (ref29_cut_ev n _ _).trans hn, .inl rfl⟩
  · cases h

/-! sheave/sheaveref29.Parse -/

noncomputable def E_ref29_Parse : EnvP := ⟨⟨tiOf tis, fnsOf [(36, s_ref29_cut), (37, s_ref29_code), (38, s_ref01_Count)], cnsOf [], [], 93, (fun _ => none), (fun _ => none), some [2, 3]⟩, fun _ => none, fun _ => none, fun _ => []⟩
noncomputable def C_ref29_Parse : Code := Tryd.f25.body.getD .skip
noncomputable def R_ref29_Parse : Array ResultVar := Tryd.f25.results
theorem ref29_Parse_ev (n : Nat) (s0 : List UInt8) (o0 : Lab) : evFnP E_ref29_Parse n C_ref29_Parse R_ref29_Parse [.dat (.sl .byte) s0 o0] = ref29_Parse_sh n s0 := by
  kernel_rfl
theorem ref29_Parse_sound : SoundG G Tryd.prog 25 s_ref29_Parse := by
  refine sound_of_evP' G_stays (E := E_ref29_Parse) (fn := Tryd.f25) (c := C_ref29_Parse) (tyOk_of_table rfl tis_ok) (fun w S hg => ⟨⟨(fns_cons (ref29_cut_sound w S hg) (fns_cons (ref29_code_sound w S hg) (fns_cons (ref01_Count_sound w S hg) fns_nil))), fun f sp h => cns_nil f sp h w S⟩, gl_none w S hg⟩) follows Tryd.func25 (by kernel_rfl) (by kernel_rfl) (by kernel_rfl) ?_
  intro avs r h
  unfold s_ref29_Parse at h
  split at h
  · simp only [Prod.mk.injEq] at h
    obtain ⟨hp, rfl⟩ := h
    obtain ⟨n, hn⟩ := ref29_Parse_math _ hp
    exact ⟨n, _, (ref29_Parse_ev n _ _).trans hn, .inl rfl⟩
  · cases h

/-! sheave/sheaveref32.Kind -/

noncomputable def E_ref32_Kind : EnvP := ⟨⟨tiOf tis, fnsOf [(24, s_ref32_gap), (25, s_ref29_Parse)], cnsOf [], [], 32, (fun x => if x = 3 then some [0, 3, 4] else none), (fun x => if x = 0 then some [0, 3] else if x = 1 then some [0, 3, 4] else none), some [2]⟩, fun _ => none, fun _ => none, fun _ => []⟩
noncomputable def C_ref32_Kind : Code := Tryd.f17.body.getD .skip
noncomputable def R_ref32_Kind : Array ResultVar := Tryd.f17.results
theorem ref32_Kind_l3_ok (K : Ex → Fr → Option AV) : ∀ (n : Nat) (run0 : List UInt8) (all3 : Bool) (i4 : Int), evLP E_ref32_Kind n (sub C_ref32_Kind [1, 1, 0, 1, 0, 0]) K (frOf [(0, (.dat (.sl .byte) run0 none)), (3, (.dat .bool all3 none)), (4, (.dat (.int .i64) i4 none))]) = ref32_Kind_l3 (fun run0 all3 => K (.exit 0) (frOf [(0, (.dat (.sl .byte) run0 none)), (3, (.dat .bool all3 none))])) n run0 all3 i4 := by
  intro n
  induction n with
  | zero => intros; rfl
  | succ n IH =>
  intro run0 all3 i4
  have ih : (fun run0 all3 i4 => evLP E_ref32_Kind n (sub C_ref32_Kind [1, 1, 0, 1, 0, 0]) K (frOf [(0, (.dat (.sl .byte) run0 none)), (3, (.dat .bool all3 none)), (4, (.dat (.int .i64) i4 none))])) = ref32_Kind_l3 (fun run0 all3 => K (.exit 0) (frOf [(0, (.dat (.sl .byte) run0 none)), (3, (.dat .bool all3 none))])) n := by
    funext run0 all3 i4
    exact IH run0 all3 i4
  show _ = ref32_Kind_l3_b (fun run0 all3 => K (.exit 0) (frOf [(0, (.dat (.sl .byte) run0 none)), (3, (.dat .bool all3 none))])) (ref32_Kind_l3 (fun run0 all3 => K (.exit 0) (frOf [(0, (.dat (.sl .byte) run0 none)), (3, (.dat .bool all3 none))])) n) n run0 all3 i4
  rw [← ih]
  kernel_rfl
theorem ref32_Kind_k3_0_ok (n : Nat) (run0 : List UInt8) (all3 : Bool) : (kBlockP 0 (E_ref32_Kind.cutb 0) (kSeq (evCP E_ref32_Kind (evLP E_ref32_Kind n) (sub C_ref32_Kind [1, 1, 1])) (kFnP E_ref32_Kind R_ref32_Kind))) (.exit 0) (frOf [(0, (.dat (.sl .byte) run0 none)), (3, (.dat .bool all3 none))]) = ref32_Kind_k3_0 n run0 all3 := by
  kernel_rfl
theorem ref32_Kind_ev (n : Nat) (run0 : List UInt8) (o0 : Lab) : evFnP E_ref32_Kind n C_ref32_Kind R_ref32_Kind [.dat (.sl .byte) run0 o0] = ref32_Kind_sh n run0 := by
  unfold ref32_Kind_sh
  rw [show ref32_Kind_l3 (ref32_Kind_k3_0 n) n = (fun run0 all3 i4 => evLP E_ref32_Kind n (sub C_ref32_Kind [1, 1, 0, 1, 0, 0]) (kBlockP 0 (E_ref32_Kind.cutb 0) (kSeq (evCP E_ref32_Kind (evLP E_ref32_Kind n) (sub C_ref32_Kind [1, 1, 1])) (kFnP E_ref32_Kind R_ref32_Kind))) (frOf [(0, (.dat (.sl .byte) run0 none)), (3, (.dat .bool all3 none)), (4, (.dat (.int .i64) i4 none))])) from by
    funext run0 all3 i4
    refine Eq.trans ?_ (ref32_Kind_l3_ok (kBlockP 0 (E_ref32_Kind.cutb 0) (kSeq (evCP E_ref32_Kind (evLP E_ref32_Kind n) (sub C_ref32_Kind [1, 1, 1])) (kFnP E_ref32_Kind R_ref32_Kind))) n run0 all3 i4).symm
    rw [show (fun run0 all3 => (kBlockP 0 (E_ref32_Kind.cutb 0) (kSeq (evCP E_ref32_Kind (evLP E_ref32_Kind n) (sub C_ref32_Kind [1, 1, 1])) (kFnP E_ref32_Kind R_ref32_Kind))) (.exit 0) (frOf [(0, (.dat (.sl .byte) run0 none)), (3, (.dat .bool all3 none))])) = (ref32_Kind_k3_0 n) from by
      funext run0 all3
      exact ref32_Kind_k3_0_ok n run0 all3]
    all_goals kernel_rfl]
  kernel_rfl
theorem ref32_Kind_sound : SoundG G Tryd.prog 17 s_ref32_Kind := by
  refine sound_of_evP' G_stays (E := E_ref32_Kind) (fn := Tryd.f17) (c := C_ref32_Kind) (tyOk_of_table rfl tis_ok) (fun w S hg => ⟨⟨(fns_cons (ref32_gap_sound w S hg) (fns_cons (ref29_Parse_sound w S hg) fns_nil)), fun f sp h => cns_nil f sp h w S⟩, gl_none w S hg⟩) follows Tryd.func17 (by kernel_rfl) (by kernel_rfl) (by kernel_rfl) ?_
  intro avs r h
  unfold s_ref32_Kind at h
  split at h
  · simp only [Prod.mk.injEq] at h
    obtain ⟨hp, rfl⟩ := h
    obtain ⟨n, hn⟩ := ref32_Kind_math _ hp
    exact ⟨n, _, (ref32_Kind_ev n _ _).trans hn, .inl rfl⟩
  · cases h

/-! sheave/sheaveref32.Pieces -/

noncomputable def E_ref32_Pieces : EnvP := ⟨⟨tiOf tis, fnsOf [(17, s_ref32_Kind), (24, s_ref32_gap)], cnsOf [], [], 45, (fun x => if x = 3 then some [0, 3, 4] else if x = 5 then some [0, 3, 4, 5] else none), (fun x => if x = 0 then some [3] else if x = 1 then some [0, 3, 4] else if x = 2 then some [0, 3, 4, 5] else if x = 3 then some [0, 3, 4, 5] else none), some [2]⟩, fun _ => none, fun _ => none, fun _ => []⟩
noncomputable def C_ref32_Pieces : Code := Tryd.f14.body.getD .skip
noncomputable def R_ref32_Pieces : Array ResultVar := Tryd.f14.results
theorem ref32_Pieces_l5_ok (K : Ex → Fr → Option AV) : ∀ (n : Nat) (s0 : List UInt8) (out3 : List (Int × ((List UInt8) × Unit))) (i4 : Int) (k5 : Int), evLP E_ref32_Pieces n (sub C_ref32_Pieces [1, 1, 0, 1, 0, 0, 1, 0, 1, 0, 0, 0]) K (frOf [(0, (.dat (.sl .byte) s0 none)), (3, (.dat (.sl (.pair (.int .i64) (.pair (.sl .byte) .unit))) out3 (some (3, 27)))), (4, (.dat (.int .i64) i4 none)), (5, (.dat (.int .i64) k5 none))]) = ref32_Pieces_l5 (fun s0 out3 i4 k5 => K (.exit 2) (frOf [(0, (.dat (.sl .byte) s0 none)), (3, (.dat (.sl (.pair (.int .i64) (.pair (.sl .byte) .unit))) out3 (some (3, 27)))), (4, (.dat (.int .i64) i4 none)), (5, (.dat (.int .i64) k5 none))])) n s0 out3 i4 k5 := by
  intro n
  induction n with
  | zero => intros; rfl
  | succ n IH =>
  intro s0 out3 i4 k5
  have ih : (fun s0 out3 i4 k5 => evLP E_ref32_Pieces n (sub C_ref32_Pieces [1, 1, 0, 1, 0, 0, 1, 0, 1, 0, 0, 0]) K (frOf [(0, (.dat (.sl .byte) s0 none)), (3, (.dat (.sl (.pair (.int .i64) (.pair (.sl .byte) .unit))) out3 (some (3, 27)))), (4, (.dat (.int .i64) i4 none)), (5, (.dat (.int .i64) k5 none))])) = ref32_Pieces_l5 (fun s0 out3 i4 k5 => K (.exit 2) (frOf [(0, (.dat (.sl .byte) s0 none)), (3, (.dat (.sl (.pair (.int .i64) (.pair (.sl .byte) .unit))) out3 (some (3, 27)))), (4, (.dat (.int .i64) i4 none)), (5, (.dat (.int .i64) k5 none))])) n := by
    funext s0 out3 i4 k5
    exact IH s0 out3 i4 k5
  show _ = ref32_Pieces_l5_b (fun s0 out3 i4 k5 => K (.exit 2) (frOf [(0, (.dat (.sl .byte) s0 none)), (3, (.dat (.sl (.pair (.int .i64) (.pair (.sl .byte) .unit))) out3 (some (3, 27)))), (4, (.dat (.int .i64) i4 none)), (5, (.dat (.int .i64) k5 none))])) (ref32_Pieces_l5 (fun s0 out3 i4 k5 => K (.exit 2) (frOf [(0, (.dat (.sl .byte) s0 none)), (3, (.dat (.sl (.pair (.int .i64) (.pair (.sl .byte) .unit))) out3 (some (3, 27)))), (4, (.dat (.int .i64) i4 none)), (5, (.dat (.int .i64) k5 none))])) n) n s0 out3 i4 k5
  rw [← ih]
  kernel_rfl
theorem ref32_Pieces_k5_2_ok (K : Ex → Fr → Option AV) (n : Nat) (s0 : List UInt8) (out3 : List (Int × ((List UInt8) × Unit))) (i4 : Int) (k5 : Int) : (kBlockP 2 (E_ref32_Pieces.cutb 2) (kSeq (evCP E_ref32_Pieces (evLP E_ref32_Pieces n) (sub C_ref32_Pieces [1, 1, 0, 1, 0, 0, 1, 0, 1, 1])) (kBlockP 1 (E_ref32_Pieces.cutb 1) (kSeq (fun K fr => evLP E_ref32_Pieces n (sub C_ref32_Pieces [1, 1, 0, 1, 0, 0]) K (cutFP (E_ref32_Pieces.cuts 3) fr)) K)))) (.exit 2) (frOf [(0, (.dat (.sl .byte) s0 none)), (3, (.dat (.sl (.pair (.int .i64) (.pair (.sl .byte) .unit))) out3 (some (3, 27)))), (4, (.dat (.int .i64) i4 none)), (5, (.dat (.int .i64) k5 none))]) = ref32_Pieces_k5_2 (fun out3 => K (.exit 0) (frOf [(3, (.dat (.sl (.pair (.int .i64) (.pair (.sl .byte) .unit))) out3 (some (3, 27))))])) (fun s0 out3 i4 => evLP E_ref32_Pieces n (sub C_ref32_Pieces [1, 1, 0, 1, 0, 0]) K (frOf [(0, (.dat (.sl .byte) s0 none)), (3, (.dat (.sl (.pair (.int .i64) (.pair (.sl .byte) .unit))) out3 (some (3, 27)))), (4, (.dat (.int .i64) i4 none))])) n s0 out3 i4 k5 := by
  kernel_rfl
theorem ref32_Pieces_l3_ok (K : Ex → Fr → Option AV) : ∀ (n : Nat) (s0 : List UInt8) (out3 : List (Int × ((List UInt8) × Unit))) (i4 : Int), evLP E_ref32_Pieces n (sub C_ref32_Pieces [1, 1, 0, 1, 0, 0]) K (frOf [(0, (.dat (.sl .byte) s0 none)), (3, (.dat (.sl (.pair (.int .i64) (.pair (.sl .byte) .unit))) out3 (some (3, 27)))), (4, (.dat (.int .i64) i4 none))]) = ref32_Pieces_l3 (fun out3 => K (.exit 0) (frOf [(3, (.dat (.sl (.pair (.int .i64) (.pair (.sl .byte) .unit))) out3 (some (3, 27))))])) n s0 out3 i4 := by
  intro n
  induction n with
  | zero => intros; rfl
  | succ n IH =>
  intro s0 out3 i4
  have ih : (fun s0 out3 i4 => evLP E_ref32_Pieces n (sub C_ref32_Pieces [1, 1, 0, 1, 0, 0]) K (frOf [(0, (.dat (.sl .byte) s0 none)), (3, (.dat (.sl (.pair (.int .i64) (.pair (.sl .byte) .unit))) out3 (some (3, 27)))), (4, (.dat (.int .i64) i4 none))])) = ref32_Pieces_l3 (fun out3 => K (.exit 0) (frOf [(3, (.dat (.sl (.pair (.int .i64) (.pair (.sl .byte) .unit))) out3 (some (3, 27))))])) n := by
    funext s0 out3 i4
    exact IH s0 out3 i4
  show _ = ref32_Pieces_l3_b (fun out3 => K (.exit 0) (frOf [(3, (.dat (.sl (.pair (.int .i64) (.pair (.sl .byte) .unit))) out3 (some (3, 27))))])) (ref32_Pieces_l3 (fun out3 => K (.exit 0) (frOf [(3, (.dat (.sl (.pair (.int .i64) (.pair (.sl .byte) .unit))) out3 (some (3, 27))))])) n) n s0 out3 i4
  rw [← ih]
  unfold ref32_Pieces_l3_b
  rw [show ref32_Pieces_l5 (ref32_Pieces_k5_2 (fun out3 => K (.exit 0) (frOf [(3, (.dat (.sl (.pair (.int .i64) (.pair (.sl .byte) .unit))) out3 (some (3, 27))))])) (fun s0 out3 i4 => evLP E_ref32_Pieces n (sub C_ref32_Pieces [1, 1, 0, 1, 0, 0]) K (frOf [(0, (.dat (.sl .byte) s0 none)), (3, (.dat (.sl (.pair (.int .i64) (.pair (.sl .byte) .unit))) out3 (some (3, 27)))), (4, (.dat (.int .i64) i4 none))])) n) n = (fun s0 out3 i4 k5 => evLP E_ref32_Pieces n (sub C_ref32_Pieces [1, 1, 0, 1, 0, 0, 1, 0, 1, 0, 0, 0]) (kBlockP 2 (E_ref32_Pieces.cutb 2) (kSeq (evCP E_ref32_Pieces (evLP E_ref32_Pieces n) (sub C_ref32_Pieces [1, 1, 0, 1, 0, 0, 1, 0, 1, 1])) (kBlockP 1 (E_ref32_Pieces.cutb 1) (kSeq (fun K fr => evLP E_ref32_Pieces n (sub C_ref32_Pieces [1, 1, 0, 1, 0, 0]) K (cutFP (E_ref32_Pieces.cuts 3) fr)) K)))) (frOf [(0, (.dat (.sl .byte) s0 none)), (3, (.dat (.sl (.pair (.int .i64) (.pair (.sl .byte) .unit))) out3 (some (3, 27)))), (4, (.dat (.int .i64) i4 none)), (5, (.dat (.int .i64) k5 none))])) from by
    funext s0 out3 i4 k5
    refine Eq.trans ?_ (ref32_Pieces_l5_ok (kBlockP 2 (E_ref32_Pieces.cutb 2) (kSeq (evCP E_ref32_Pieces (evLP E_ref32_Pieces n) (sub C_ref32_Pieces [1, 1, 0, 1, 0, 0, 1, 0, 1, 1])) (kBlockP 1 (E_ref32_Pieces.cutb 1) (kSeq (fun K fr => evLP E_ref32_Pieces n (sub C_ref32_Pieces [1, 1, 0, 1, 0, 0]) K (cutFP (E_ref32_Pieces.cuts 3) fr)) K)))) n s0 out3 i4 k5).symm
    rw [show (fun s0 out3 i4 k5 => (kBlockP 2 (E_ref32_Pieces.cutb 2) (kSeq (evCP E_ref32_Pieces (evLP E_ref32_Pieces n) (sub C_ref32_Pieces [1, 1, 0, 1, 0, 0, 1, 0, 1, 1])) (kBlockP 1 (E_ref32_Pieces.cutb 1) (kSeq (fun K fr => evLP E_ref32_Pieces n (sub C_ref32_Pieces [1, 1, 0, 1, 0, 0]) K (cutFP (E_ref32_Pieces.cuts 3) fr)) K)))) (.exit 2) (frOf [(0, (.dat (.sl .byte) s0 none)), (3, (.dat (.sl (.pair (.int .i64) (.pair (.sl .byte) .unit))) out3 (some (3, 27)))), (4, (.dat (.int .i64) i4 none)), (5, (.dat (.int .i64) k5 none))])) = (ref32_Pieces_k5_2 (fun out3 => K (.exit 0) (frOf [(3, (.dat (.sl (.pair (.int .i64) (.pair (.sl .byte) .unit))) out3 (some (3, 27))))])) (fun s0 out3 i4 => evLP E_ref32_Pieces n (sub C_ref32_Pieces [1, 1, 0, 1, 0, 0]) K (frOf [(0, (.dat (.sl .byte) s0 none)), (3, (.dat (.sl (.pair (.int .i64) (.pair (.sl .byte) .unit))) out3 (some (3, 27)))), (4, (.dat (.int .i64) i4 none))])) n) from by
      funext s0 out3 i4 k5
      exact ref32_Pieces_k5_2_ok K n s0 out3 i4 k5]
    all_goals kernel_rfl]
  kernel_rfl
theorem ref32_Pieces_k3_0_ok (n : Nat) (out3 : List (Int × ((List UInt8) × Unit))) : (kBlockP 0 (E_ref32_Pieces.cutb 0) (kSeq (evCP E_ref32_Pieces (evLP E_ref32_Pieces n) (sub C_ref32_Pieces [1, 1, 1])) (kFnP E_ref32_Pieces R_ref32_Pieces))) (.exit 0) (frOf [(3, (.dat (.sl (.pair (.int .i64) (.pair (.sl .byte) .unit))) out3 (some (3, 27))))]) = ref32_Pieces_k3_0 n out3 := by
  kernel_rfl
theorem ref32_Pieces_ev (n : Nat) (s0 : List UInt8) (o0 : Lab) : evFnP E_ref32_Pieces n C_ref32_Pieces R_ref32_Pieces [.dat (.sl .byte) s0 o0] = ref32_Pieces_sh n s0 := by
  unfold ref32_Pieces_sh
  rw [show ref32_Pieces_l3 (ref32_Pieces_k3_0 n) n = (fun s0 out3 i4 => evLP E_ref32_Pieces n (sub C_ref32_Pieces [1, 1, 0, 1, 0, 0]) (kBlockP 0 (E_ref32_Pieces.cutb 0) (kSeq (evCP E_ref32_Pieces (evLP E_ref32_Pieces n) (sub C_ref32_Pieces [1, 1, 1])) (kFnP E_ref32_Pieces R_ref32_Pieces))) (frOf [(0, (.dat (.sl .byte) s0 none)), (3, (.dat (.sl (.pair (.int .i64) (.pair (.sl .byte) .unit))) out3 (some (3, 27)))), (4, (.dat (.int .i64) i4 none))])) from by
    funext s0 out3 i4
    refine Eq.trans ?_ (ref32_Pieces_l3_ok (kBlockP 0 (E_ref32_Pieces.cutb 0) (kSeq (evCP E_ref32_Pieces (evLP E_ref32_Pieces n) (sub C_ref32_Pieces [1, 1, 1])) (kFnP E_ref32_Pieces R_ref32_Pieces))) n s0 out3 i4).symm
    rw [show (fun out3 => (kBlockP 0 (E_ref32_Pieces.cutb 0) (kSeq (evCP E_ref32_Pieces (evLP E_ref32_Pieces n) (sub C_ref32_Pieces [1, 1, 1])) (kFnP E_ref32_Pieces R_ref32_Pieces))) (.exit 0) (frOf [(3, (.dat (.sl (.pair (.int .i64) (.pair (.sl .byte) .unit))) out3 (some (3, 27))))])) = (ref32_Pieces_k3_0 n) from by
      funext out3
      exact ref32_Pieces_k3_0_ok n out3]
    all_goals kernel_rfl]
  kernel_rfl
theorem ref32_Pieces_sound : SoundG G Tryd.prog 14 s_ref32_Pieces := by
  refine sound_of_evP' G_stays (E := E_ref32_Pieces) (fn := Tryd.f14) (c := C_ref32_Pieces) (tyOk_of_table rfl tis_ok) (fun w S hg => ⟨⟨(fns_cons (ref32_Kind_sound w S hg) (fns_cons (ref32_gap_sound w S hg) fns_nil)), fun f sp h => cns_nil f sp h w S⟩, gl_none w S hg⟩) follows Tryd.func14 (by kernel_rfl) (by kernel_rfl) (by kernel_rfl) ?_
  intro avs r h
  unfold s_ref32_Pieces at h
  split at h
  · simp only [Prod.mk.injEq] at h
    obtain ⟨hp, rfl⟩ := h
    obtain ⟨n, hn⟩ := ref32_Pieces_math _ hp
    exact ⟨n, _, (ref32_Pieces_ev n _ _).trans hn, .inl rfl⟩
  · cases h

end Go.Av
