import Derived.Test.YtcfhfjjohmdaoaaDoorFiEvD
import Derived.Test.YtcfhfjjohmdaoaaDoorFiN
import Derived.Test.YtcfhfjjohmdaoaaDoorProg
import Derived.KernelRfl
namespace Go.Av
open Go.Proofs
set_option maxRecDepth 100000
/-! sheave/sheaveref01.Kinds -/

noncomputable def E_ref01_Kinds : EnvP := ⟨⟨tiOf tis, fnsOf [(112, s_ref01_has)], cnsOf [], [], 104, (fun _ => none), (fun _ => none), some [2]⟩, fun _ => none, fun _ => none, fun _ => []⟩
noncomputable def C_ref01_Kinds : Code := Tryd.f85.body.getD .skip
noncomputable def R_ref01_Kinds : Array ResultVar := Tryd.f85.results
def resI : Option AV → Int → Bool
  | some (.dat (.int .i64) x none), v => x == v
  | _, _ => false
theorem resI_ok {o : Option AV} {v : Int} (h : resI o v = true) : o = some (.dat (.int .i64) v none) := by
  unfold resI at h
  split at h
  · simp only [beq_iff_eq] at h
    subst h
    rfl
  · cases h
theorem ref01_Kinds_all : ∀ i : Fin 256, resI (evFnP E_ref01_Kinds 1 C_ref01_Kinds R_ref01_Kinds [.dat .byte (UInt8.ofNat i.val) none]) (ref01_Kinds (UInt8.ofNat i.val)) = true := by decide +kernel
theorem ref01_Kinds_ev (c : UInt8) (o : Lab) : evFnP E_ref01_Kinds 1 C_ref01_Kinds R_ref01_Kinds [.dat .byte c o] = some (.dat (.int .i64) (ref01_Kinds c) none) := by
  have h : resI (evFnP E_ref01_Kinds 1 C_ref01_Kinds R_ref01_Kinds [.dat .byte c none]) (ref01_Kinds c) = true := fin_of (P := fun c => resI (evFnP E_ref01_Kinds 1 C_ref01_Kinds R_ref01_Kinds [.dat .byte c none]) (ref01_Kinds c) = true) ref01_Kinds_all c
  have e : evFnP E_ref01_Kinds 1 C_ref01_Kinds R_ref01_Kinds [.dat .byte c o] = evFnP E_ref01_Kinds 1 C_ref01_Kinds R_ref01_Kinds [.dat .byte c none] := by
    unfold evFnP
    have : (fun t => (([.dat .byte c o] : List AV).getD t .bad).strip) = fun t => (([.dat .byte c none] : List AV).getD t .bad).strip := by
      funext t
      match t with
      | 0 => rfl
      | t + 1 => rfl
    rw [this]
    rfl
  rw [e]
  exact resI_ok h
theorem ref01_Kinds_sound : SoundG G Tryd.prog 85 s_ref01_Kinds := by
  refine sound_of_evP' G_stays (E := E_ref01_Kinds) (fn := Tryd.f85) (c := C_ref01_Kinds) (tyOk_of_table rfl tis_ok) (fun w S hg => ⟨⟨(fns_cons (ref01_has_sound w S hg) fns_nil), fun f sp h => cns_nil f sp h w S⟩, gl_none w S hg⟩) follows Tryd.func85 (by kernel_rfl) (by kernel_rfl) (by kernel_rfl) ?_
  intro avs r h
  unfold s_ref01_Kinds at h
  split at h
  · simp only [Prod.mk.injEq, true_and] at h
    subst h
    exact ⟨1, _, ref01_Kinds_ev _ _, .inl rfl⟩
  · cases h

/-! sheave/sheaveref01.Is -/

noncomputable def E_ref01_Is : EnvP := ⟨⟨tiOf tis, fnsOf [(85, s_ref01_Kinds)], cnsOf [], [], 10, (fun _ => none), (fun _ => none), some [4]⟩, fun _ => none, fun _ => none, fun _ => []⟩
noncomputable def C_ref01_Is : Code := Tryd.f58.body.getD .skip
noncomputable def R_ref01_Is : Array ResultVar := Tryd.f58.results
theorem ref01_Is_ev (n : Nat) (c0 : UInt8) (o0 : Lab) (kinds1 : Int) (o1 : Lab) : evFnP E_ref01_Is n C_ref01_Is R_ref01_Is [.dat .byte c0 o0, .dat (.int .i64) kinds1 o1] = ref01_Is_sh n c0 kinds1 := by
  kernel_rfl
theorem ref01_Is_sound : SoundG G Tryd.prog 58 s_ref01_Is := by
  refine sound_of_evP' G_stays (E := E_ref01_Is) (fn := Tryd.f58) (c := C_ref01_Is) (tyOk_of_table rfl tis_ok) (fun w S hg => ⟨⟨(fns_cons (ref01_Kinds_sound w S hg) fns_nil), fun f sp h => cns_nil f sp h w S⟩, gl_none w S hg⟩) follows Tryd.func58 (by kernel_rfl) (by kernel_rfl) (by kernel_rfl) ?_
  intro avs r h
  unfold s_ref01_Is at h
  split at h
  · simp only [Prod.mk.injEq, true_and] at h
    subst h
    obtain ⟨n, hn⟩ := ref01_Is_math _ _
    exact ⟨n, _, (ref01_Is_ev n _ _ _ _).trans hn, .inl rfl⟩
  · cases h

/-! sheave/sheaveref01.Count -/

noncomputable def E_ref01_Count : EnvP := ⟨⟨tiOf tis, fnsOf [(58, s_ref01_Is)], cnsOf [], [], 22, (fun x => if x = 3 then some [0, 1, 5, 6] else none), (fun x => if x = 0 then some [5] else if x = 1 then some [0, 1, 5, 6] else none), some [4]⟩, fun _ => none, fun _ => none, fun _ => []⟩
noncomputable def C_ref01_Count : Code := Tryd.f89.body.getD .skip
noncomputable def R_ref01_Count : Array ResultVar := Tryd.f89.results
theorem ref01_Count_l3_ok (K : Ex → Fr → Option AV) : ∀ (n : Nat) (s0 : List UInt8) (kinds1 : Int) (n5 : Int) (i6 : Int), evLP E_ref01_Count n (sub C_ref01_Count [1, 1, 0, 1, 0, 0]) K (frOf [(0, (.dat (.sl .byte) s0 none)), (1, (.dat (.int .i64) kinds1 none)), (5, (.dat (.int .i64) n5 none)), (6, (.dat (.int .i64) i6 none))]) = ref01_Count_l3 (fun n5 => K (.exit 0) (frOf [(5, (.dat (.int .i64) n5 none))])) n s0 kinds1 n5 i6 := by
  intro n
  induction n with
  | zero => intros; rfl
  | succ n IH =>
  intro s0 kinds1 n5 i6
  have ih : (fun s0 kinds1 n5 i6 => evLP E_ref01_Count n (sub C_ref01_Count [1, 1, 0, 1, 0, 0]) K (frOf [(0, (.dat (.sl .byte) s0 none)), (1, (.dat (.int .i64) kinds1 none)), (5, (.dat (.int .i64) n5 none)), (6, (.dat (.int .i64) i6 none))])) = ref01_Count_l3 (fun n5 => K (.exit 0) (frOf [(5, (.dat (.int .i64) n5 none))])) n := by
    funext s0 kinds1 n5 i6
    exact IH s0 kinds1 n5 i6
  show _ = ref01_Count_l3_b (fun n5 => K (.exit 0) (frOf [(5, (.dat (.int .i64) n5 none))])) (ref01_Count_l3 (fun n5 => K (.exit 0) (frOf [(5, (.dat (.int .i64) n5 none))])) n) n s0 kinds1 n5 i6
  rw [← ih]
  kernel_rfl
theorem ref01_Count_k3_0_ok (n : Nat) (n5 : Int) : (kBlockP 0 (E_ref01_Count.cutb 0) (kSeq (evCP E_ref01_Count (evLP E_ref01_Count n) (sub C_ref01_Count [1, 1, 1])) (kFnP E_ref01_Count R_ref01_Count))) (.exit 0) (frOf [(5, (.dat (.int .i64) n5 none))]) = ref01_Count_k3_0 n n5 := by
  kernel_rfl
theorem ref01_Count_ev (n : Nat) (s0 : List UInt8) (o0 : Lab) (kinds1 : Int) (o1 : Lab) : evFnP E_ref01_Count n C_ref01_Count R_ref01_Count [.dat (.sl .byte) s0 o0, .dat (.int .i64) kinds1 o1] = ref01_Count_sh n s0 kinds1 := by
  unfold ref01_Count_sh
  rw [show ref01_Count_l3 (ref01_Count_k3_0 n) n = (fun s0 kinds1 n5 i6 => evLP E_ref01_Count n (sub C_ref01_Count [1, 1, 0, 1, 0, 0]) (kBlockP 0 (E_ref01_Count.cutb 0) (kSeq (evCP E_ref01_Count (evLP E_ref01_Count n) (sub C_ref01_Count [1, 1, 1])) (kFnP E_ref01_Count R_ref01_Count))) (frOf [(0, (.dat (.sl .byte) s0 none)), (1, (.dat (.int .i64) kinds1 none)), (5, (.dat (.int .i64) n5 none)), (6, (.dat (.int .i64) i6 none))])) from by
    funext s0 kinds1 n5 i6
    refine Eq.trans ?_ (ref01_Count_l3_ok (kBlockP 0 (E_ref01_Count.cutb 0) (kSeq (evCP E_ref01_Count (evLP E_ref01_Count n) (sub C_ref01_Count [1, 1, 1])) (kFnP E_ref01_Count R_ref01_Count))) n s0 kinds1 n5 i6).symm
    rw [show (fun n5 => (kBlockP 0 (E_ref01_Count.cutb 0) (kSeq (evCP E_ref01_Count (evLP E_ref01_Count n) (sub C_ref01_Count [1, 1, 1])) (kFnP E_ref01_Count R_ref01_Count))) (.exit 0) (frOf [(5, (.dat (.int .i64) n5 none))])) = (ref01_Count_k3_0 n) from by
      funext n5
      exact ref01_Count_k3_0_ok n n5]
    all_goals kernel_rfl]
  kernel_rfl
theorem ref01_Count_sound : SoundG G Tryd.prog 89 s_ref01_Count := by
  refine sound_of_evP' G_stays (E := E_ref01_Count) (fn := Tryd.f89) (c := C_ref01_Count) (tyOk_of_table rfl tis_ok) (fun w S hg => ⟨⟨(fns_cons (ref01_Is_sound w S hg) fns_nil), fun f sp h => cns_nil f sp h w S⟩, gl_none w S hg⟩) follows Tryd.func89 (by kernel_rfl) (by kernel_rfl) (by kernel_rfl) ?_
  intro avs r h
  unfold s_ref01_Count at h
  split at h
  · simp only [Prod.mk.injEq] at h
    obtain ⟨hp, rfl⟩ := h
    obtain ⟨n, hn⟩ := ref01_Count_math _ _ hp
    exact ⟨n, _, (ref01_Count_ev n _ _ _ _).trans hn, .inl rfl⟩
  · cases h

/-! sheave/sheaveref01.Trim -/

noncomputable def E_ref01_Trim : EnvP := ⟨⟨tiOf tis, fnsOf [(58, s_ref01_Is)], cnsOf [], [], 36, (fun x => if x = 2 then some [0, 3, 4] else if x = 4 then some [0, 3, 4] else none), (fun x => if x = 0 then some [0, 3, 4] else if x = 1 then some [0, 3, 4] else if x = 2 then some [0, 3, 4] else if x = 3 then some [0, 3, 4] else none), some [2]⟩, fun _ => none, fun _ => none, fun _ => []⟩
noncomputable def C_ref01_Trim : Code := Tryd.f65.body.getD .skip
noncomputable def R_ref01_Trim : Array ResultVar := Tryd.f65.results
theorem ref01_Trim_l2_ok (K : Ex → Fr → Option AV) : ∀ (n : Nat) (s0 : List UInt8) (a3 : Int) (b4 : Int), evLP E_ref01_Trim n (sub C_ref01_Trim [1, 1, 0, 0, 0]) K (frOf [(0, (.dat (.sl .byte) s0 none)), (3, (.dat (.int .i64) a3 none)), (4, (.dat (.int .i64) b4 none))]) = ref01_Trim_l2 (fun s0 a3 b4 => K (.exit 0) (frOf [(0, (.dat (.sl .byte) s0 none)), (3, (.dat (.int .i64) a3 none)), (4, (.dat (.int .i64) b4 none))])) n s0 a3 b4 := by
  intro n
  induction n with
  | zero => intros; rfl
  | succ n IH =>
  intro s0 a3 b4
  have ih : (fun s0 a3 b4 => evLP E_ref01_Trim n (sub C_ref01_Trim [1, 1, 0, 0, 0]) K (frOf [(0, (.dat (.sl .byte) s0 none)), (3, (.dat (.int .i64) a3 none)), (4, (.dat (.int .i64) b4 none))])) = ref01_Trim_l2 (fun s0 a3 b4 => K (.exit 0) (frOf [(0, (.dat (.sl .byte) s0 none)), (3, (.dat (.int .i64) a3 none)), (4, (.dat (.int .i64) b4 none))])) n := by
    funext s0 a3 b4
    exact IH s0 a3 b4
  show _ = ref01_Trim_l2_b (fun s0 a3 b4 => K (.exit 0) (frOf [(0, (.dat (.sl .byte) s0 none)), (3, (.dat (.int .i64) a3 none)), (4, (.dat (.int .i64) b4 none))])) (ref01_Trim_l2 (fun s0 a3 b4 => K (.exit 0) (frOf [(0, (.dat (.sl .byte) s0 none)), (3, (.dat (.int .i64) a3 none)), (4, (.dat (.int .i64) b4 none))])) n) n s0 a3 b4
  rw [← ih]
  kernel_rfl
theorem ref01_Trim_l4_ok (K : Ex → Fr → Option AV) : ∀ (n : Nat) (s0 : List UInt8) (a3 : Int) (b4 : Int), evLP E_ref01_Trim n (sub C_ref01_Trim [1, 1, 1, 0, 0, 0]) K (frOf [(0, (.dat (.sl .byte) s0 none)), (3, (.dat (.int .i64) a3 none)), (4, (.dat (.int .i64) b4 none))]) = ref01_Trim_l4 (fun s0 a3 b4 => K (.exit 2) (frOf [(0, (.dat (.sl .byte) s0 none)), (3, (.dat (.int .i64) a3 none)), (4, (.dat (.int .i64) b4 none))])) n s0 a3 b4 := by
  intro n
  induction n with
  | zero => intros; rfl
  | succ n IH =>
  intro s0 a3 b4
  have ih : (fun s0 a3 b4 => evLP E_ref01_Trim n (sub C_ref01_Trim [1, 1, 1, 0, 0, 0]) K (frOf [(0, (.dat (.sl .byte) s0 none)), (3, (.dat (.int .i64) a3 none)), (4, (.dat (.int .i64) b4 none))])) = ref01_Trim_l4 (fun s0 a3 b4 => K (.exit 2) (frOf [(0, (.dat (.sl .byte) s0 none)), (3, (.dat (.int .i64) a3 none)), (4, (.dat (.int .i64) b4 none))])) n := by
    funext s0 a3 b4
    exact IH s0 a3 b4
  show _ = ref01_Trim_l4_b (fun s0 a3 b4 => K (.exit 2) (frOf [(0, (.dat (.sl .byte) s0 none)), (3, (.dat (.int .i64) a3 none)), (4, (.dat (.int .i64) b4 none))])) (ref01_Trim_l4 (fun s0 a3 b4 => K (.exit 2) (frOf [(0, (.dat (.sl .byte) s0 none)), (3, (.dat (.int .i64) a3 none)), (4, (.dat (.int .i64) b4 none))])) n) n s0 a3 b4
  rw [← ih]
  kernel_rfl
theorem ref01_Trim_k4_2_ok (n : Nat) (s0 : List UInt8) (a3 : Int) (b4 : Int) : (kBlockP 2 (E_ref01_Trim.cutb 2) (kSeq (evCP E_ref01_Trim (evLP E_ref01_Trim n) (sub C_ref01_Trim [1, 1, 1, 1])) (kFnP E_ref01_Trim R_ref01_Trim))) (.exit 2) (frOf [(0, (.dat (.sl .byte) s0 none)), (3, (.dat (.int .i64) a3 none)), (4, (.dat (.int .i64) b4 none))]) = ref01_Trim_k4_2 n s0 a3 b4 := by
  kernel_rfl
theorem ref01_Trim_k2_0_ok (n : Nat) (s0 : List UInt8) (a3 : Int) (b4 : Int) : (kBlockP 0 (E_ref01_Trim.cutb 0) (kSeq (evCP E_ref01_Trim (evLP E_ref01_Trim n) (sub C_ref01_Trim [1, 1, 1])) (kFnP E_ref01_Trim R_ref01_Trim))) (.exit 0) (frOf [(0, (.dat (.sl .byte) s0 none)), (3, (.dat (.int .i64) a3 none)), (4, (.dat (.int .i64) b4 none))]) = ref01_Trim_k2_0 n s0 a3 b4 := by
  unfold ref01_Trim_k2_0
  rw [show ref01_Trim_l4 (ref01_Trim_k4_2 n) n = (fun s0 a3 b4 => evLP E_ref01_Trim n (sub C_ref01_Trim [1, 1, 1, 0, 0, 0]) (kBlockP 2 (E_ref01_Trim.cutb 2) (kSeq (evCP E_ref01_Trim (evLP E_ref01_Trim n) (sub C_ref01_Trim [1, 1, 1, 1])) (kFnP E_ref01_Trim R_ref01_Trim))) (frOf [(0, (.dat (.sl .byte) s0 none)), (3, (.dat (.int .i64) a3 none)), (4, (.dat (.int .i64) b4 none))])) from by
    funext s0 a3 b4
    refine Eq.trans ?_ (ref01_Trim_l4_ok (kBlockP 2 (E_ref01_Trim.cutb 2) (kSeq (evCP E_ref01_Trim (evLP E_ref01_Trim n) (sub C_ref01_Trim [1, 1, 1, 1])) (kFnP E_ref01_Trim R_ref01_Trim))) n s0 a3 b4).symm
    rw [show (fun s0 a3 b4 => (kBlockP 2 (E_ref01_Trim.cutb 2) (kSeq (evCP E_ref01_Trim (evLP E_ref01_Trim n) (sub C_ref01_Trim [1, 1, 1, 1])) (kFnP E_ref01_Trim R_ref01_Trim))) (.exit 2) (frOf [(0, (.dat (.sl .byte) s0 none)), (3, (.dat (.int .i64) a3 none)), (4, (.dat (.int .i64) b4 none))])) = (ref01_Trim_k4_2 n) from by
      funext s0 a3 b4
      exact ref01_Trim_k4_2_ok n s0 a3 b4]
    all_goals kernel_rfl]
  kernel_rfl
theorem ref01_Trim_ev (n : Nat) (s0 : List UInt8) (o0 : Lab) : evFnP E_ref01_Trim n C_ref01_Trim R_ref01_Trim [.dat (.sl .byte) s0 o0] = ref01_Trim_sh n s0 := by
  unfold ref01_Trim_sh
  rw [show ref01_Trim_l2 (ref01_Trim_k2_0 n) n = (fun s0 a3 b4 => evLP E_ref01_Trim n (sub C_ref01_Trim [1, 1, 0, 0, 0]) (kBlockP 0 (E_ref01_Trim.cutb 0) (kSeq (evCP E_ref01_Trim (evLP E_ref01_Trim n) (sub C_ref01_Trim [1, 1, 1])) (kFnP E_ref01_Trim R_ref01_Trim))) (frOf [(0, (.dat (.sl .byte) s0 none)), (3, (.dat (.int .i64) a3 none)), (4, (.dat (.int .i64) b4 none))])) from by
    funext s0 a3 b4
    refine Eq.trans ?_ (ref01_Trim_l2_ok (kBlockP 0 (E_ref01_Trim.cutb 0) (kSeq (evCP E_ref01_Trim (evLP E_ref01_Trim n) (sub C_ref01_Trim [1, 1, 1])) (kFnP E_ref01_Trim R_ref01_Trim))) n s0 a3 b4).symm
    rw [show (fun s0 a3 b4 => (kBlockP 0 (E_ref01_Trim.cutb 0) (kSeq (evCP E_ref01_Trim (evLP E_ref01_Trim n) (sub C_ref01_Trim [1, 1, 1])) (kFnP E_ref01_Trim R_ref01_Trim))) (.exit 0) (frOf [(0, (.dat (.sl .byte) s0 none)), (3, (.dat (.int .i64) a3 none)), (4, (.dat (.int .i64) b4 none))])) = (ref01_Trim_k2_0 n) from by
      funext s0 a3 b4
      exact ref01_Trim_k2_0_ok n s0 a3 b4]
    all_goals kernel_rfl]
  kernel_rfl
theorem ref01_Trim_sound : SoundG G Tryd.prog 65 s_ref01_Trim := by
  refine sound_of_evP' G_stays (E := E_ref01_Trim) (fn := Tryd.f65) (c := C_ref01_Trim) (tyOk_of_table rfl tis_ok) (fun w S hg => ⟨⟨(fns_cons (ref01_Is_sound w S hg) fns_nil), fun f sp h => cns_nil f sp h w S⟩, gl_none w S hg⟩) follows Tryd.func65 (by kernel_rfl) (by kernel_rfl) (by kernel_rfl) ?_
  intro avs r h
  unfold s_ref01_Trim at h
  split at h
  · simp only [Prod.mk.injEq] at h
    obtain ⟨hp, rfl⟩ := h
    obtain ⟨n, hn⟩ := ref01_Trim_math _ hp
    exact ⟨n, _, (ref01_Trim_ev n _ _).trans hn, .inl rfl⟩
  · cases h

/-! sheave/sheaveref18.Lines -/

noncomputable def E_ref18_Lines : EnvP := ⟨⟨tiOf tis, fnsOf [], cnsOf [], [], 69, (fun x => if x = 3 then some [0, 4, 5] else none), (fun x => if x = 0 then some [4] else if x = 1 then some [0, 4, 5] else none), some [2, 3]⟩, (fun x => if x = 2 then some (.psl 22 (.osl 5 .byte)) else if x = 8 then some (.psl 22 (.osl 5 .byte)) else if x = 39 then some (.psl 22 (.osl 5 .byte)) else if x = 40 then some (.psl 22 (.osl 5 .byte)) else if x = 54 then some (.osl 5 .byte) else none), fun _ => none, fun _ => []⟩
noncomputable def C_ref18_Lines : Code := Tryd.f71.body.getD .skip
noncomputable def R_ref18_Lines : Array ResultVar := Tryd.f71.results
theorem ref18_Lines_l3_ok (K : Ex → Fr → Option AV) : ∀ (n : Nat) (s0 : List UInt8) (out4 : List (List UInt8)) (i5 : Int), evLP E_ref18_Lines n (sub C_ref18_Lines [1, 1, 0, 1, 0, 0]) K (frOf [(0, (.dat (.sl .byte) s0 none)), (4, (.pv (.psl 22 (.osl 5 .byte)) out4 none)), (5, (.dat (.int .i64) i5 none))]) = ref18_Lines_l3 (fun out4 => K (.exit 0) (frOf [(4, (.pv (.psl 22 (.osl 5 .byte)) out4 none))])) n s0 out4 i5 := by
  intro n
  induction n with
  | zero => intros; rfl
  | succ n IH =>
  intro s0 out4 i5
  have ih : (fun s0 out4 i5 => evLP E_ref18_Lines n (sub C_ref18_Lines [1, 1, 0, 1, 0, 0]) K (frOf [(0, (.dat (.sl .byte) s0 none)), (4, (.pv (.psl 22 (.osl 5 .byte)) out4 none)), (5, (.dat (.int .i64) i5 none))])) = ref18_Lines_l3 (fun out4 => K (.exit 0) (frOf [(4, (.pv (.psl 22 (.osl 5 .byte)) out4 none))])) n := by
    funext s0 out4 i5
    exact IH s0 out4 i5
  show _ = ref18_Lines_l3_b (fun out4 => K (.exit 0) (frOf [(4, (.pv (.psl 22 (.osl 5 .byte)) out4 none))])) (ref18_Lines_l3 (fun out4 => K (.exit 0) (frOf [(4, (.pv (.psl 22 (.osl 5 .byte)) out4 none))])) n) n s0 out4 i5
  rw [← ih]
  kernel_rfl
theorem ref18_Lines_k3_0_ok (n : Nat) (out4 : List (List UInt8)) : (kBlockP 0 (E_ref18_Lines.cutb 0) (kSeq (evCP E_ref18_Lines (evLP E_ref18_Lines n) (sub C_ref18_Lines [1, 1, 1])) (kFnP E_ref18_Lines R_ref18_Lines))) (.exit 0) (frOf [(4, (.pv (.psl 22 (.osl 5 .byte)) out4 none))]) = ref18_Lines_k3_0 n out4 := by
  kernel_rfl
theorem ref18_Lines_ev (n : Nat) (s0 : List UInt8) (o0 : Lab) : evFnP E_ref18_Lines n C_ref18_Lines R_ref18_Lines [.dat (.sl .byte) s0 o0] = ref18_Lines_sh n s0 := by
  unfold ref18_Lines_sh
  rw [show ref18_Lines_l3 (ref18_Lines_k3_0 n) n = (fun s0 out4 i5 => evLP E_ref18_Lines n (sub C_ref18_Lines [1, 1, 0, 1, 0, 0]) (kBlockP 0 (E_ref18_Lines.cutb 0) (kSeq (evCP E_ref18_Lines (evLP E_ref18_Lines n) (sub C_ref18_Lines [1, 1, 1])) (kFnP E_ref18_Lines R_ref18_Lines))) (frOf [(0, (.dat (.sl .byte) s0 none)), (4, (.pv (.psl 22 (.osl 5 .byte)) out4 none)), (5, (.dat (.int .i64) i5 none))])) from by
    funext s0 out4 i5
    refine Eq.trans ?_ (ref18_Lines_l3_ok (kBlockP 0 (E_ref18_Lines.cutb 0) (kSeq (evCP E_ref18_Lines (evLP E_ref18_Lines n) (sub C_ref18_Lines [1, 1, 1])) (kFnP E_ref18_Lines R_ref18_Lines))) n s0 out4 i5).symm
    rw [show (fun out4 => (kBlockP 0 (E_ref18_Lines.cutb 0) (kSeq (evCP E_ref18_Lines (evLP E_ref18_Lines n) (sub C_ref18_Lines [1, 1, 1])) (kFnP E_ref18_Lines R_ref18_Lines))) (.exit 0) (frOf [(4, (.pv (.psl 22 (.osl 5 .byte)) out4 none))])) = (ref18_Lines_k3_0 n) from by
      funext out4
      exact ref18_Lines_k3_0_ok n out4]
    all_goals kernel_rfl]
  kernel_rfl
theorem ref18_Lines_sound : SoundG G Tryd.prog 71 s_ref18_Lines := by
  refine sound_of_evP' G_stays (E := E_ref18_Lines) (fn := Tryd.f71) (c := C_ref18_Lines) (tyOk_of_table rfl tis_ok) (fun w S hg => ⟨⟨fns_nil, fun f sp h => cns_nil f sp h w S⟩, gl_none w S hg⟩) follows Tryd.func71 (by kernel_rfl) (by kernel_rfl) (by kernel_rfl) ?_
  intro avs r h
  unfold s_ref18_Lines at h
  split at h
  · simp only [Prod.mk.injEq] at h
    obtain ⟨hp, rfl⟩ := h
    obtain ⟨n, hn⟩ := ref18_Lines_math _ hp
    exact ⟨n, _, (ref18_Lines_ev n _ _).trans hn, .inl rfl⟩
  · cases h

/-! sheave/sheaveref26.Split -/

noncomputable def E_ref26_Split : EnvP := ⟨⟨tiOf tis, fnsOf [(71, s_ref18_Lines)], cnsOf [], [], 11, (fun _ => none), (fun _ => none), some [2]⟩, fun _ => none, fun _ => none, fun _ => []⟩
noncomputable def C_ref26_Split : Code := Tryd.f57.body.getD .skip
noncomputable def R_ref26_Split : Array ResultVar := Tryd.f57.results
theorem ref26_Split_ev (n : Nat) (s0 : List UInt8) (o0 : Lab) : evFnP E_ref26_Split n C_ref26_Split R_ref26_Split [.dat (.sl .byte) s0 o0] = ref26_Split_sh n s0 := by
  kernel_rfl
theorem ref26_Split_sound : SoundG G Tryd.prog 57 s_ref26_Split := by
  refine sound_of_evP' G_stays (E := E_ref26_Split) (fn := Tryd.f57) (c := C_ref26_Split) (tyOk_of_table rfl tis_ok) (fun w S hg => ⟨⟨(fns_cons (ref18_Lines_sound w S hg) fns_nil), fun f sp h => cns_nil f sp h w S⟩, gl_none w S hg⟩) follows Tryd.func57 (by kernel_rfl) (by kernel_rfl) (by kernel_rfl) ?_
  intro avs r h
  unfold s_ref26_Split at h
  split at h
  · simp only [Prod.mk.injEq] at h
    obtain ⟨hp, rfl⟩ := h
    obtain ⟨n, hn⟩ := ref26_Split_math _ hp
    exact ⟨n, _, (ref26_Split_ev n _ _).trans hn, .inl rfl⟩
  · cases h

/-! sheave/sheaveref48.colon -/

noncomputable def E_ref48_colon : EnvP := ⟨⟨tiOf tis, fnsOf [], cnsOf [], [], 16, (fun x => if x = 2 then some [0, 3] else none), (fun x => if x = 0 then some [] else if x = 1 then some [0, 3] else none), some [2]⟩, fun _ => none, fun _ => none, fun _ => []⟩
noncomputable def C_ref48_colon : Code := Tryd.f64.body.getD .skip
noncomputable def R_ref48_colon : Array ResultVar := Tryd.f64.results
theorem ref48_colon_l2_ok (K : Ex → Fr → Option AV) : ∀ (n : Nat) (s0 : List UInt8) (i3 : Int), evLP E_ref48_colon n (sub C_ref48_colon [1, 0, 1, 0, 0]) K (frOf [(0, (.dat (.sl .byte) s0 none)), (3, (.dat (.int .i64) i3 none))]) = ref48_colon_l2 (fun s2 => K .ret (frOf [(2, (.dat (.int .i64) s2 none))])) (K (.exit 0) (frOf [])) n s0 i3 := by
  intro n
  induction n with
  | zero => intros; rfl
  | succ n IH =>
  intro s0 i3
  have ih : (fun s0 i3 => evLP E_ref48_colon n (sub C_ref48_colon [1, 0, 1, 0, 0]) K (frOf [(0, (.dat (.sl .byte) s0 none)), (3, (.dat (.int .i64) i3 none))])) = ref48_colon_l2 (fun s2 => K .ret (frOf [(2, (.dat (.int .i64) s2 none))])) (K (.exit 0) (frOf [])) n := by
    funext s0 i3
    exact IH s0 i3
  show _ = ref48_colon_l2_b (fun s2 => K .ret (frOf [(2, (.dat (.int .i64) s2 none))])) (K (.exit 0) (frOf [])) (ref48_colon_l2 (fun s2 => K .ret (frOf [(2, (.dat (.int .i64) s2 none))])) (K (.exit 0) (frOf [])) n) n s0 i3
  rw [← ih]
  kernel_rfl
theorem ref48_colon_k2_0_ok (n : Nat)  : (kBlockP 0 (E_ref48_colon.cutb 0) (kSeq (evCP E_ref48_colon (evLP E_ref48_colon n) (sub C_ref48_colon [1, 1])) (kFnP E_ref48_colon R_ref48_colon))) (.exit 0) (frOf []) = ref48_colon_k2_0 n  := by
  kernel_rfl
theorem ref48_colon_ev (n : Nat) (s0 : List UInt8) (o0 : Lab) : evFnP E_ref48_colon n C_ref48_colon R_ref48_colon [.dat (.sl .byte) s0 o0] = ref48_colon_sh n s0 := by
  unfold ref48_colon_sh
  rw [show ref48_colon_l2 ref48_colon_ret (ref48_colon_k2_0 n) n = (fun s0 i3 => evLP E_ref48_colon n (sub C_ref48_colon [1, 0, 1, 0, 0]) (kBlockP 0 (E_ref48_colon.cutb 0) (kSeq (evCP E_ref48_colon (evLP E_ref48_colon n) (sub C_ref48_colon [1, 1])) (kFnP E_ref48_colon R_ref48_colon))) (frOf [(0, (.dat (.sl .byte) s0 none)), (3, (.dat (.int .i64) i3 none))])) from by
    funext s0 i3
    refine Eq.trans ?_ (ref48_colon_l2_ok (kBlockP 0 (E_ref48_colon.cutb 0) (kSeq (evCP E_ref48_colon (evLP E_ref48_colon n) (sub C_ref48_colon [1, 1])) (kFnP E_ref48_colon R_ref48_colon))) n s0 i3).symm
    rw [show ((kBlockP 0 (E_ref48_colon.cutb 0) (kSeq (evCP E_ref48_colon (evLP E_ref48_colon n) (sub C_ref48_colon [1, 1])) (kFnP E_ref48_colon R_ref48_colon))) (.exit 0) (frOf [])) = (ref48_colon_k2_0 n) from by
      exact ref48_colon_k2_0_ok n ]
    all_goals kernel_rfl]
  kernel_rfl
theorem ref48_colon_sound : SoundG G Tryd.prog 64 s_ref48_colon := by
  refine sound_of_evP' G_stays (E := E_ref48_colon) (fn := Tryd.f64) (c := C_ref48_colon) (tyOk_of_table rfl tis_ok) (fun w S hg => ⟨⟨fns_nil, fun f sp h => cns_nil f sp h w S⟩, gl_none w S hg⟩) follows Tryd.func64 (by kernel_rfl) (by kernel_rfl) (by kernel_rfl) ?_
  intro avs r h
  unfold s_ref48_colon at h
  split at h
  · simp only [Prod.mk.injEq] at h
    obtain ⟨hp, rfl⟩ := h
    obtain ⟨n, hn⟩ := ref48_colon_math _ hp
    exact ⟨n, _, (ref48_colon_ev n _ _).trans hn, .inl rfl⟩
  · cases h

/-! sheave/sheaveref48.name -/

noncomputable def E_ref48_name : EnvP := ⟨⟨tiOf tis, fnsOf [(64, s_ref48_colon), (89, s_ref01_Count)], cnsOf [], [], 18, (fun _ => none), (fun _ => none), some [2]⟩, fun _ => none, fun _ => none, fun _ => []⟩
noncomputable def C_ref48_name : Code := Tryd.f66.body.getD .skip
noncomputable def R_ref48_name : Array ResultVar := Tryd.f66.results
theorem ref48_name_ev (n : Nat) (s0 : List UInt8) (o0 : Lab) : evFnP E_ref48_name n C_ref48_name R_ref48_name [.dat (.sl .byte) s0 o0] = ref48_name_sh n s0 := by
  kernel_rfl
theorem ref48_name_sound : SoundG G Tryd.prog 66 s_ref48_name := by
  refine sound_of_evP' G_stays (E := E_ref48_name) (fn := Tryd.f66) (c := C_ref48_name) (tyOk_of_table rfl tis_ok) (fun w S hg => ⟨⟨(fns_cons (ref48_colon_sound w S hg) (fns_cons (ref01_Count_sound w S hg) fns_nil)), fun f sp h => cns_nil f sp h w S⟩, gl_none w S hg⟩) follows Tryd.func66 (by kernel_rfl) (by kernel_rfl) (by kernel_rfl) ?_
  intro avs r h
  unfold s_ref48_name at h
  split at h
  · simp only [Prod.mk.injEq] at h
    obtain ⟨hp, rfl⟩ := h
    obtain ⟨n, hn⟩ := ref48_name_math _ hp
    exact ⟨n, _, (ref48_name_ev n _ _).trans hn, .inl rfl⟩
  · cases h

/-! sheave/sheaveref48.One -/

noncomputable def E_ref48_One : EnvP := ⟨⟨tiOf tis, fnsOf [(14, s_ref27_Unfold), (58, s_ref01_Is), (64, s_ref48_colon), (65, s_ref01_Trim), (66, s_ref48_name)], cnsOf [], [], 39, (fun _ => none), (fun _ => none), some [2, 3]⟩, fun _ => none, fun _ => none, fun _ => []⟩
noncomputable def C_ref48_One : Code := Tryd.f31.body.getD .skip
noncomputable def R_ref48_One : Array ResultVar := Tryd.f31.results
theorem ref48_One_ev (n : Nat) (raw0 : List UInt8) (o0 : Lab) : evFnP E_ref48_One n C_ref48_One R_ref48_One [.dat (.sl .byte) raw0 o0] = ref48_One_sh n raw0 := by
  kernel_rfl
theorem ref48_One_sound : SoundG G Tryd.prog 31 s_ref48_One := by
  refine sound_of_evP' G_stays (E := E_ref48_One) (fn := Tryd.f31) (c := C_ref48_One) (tyOk_of_table rfl tis_ok) (fun w S hg => ⟨⟨(fns_cons (ref27_Unfold_sound w S hg) (fns_cons (ref01_Is_sound w S hg) (fns_cons (ref48_colon_sound w S hg) (fns_cons (ref01_Trim_sound w S hg) (fns_cons (ref48_name_sound w S hg) fns_nil))))), fun f sp h => cns_nil f sp h w S⟩, gl_none w S hg⟩) follows Tryd.func31 (by kernel_rfl) (by kernel_rfl) (by kernel_rfl) ?_
  intro avs r h
  unfold s_ref48_One at h
  split at h
  · simp only [Prod.mk.injEq] at h
    obtain ⟨hp, rfl⟩ := h
    obtain ⟨n, hn⟩ := ref48_One_math _ hp
    exact ⟨n, _, (ref48_One_ev n _ _).trans hn, .inl rfl⟩
  · cases h

/-! sheave/sheaveref48.Raw -/

noncomputable def E_ref48_Raw : EnvP := ⟨⟨tiOf tis, fnsOf [(57, s_ref26_Split), (58, s_ref01_Is)], cnsOf [], [], 72, (fun x => if x = 5 then some [0, 4, 5, 6, 7] else none), (fun x => if x = 0 then some [4] else if x = 1 then some [0, 4, 5, 6, 7] else none), some [2, 1000003]⟩, (fun x => if x = 2 then some (.psl 22 (.leaf (.sl .byte))) else if x = 4 then some (.psl 22 (.leaf (.sl .byte))) else if x = 70 then some (.psl 22 (.leaf (.sl .byte))) else none), fun _ => none, fun _ => []⟩
noncomputable def C_ref48_Raw : Code := Tryd.f26.body.getD .skip
noncomputable def R_ref48_Raw : Array ResultVar := Tryd.f26.results
theorem ref48_Raw_l5_ok (K : Ex → Fr → Option AV) : ∀ (n : Nat) (s0 : List UInt8) (out4 : List (List UInt8)) (l5 : List (List UInt8)) (at6 : Int) (i7 : Int), evLP E_ref48_Raw n (sub C_ref48_Raw [1, 1, 1, 1, 0, 1, 0, 0]) K (frOf [(0, (.dat (.sl .byte) s0 none)), (4, (.pv (.psl 22 (.leaf (.sl .byte))) out4 none)), (5, (.dat (.sl (.sl .byte)) l5 none)), (6, (.dat (.int .i64) at6 none)), (7, (.dat (.int .i64) i7 none))]) = ref48_Raw_l5 (fun s2 s3 => K .ret (frOf [(2, (.dat (.sl (.sl .byte)) s2 (some (2, 22)))), (3, (.dat (.sl .byte) s3 none))])) (fun out4 => K (.exit 0) (frOf [(4, (.pv (.psl 22 (.leaf (.sl .byte))) out4 none))])) n s0 out4 l5 at6 i7 := by
  intro n
  induction n with
  | zero => intros; rfl
  | succ n IH =>
  intro s0 out4 l5 at6 i7
  have ih : (fun s0 out4 l5 at6 i7 => evLP E_ref48_Raw n (sub C_ref48_Raw [1, 1, 1, 1, 0, 1, 0, 0]) K (frOf [(0, (.dat (.sl .byte) s0 none)), (4, (.pv (.psl 22 (.leaf (.sl .byte))) out4 none)), (5, (.dat (.sl (.sl .byte)) l5 none)), (6, (.dat (.int .i64) at6 none)), (7, (.dat (.int .i64) i7 none))])) = ref48_Raw_l5 (fun s2 s3 => K .ret (frOf [(2, (.dat (.sl (.sl .byte)) s2 (some (2, 22)))), (3, (.dat (.sl .byte) s3 none))])) (fun out4 => K (.exit 0) (frOf [(4, (.pv (.psl 22 (.leaf (.sl .byte))) out4 none))])) n := by
    funext s0 out4 l5 at6 i7
    exact IH s0 out4 l5 at6 i7
  show _ = ref48_Raw_l5_b (fun s2 s3 => K .ret (frOf [(2, (.dat (.sl (.sl .byte)) s2 (some (2, 22)))), (3, (.dat (.sl .byte) s3 none))])) (fun out4 => K (.exit 0) (frOf [(4, (.pv (.psl 22 (.leaf (.sl .byte))) out4 none))])) (ref48_Raw_l5 (fun s2 s3 => K .ret (frOf [(2, (.dat (.sl (.sl .byte)) s2 (some (2, 22)))), (3, (.dat (.sl .byte) s3 none))])) (fun out4 => K (.exit 0) (frOf [(4, (.pv (.psl 22 (.leaf (.sl .byte))) out4 none))])) n) n s0 out4 l5 at6 i7
  rw [← ih]
  kernel_rfl
theorem ref48_Raw_k5_0_ok (n : Nat) (out4 : List (List UInt8)) : (kBlockP 0 (E_ref48_Raw.cutb 0) (kSeq (evCP E_ref48_Raw (evLP E_ref48_Raw n) (sub C_ref48_Raw [1, 1, 1, 1, 1])) (kFnP E_ref48_Raw R_ref48_Raw))) (.exit 0) (frOf [(4, (.pv (.psl 22 (.leaf (.sl .byte))) out4 none))]) = ref48_Raw_k5_0 n out4 := by
  kernel_rfl
theorem ref48_Raw_ev (n : Nat) (s0 : List UInt8) (o0 : Lab) : evFnP E_ref48_Raw n C_ref48_Raw R_ref48_Raw [.dat (.sl .byte) s0 o0] = ref48_Raw_sh n s0 := by
  unfold ref48_Raw_sh
  rw [show ref48_Raw_l5 ref48_Raw_ret (ref48_Raw_k5_0 n) n = (fun s0 out4 l5 at6 i7 => evLP E_ref48_Raw n (sub C_ref48_Raw [1, 1, 1, 1, 0, 1, 0, 0]) (kBlockP 0 (E_ref48_Raw.cutb 0) (kSeq (evCP E_ref48_Raw (evLP E_ref48_Raw n) (sub C_ref48_Raw [1, 1, 1, 1, 1])) (kFnP E_ref48_Raw R_ref48_Raw))) (frOf [(0, (.dat (.sl .byte) s0 none)), (4, (.pv (.psl 22 (.leaf (.sl .byte))) out4 none)), (5, (.dat (.sl (.sl .byte)) l5 none)), (6, (.dat (.int .i64) at6 none)), (7, (.dat (.int .i64) i7 none))])) from by
    funext s0 out4 l5 at6 i7
    refine Eq.trans ?_ (ref48_Raw_l5_ok (kBlockP 0 (E_ref48_Raw.cutb 0) (kSeq (evCP E_ref48_Raw (evLP E_ref48_Raw n) (sub C_ref48_Raw [1, 1, 1, 1, 1])) (kFnP E_ref48_Raw R_ref48_Raw))) n s0 out4 l5 at6 i7).symm
    rw [show (fun out4 => (kBlockP 0 (E_ref48_Raw.cutb 0) (kSeq (evCP E_ref48_Raw (evLP E_ref48_Raw n) (sub C_ref48_Raw [1, 1, 1, 1, 1])) (kFnP E_ref48_Raw R_ref48_Raw))) (.exit 0) (frOf [(4, (.pv (.psl 22 (.leaf (.sl .byte))) out4 none))])) = (ref48_Raw_k5_0 n) from by
      funext out4
      exact ref48_Raw_k5_0_ok n out4]
    all_goals kernel_rfl]
  kernel_rfl
theorem ref48_Raw_sound : SoundG G Tryd.prog 26 s_ref48_Raw := by
  refine sound_of_evP' G_stays (E := E_ref48_Raw) (fn := Tryd.f26) (c := C_ref48_Raw) (tyOk_of_table rfl tis_ok) (fun w S hg => ⟨⟨(fns_cons (ref26_Split_sound w S hg) (fns_cons (ref01_Is_sound w S hg) fns_nil)), fun f sp h => cns_nil f sp h w S⟩, gl_none w S hg⟩) follows Tryd.func26 (by kernel_rfl) (by kernel_rfl) (by kernel_rfl) ?_
  intro avs r h
  unfold s_ref48_Raw at h
  split at h
  · simp only [Prod.mk.injEq] at h
    obtain ⟨hp, rfl⟩ := h
    obtain ⟨n, hn⟩ := ref48_Raw_math _ hp
    exact ⟨n, _, (ref48_Raw_ev n _ _).trans hn, .inl rfl⟩
  · cases h

end Go.Av
