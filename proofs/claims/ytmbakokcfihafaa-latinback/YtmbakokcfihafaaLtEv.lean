import Derived.Test.YtmbakokcfihafaaLtP
import Derived.Test.YtmbakokcfihafaaProg
import Derived.KernelRfl
namespace Go.Av
open Go.Proofs
def tis : List (TypeId × TI) := [(2, ⟨some (.int .i64), 8, 0⟩),
  (3, ⟨some (.int .i64), 8, 0⟩),
  (4, ⟨some .bool, 1, 0⟩),
  (5, ⟨some .byte, 1, 0⟩),
  (6, ⟨some .byte, 1, 0⟩),
  (7, ⟨some (.pair (.int .i64) (.pair (.int .i64) (.pair .bool (.pair .byte .unit)))), 24, 0⟩),
  (8, ⟨some (.pair (.int .i64) (.pair (.int .i64) (.pair .bool (.pair .byte .unit)))), 24, 0⟩),
  (9, ⟨some .str, 16, 0⟩),
  (10, ⟨some .str, 16, 0⟩),
  (11, ⟨some .str, 16, 0⟩),
  (12, ⟨some (.int .u64), 8, 0⟩),
  (13, ⟨some (.pair .str (.pair (.int .u64) .unit)), 24, 0⟩),
  (14, ⟨some (.pair .str (.pair (.int .u64) .unit)), 24, 0⟩),
  (21, ⟨some (.int .i32), 4, 0⟩),
  (28, ⟨some (.sl (.int .i32)), 24, 21⟩),
  (29, ⟨some (.sl .byte), 24, 5⟩),
  (30, ⟨some (.int .i64), 8, 0⟩),
  (40, ⟨some (.int .u32), 4, 0⟩),
  (48, ⟨some .byte, 1, 0⟩),
  (49, ⟨some .byte, 1, 0⟩),
  (52, ⟨some (.int .i32), 4, 0⟩),
  (53, ⟨some (.int .i32), 4, 0⟩)]
theorem tis_ok : (tis.all fun p => tyB Try.prog (tiOf tis) p.1) = true := by kernel_rfl
theorem follows : Try.prog.follows .mixedOrders = true := by kernel_rfl
def s_latin_Has : List AV → Bool × AV
  | [.dat (.int .i32) a0 _] => (true, (.dat .bool (latin_Has a0) none))
  | _ => (false, .bad)
def s_latin_Sign : List AV → Bool × AV
  | [.dat .byte a0 _] => (true, (.dat (.int .i32) (latin_Sign a0) none))
  | _ => (false, .bad)
def s_ref08_Sign : List AV → Bool × AV
  | [.dat .byte a0 _] => (true, (.dat (.int .i32) (ref08_Sign a0) none))
  | _ => (false, .bad)
def s_latin_Put : List AV → Bool × AV
  | [.dat (.int .i32) a0 _] => (true, (.tup [(.dat .byte ((latin_Put a0).1) none), (.dat .bool ((latin_Put a0).2) none)]))
  | _ => (false, .bad)
def s_ref08_Put : List AV → Bool × AV
  | [.dat (.int .i32) a0 _] => (true, (.tup [(.dat .byte ((ref08_Put a0).1) none), (.dat .bool ((ref08_Put a0).2) none)]))
  | _ => (false, .bad)
def s_latin_Lacks : List AV → Bool × AV
  | [.dat (.sl (.int .i32)) a0 _] => (latin_Lacks_ok a0, (.dat (.int .i64) (latin_Lacks a0) none))
  | _ => (false, .bad)
def s_ref08_Lacks : List AV → Bool × AV
  | [.dat (.sl (.int .i32)) a0 _] => (ref08_Lacks_ok a0, (.dat (.int .i64) (ref08_Lacks a0) none))
  | _ => (false, .bad)
def s_latin_Lay : List AV → Bool × AV
  | [.dat (.sl (.int .i32)) a0 _] => (latin_Lay_ok a0, (.tup [(.dat (.sl .byte) ((latin_Lay a0).1) none), (.dat (.int .i64) ((latin_Lay a0).2) none)]))
  | _ => (false, .bad)
def s_latin_Read : List AV → Bool × AV
  | [.dat (.sl .byte) a0 _] => (latin_Read_ok a0, (.dat (.sl (.int .i32)) (latin_Read a0) (some (2, 21))))
  | _ => (false, .bad)
def s_ref08_Lay : List AV → Bool × AV
  | [.dat (.sl (.int .i32)) a0 _] => (ref08_Lay_ok a0, (.tup [(.dat (.sl .byte) ((ref08_Lay a0).1) none), (.dat (.int .i64) ((ref08_Lay a0).2) none)]))
  | _ => (false, .bad)
def s_ref08_Read : List AV → Bool × AV
  | [.dat (.sl .byte) a0 _] => (ref08_Read_ok a0, (.dat (.sl (.int .i32)) (ref08_Read a0) (some (2, 21))))
  | _ => (false, .bad)
def s_ref01_Like : List AV → Bool × AV
  | [.dat (.sl .byte) a0 _, .dat (.sl .byte) a1 _] => (ref01_Like_ok a0 a1, (.dat .bool (ref01_Like a0 a1) none))
  | _ => (false, .bad)
def s_ref03_Like : List AV → Bool × AV
  | [.dat (.sl (.int .i32)) a0 _, .dat (.sl (.int .i32)) a1 _] => (ref03_Like_ok a0 a1, (.dat .bool (ref03_Like a0 a1) none))
  | _ => (false, .bad)
def s_law08_alive : List AV → Bool × AV
  | [] => (true, (.dat .bool law08_alive none))
  | _ => (false, .bad)
def s_law08_LatinOne : List AV → Bool × AV
  | [.dat (.int .i32) a0 _, .dat .byte a1 _] => (true, (.dat .bool (law08_LatinOne a0 a1) none))
  | _ => (false, .bad)
def s_law08_LatinTexts : List AV → Bool × AV
  | [.dat (.sl (.int .i32)) a0 _, .dat (.sl .byte) a1 _] => (law08_LatinTexts_ok a0 a1, (.dat .bool (law08_LatinTexts a0 a1) none))
  | _ => (false, .bad)
def s_law08_LatinBack : List AV → Bool × AV
  | [.dat (.sl (.int .i32)) a0 _, .dat (.sl .byte) a1 _] => (law08_LatinBack_ok a0 a1, (.dat .bool (law08_LatinBack a0 a1) none))
  | _ => (false, .bad)

/-! sheave/latin.Has -/

noncomputable def E_latin_Has : EnvP := ⟨⟨tiOf tis, fnsOf [], cnsOf [], [], 6, (fun _ => none), (fun _ => none), some [2]⟩, fun _ => none, fun _ => none⟩
noncomputable def C_latin_Has : Code := Try.f8.body.getD .skip
noncomputable def R_latin_Has : Array ResultVar := Try.f8.results
theorem latin_Has_ev (n : Nat) (c0 : Int) (o0 : Lab) : evFnP E_latin_Has n C_latin_Has R_latin_Has [.dat (.int .i32) c0 o0] = latin_Has_sh n c0 := by
  kernel_rfl
theorem latin_Has_sound : Sound Try.prog 8 s_latin_Has := by
  refine sound_of_evP' (E := E_latin_Has) (fn := Try.f8) (c := C_latin_Has) (tyOk_of_table rfl tis_ok) ⟨fns_nil, cns_nil⟩ follows Try.func8 (by kernel_rfl) (by kernel_rfl) (by kernel_rfl) ?_
  intro avs r h
  unfold s_latin_Has at h
  split at h
  · simp only [Prod.mk.injEq, true_and] at h
    subst h
    obtain ⟨n, hn⟩ := latin_Has_math _
    exact ⟨n, _, (latin_Has_ev n _ _).trans hn, .inl rfl⟩
  · cases h

/-! sheave/latin.Sign -/

noncomputable def E_latin_Sign : EnvP := ⟨⟨tiOf tis, fnsOf [], cnsOf [], [], 5, (fun _ => none), (fun _ => none), some [2]⟩, fun _ => none, fun _ => none⟩
noncomputable def C_latin_Sign : Code := Try.f9.body.getD .skip
noncomputable def R_latin_Sign : Array ResultVar := Try.f9.results
theorem latin_Sign_ev (n : Nat) (x0 : UInt8) (o0 : Lab) : evFnP E_latin_Sign n C_latin_Sign R_latin_Sign [.dat .byte x0 o0] = latin_Sign_sh n x0 := by
  kernel_rfl
theorem latin_Sign_sound : Sound Try.prog 9 s_latin_Sign := by
  refine sound_of_evP' (E := E_latin_Sign) (fn := Try.f9) (c := C_latin_Sign) (tyOk_of_table rfl tis_ok) ⟨fns_nil, cns_nil⟩ follows Try.func9 (by kernel_rfl) (by kernel_rfl) (by kernel_rfl) ?_
  intro avs r h
  unfold s_latin_Sign at h
  split at h
  · simp only [Prod.mk.injEq, true_and] at h
    subst h
    obtain ⟨n, hn⟩ := latin_Sign_math _
    exact ⟨n, _, (latin_Sign_ev n _ _).trans hn, .inl rfl⟩
  · cases h

/-! sheave/sheaveref08.Sign -/

noncomputable def E_ref08_Sign : EnvP := ⟨⟨tiOf tis, fnsOf [], cnsOf [], [], 5, (fun _ => none), (fun _ => none), some [2]⟩, fun _ => none, fun _ => none⟩
noncomputable def C_ref08_Sign : Code := Try.f10.body.getD .skip
noncomputable def R_ref08_Sign : Array ResultVar := Try.f10.results
theorem ref08_Sign_ev (n : Nat) (x0 : UInt8) (o0 : Lab) : evFnP E_ref08_Sign n C_ref08_Sign R_ref08_Sign [.dat .byte x0 o0] = ref08_Sign_sh n x0 := by
  kernel_rfl
theorem ref08_Sign_sound : Sound Try.prog 10 s_ref08_Sign := by
  refine sound_of_evP' (E := E_ref08_Sign) (fn := Try.f10) (c := C_ref08_Sign) (tyOk_of_table rfl tis_ok) ⟨fns_nil, cns_nil⟩ follows Try.func10 (by kernel_rfl) (by kernel_rfl) (by kernel_rfl) ?_
  intro avs r h
  unfold s_ref08_Sign at h
  split at h
  · simp only [Prod.mk.injEq, true_and] at h
    subst h
    obtain ⟨n, hn⟩ := ref08_Sign_math _
    exact ⟨n, _, (ref08_Sign_ev n _ _).trans hn, .inl rfl⟩
  · cases h

/-! sheave/latin.Put -/

noncomputable def E_latin_Put : EnvP := ⟨⟨tiOf tis, fnsOf [(8, s_latin_Has)], cnsOf [], [], 9, (fun _ => none), (fun _ => none), some [2, 3]⟩, fun _ => none, fun _ => none⟩
noncomputable def C_latin_Put : Code := Try.f6.body.getD .skip
noncomputable def R_latin_Put : Array ResultVar := Try.f6.results
theorem latin_Put_ev (n : Nat) (c0 : Int) (o0 : Lab) : evFnP E_latin_Put n C_latin_Put R_latin_Put [.dat (.int .i32) c0 o0] = latin_Put_sh n c0 := by
  kernel_rfl
theorem latin_Put_sound : Sound Try.prog 6 s_latin_Put := by
  refine sound_of_evP' (E := E_latin_Put) (fn := Try.f6) (c := C_latin_Put) (tyOk_of_table rfl tis_ok) ⟨(fns_cons latin_Has_sound fns_nil), cns_nil⟩ follows Try.func6 (by kernel_rfl) (by kernel_rfl) (by kernel_rfl) ?_
  intro avs r h
  unfold s_latin_Put at h
  split at h
  · simp only [Prod.mk.injEq, true_and] at h
    subst h
    obtain ⟨n, hn⟩ := latin_Put_math _
    exact ⟨n, _, (latin_Put_ev n _ _).trans hn, .inl rfl⟩
  · cases h

/-! sheave/sheaveref08.Put -/

noncomputable def E_ref08_Put : EnvP := ⟨⟨tiOf tis, fnsOf [(10, s_ref08_Sign)], cnsOf [], [], 20, (fun x => if x = 2 then some [0, 4] else none), (fun x => if x = 0 then some [] else if x = 1 then some [0, 4] else none), some [2, 3]⟩, fun _ => none, fun _ => none⟩
noncomputable def C_ref08_Put : Code := Try.f7.body.getD .skip
noncomputable def R_ref08_Put : Array ResultVar := Try.f7.results
theorem ref08_Put_l2_ok (K : Ex → Fr → Option AV) : ∀ (n : Nat) (c0 : Int) (n4 : Int), evLP E_ref08_Put n (sub C_ref08_Put [1, 0, 1, 0, 0]) K (frOf [(0, (.dat (.int .i32) c0 none)), (4, (.dat (.int .i64) n4 none))]) = ref08_Put_l2 (fun s2 s3 => K .ret (frOf [(2, (.dat .byte s2 none)), (3, (.dat .bool s3 none))])) (K (.exit 0) (frOf [])) n c0 n4 := by
  intro n
  induction n with
  | zero => intros; rfl
  | succ n IH =>
  intro c0 n4
  have ih : (fun c0 n4 => evLP E_ref08_Put n (sub C_ref08_Put [1, 0, 1, 0, 0]) K (frOf [(0, (.dat (.int .i32) c0 none)), (4, (.dat (.int .i64) n4 none))])) = ref08_Put_l2 (fun s2 s3 => K .ret (frOf [(2, (.dat .byte s2 none)), (3, (.dat .bool s3 none))])) (K (.exit 0) (frOf [])) n := by
    funext c0 n4
    exact IH c0 n4
  show _ = ref08_Put_l2_b (fun s2 s3 => K .ret (frOf [(2, (.dat .byte s2 none)), (3, (.dat .bool s3 none))])) (K (.exit 0) (frOf [])) (ref08_Put_l2 (fun s2 s3 => K .ret (frOf [(2, (.dat .byte s2 none)), (3, (.dat .bool s3 none))])) (K (.exit 0) (frOf [])) n) n c0 n4
  rw [← ih]
  kernel_rfl
theorem ref08_Put_k2_0_ok (n : Nat)  : (kBlockP 0 (E_ref08_Put.cutb 0) (kSeq (evCP E_ref08_Put (evLP E_ref08_Put n) (sub C_ref08_Put [1, 1])) (kFnP E_ref08_Put R_ref08_Put))) (.exit 0) (frOf []) = ref08_Put_k2_0 n  := by
  kernel_rfl
theorem ref08_Put_ev (n : Nat) (c0 : Int) (o0 : Lab) : evFnP E_ref08_Put n C_ref08_Put R_ref08_Put [.dat (.int .i32) c0 o0] = ref08_Put_sh n c0 := by
  unfold ref08_Put_sh
  rw [show ref08_Put_l2 ref08_Put_ret (ref08_Put_k2_0 n) n = (fun c0 n4 => evLP E_ref08_Put n (sub C_ref08_Put [1, 0, 1, 0, 0]) (kBlockP 0 (E_ref08_Put.cutb 0) (kSeq (evCP E_ref08_Put (evLP E_ref08_Put n) (sub C_ref08_Put [1, 1])) (kFnP E_ref08_Put R_ref08_Put))) (frOf [(0, (.dat (.int .i32) c0 none)), (4, (.dat (.int .i64) n4 none))])) from by
    funext c0 n4
    refine Eq.trans ?_ (ref08_Put_l2_ok (kBlockP 0 (E_ref08_Put.cutb 0) (kSeq (evCP E_ref08_Put (evLP E_ref08_Put n) (sub C_ref08_Put [1, 1])) (kFnP E_ref08_Put R_ref08_Put))) n c0 n4).symm
    rw [show ((kBlockP 0 (E_ref08_Put.cutb 0) (kSeq (evCP E_ref08_Put (evLP E_ref08_Put n) (sub C_ref08_Put [1, 1])) (kFnP E_ref08_Put R_ref08_Put))) (.exit 0) (frOf [])) = (ref08_Put_k2_0 n) from by
      exact ref08_Put_k2_0_ok n ]
    all_goals kernel_rfl]
  kernel_rfl
theorem ref08_Put_sound : Sound Try.prog 7 s_ref08_Put := by
  refine sound_of_evP' (E := E_ref08_Put) (fn := Try.f7) (c := C_ref08_Put) (tyOk_of_table rfl tis_ok) ⟨(fns_cons ref08_Sign_sound fns_nil), cns_nil⟩ follows Try.func7 (by kernel_rfl) (by kernel_rfl) (by kernel_rfl) ?_
  intro avs r h
  unfold s_ref08_Put at h
  split at h
  · simp only [Prod.mk.injEq, true_and] at h
    subst h
    obtain ⟨n, hn⟩ := ref08_Put_math _
    exact ⟨n, _, (ref08_Put_ev n _ _).trans hn, .inl rfl⟩
  · cases h

/-! sheave/latin.Lacks -/

noncomputable def E_latin_Lacks : EnvP := ⟨⟨tiOf tis, fnsOf [(8, s_latin_Has)], cnsOf [], [], 17, (fun x => if x = 2 then some [0, 5, 6] else none), (fun x => if x = 0 then some [] else if x = 1 then some [0, 5, 6] else none), some [2]⟩, fun _ => none, fun _ => none⟩
noncomputable def C_latin_Lacks : Code := Try.f15.body.getD .skip
noncomputable def R_latin_Lacks : Array ResultVar := Try.f15.results
theorem latin_Lacks_l2_ok (K : Ex → Fr → Option AV) : ∀ (n : Nat) (t0 : List Int) (s5 : Int) (s6 : Int), evLP E_latin_Lacks n (sub C_latin_Lacks [1, 0, 1, 0, 0]) K (frOf [(0, (.dat (.sl (.int .i32)) t0 none)), (5, (.dat (.int .i64) s5 none)), (6, (.dat (.int .i64) s6 none))]) = latin_Lacks_l2 (fun s2 => K .ret (frOf [(2, (.dat (.int .i64) s2 none))])) (K (.exit 0) (frOf [])) n t0 s5 s6 := by
  intro n
  induction n with
  | zero => intros; rfl
  | succ n IH =>
  intro t0 s5 s6
  have ih : (fun t0 s5 s6 => evLP E_latin_Lacks n (sub C_latin_Lacks [1, 0, 1, 0, 0]) K (frOf [(0, (.dat (.sl (.int .i32)) t0 none)), (5, (.dat (.int .i64) s5 none)), (6, (.dat (.int .i64) s6 none))])) = latin_Lacks_l2 (fun s2 => K .ret (frOf [(2, (.dat (.int .i64) s2 none))])) (K (.exit 0) (frOf [])) n := by
    funext t0 s5 s6
    exact IH t0 s5 s6
  show _ = latin_Lacks_l2_b (fun s2 => K .ret (frOf [(2, (.dat (.int .i64) s2 none))])) (K (.exit 0) (frOf [])) (latin_Lacks_l2 (fun s2 => K .ret (frOf [(2, (.dat (.int .i64) s2 none))])) (K (.exit 0) (frOf [])) n) n t0 s5 s6
  rw [← ih]
  kernel_rfl
theorem latin_Lacks_k2_0_ok (n : Nat)  : (kBlockP 0 (E_latin_Lacks.cutb 0) (kSeq (evCP E_latin_Lacks (evLP E_latin_Lacks n) (sub C_latin_Lacks [1, 1])) (kFnP E_latin_Lacks R_latin_Lacks))) (.exit 0) (frOf []) = latin_Lacks_k2_0 n  := by
  kernel_rfl
theorem latin_Lacks_ev (n : Nat) (t0 : List Int) (o0 : Lab) : evFnP E_latin_Lacks n C_latin_Lacks R_latin_Lacks [.dat (.sl (.int .i32)) t0 o0] = latin_Lacks_sh n t0 := by
  unfold latin_Lacks_sh
  rw [show latin_Lacks_l2 latin_Lacks_ret (latin_Lacks_k2_0 n) n = (fun t0 s5 s6 => evLP E_latin_Lacks n (sub C_latin_Lacks [1, 0, 1, 0, 0]) (kBlockP 0 (E_latin_Lacks.cutb 0) (kSeq (evCP E_latin_Lacks (evLP E_latin_Lacks n) (sub C_latin_Lacks [1, 1])) (kFnP E_latin_Lacks R_latin_Lacks))) (frOf [(0, (.dat (.sl (.int .i32)) t0 none)), (5, (.dat (.int .i64) s5 none)), (6, (.dat (.int .i64) s6 none))])) from by
    funext t0 s5 s6
    refine Eq.trans ?_ (latin_Lacks_l2_ok (kBlockP 0 (E_latin_Lacks.cutb 0) (kSeq (evCP E_latin_Lacks (evLP E_latin_Lacks n) (sub C_latin_Lacks [1, 1])) (kFnP E_latin_Lacks R_latin_Lacks))) n t0 s5 s6).symm
    rw [show ((kBlockP 0 (E_latin_Lacks.cutb 0) (kSeq (evCP E_latin_Lacks (evLP E_latin_Lacks n) (sub C_latin_Lacks [1, 1])) (kFnP E_latin_Lacks R_latin_Lacks))) (.exit 0) (frOf [])) = (latin_Lacks_k2_0 n) from by
      exact latin_Lacks_k2_0_ok n ]
    all_goals kernel_rfl]
  kernel_rfl
theorem latin_Lacks_sound : Sound Try.prog 15 s_latin_Lacks := by
  refine sound_of_evP' (E := E_latin_Lacks) (fn := Try.f15) (c := C_latin_Lacks) (tyOk_of_table rfl tis_ok) ⟨(fns_cons latin_Has_sound fns_nil), cns_nil⟩ follows Try.func15 (by kernel_rfl) (by kernel_rfl) (by kernel_rfl) ?_
  intro avs r h
  unfold s_latin_Lacks at h
  split at h
  · simp only [Prod.mk.injEq] at h
    obtain ⟨hp, rfl⟩ := h
    obtain ⟨n, hn⟩ := latin_Lacks_math _ hp
    exact ⟨n, _, (latin_Lacks_ev n _ _).trans hn, .inl rfl⟩
  · cases h

/-! sheave/sheaveref08.Lacks -/

noncomputable def E_ref08_Lacks : EnvP := ⟨⟨tiOf tis, fnsOf [(7, s_ref08_Put)], cnsOf [], [], 23, (fun x => if x = 2 then some [0, 3] else none), (fun x => if x = 0 then some [] else if x = 1 then some [0, 3] else none), some [2]⟩, fun _ => none, fun _ => none⟩
noncomputable def C_ref08_Lacks : Code := Try.f16.body.getD .skip
noncomputable def R_ref08_Lacks : Array ResultVar := Try.f16.results
theorem ref08_Lacks_l2_ok (K : Ex → Fr → Option AV) : ∀ (n : Nat) (t0 : List Int) (i3 : Int), evLP E_ref08_Lacks n (sub C_ref08_Lacks [1, 0, 1, 0, 0]) K (frOf [(0, (.dat (.sl (.int .i32)) t0 none)), (3, (.dat (.int .i64) i3 none))]) = ref08_Lacks_l2 (fun s2 => K .ret (frOf [(2, (.dat (.int .i64) s2 none))])) (K (.exit 0) (frOf [])) n t0 i3 := by
  intro n
  induction n with
  | zero => intros; rfl
  | succ n IH =>
  intro t0 i3
  have ih : (fun t0 i3 => evLP E_ref08_Lacks n (sub C_ref08_Lacks [1, 0, 1, 0, 0]) K (frOf [(0, (.dat (.sl (.int .i32)) t0 none)), (3, (.dat (.int .i64) i3 none))])) = ref08_Lacks_l2 (fun s2 => K .ret (frOf [(2, (.dat (.int .i64) s2 none))])) (K (.exit 0) (frOf [])) n := by
    funext t0 i3
    exact IH t0 i3
  show _ = ref08_Lacks_l2_b (fun s2 => K .ret (frOf [(2, (.dat (.int .i64) s2 none))])) (K (.exit 0) (frOf [])) (ref08_Lacks_l2 (fun s2 => K .ret (frOf [(2, (.dat (.int .i64) s2 none))])) (K (.exit 0) (frOf [])) n) n t0 i3
  rw [← ih]
  kernel_rfl
theorem ref08_Lacks_k2_0_ok (n : Nat)  : (kBlockP 0 (E_ref08_Lacks.cutb 0) (kSeq (evCP E_ref08_Lacks (evLP E_ref08_Lacks n) (sub C_ref08_Lacks [1, 1])) (kFnP E_ref08_Lacks R_ref08_Lacks))) (.exit 0) (frOf []) = ref08_Lacks_k2_0 n  := by
  kernel_rfl
theorem ref08_Lacks_ev (n : Nat) (t0 : List Int) (o0 : Lab) : evFnP E_ref08_Lacks n C_ref08_Lacks R_ref08_Lacks [.dat (.sl (.int .i32)) t0 o0] = ref08_Lacks_sh n t0 := by
  unfold ref08_Lacks_sh
  rw [show ref08_Lacks_l2 ref08_Lacks_ret (ref08_Lacks_k2_0 n) n = (fun t0 i3 => evLP E_ref08_Lacks n (sub C_ref08_Lacks [1, 0, 1, 0, 0]) (kBlockP 0 (E_ref08_Lacks.cutb 0) (kSeq (evCP E_ref08_Lacks (evLP E_ref08_Lacks n) (sub C_ref08_Lacks [1, 1])) (kFnP E_ref08_Lacks R_ref08_Lacks))) (frOf [(0, (.dat (.sl (.int .i32)) t0 none)), (3, (.dat (.int .i64) i3 none))])) from by
    funext t0 i3
    refine Eq.trans ?_ (ref08_Lacks_l2_ok (kBlockP 0 (E_ref08_Lacks.cutb 0) (kSeq (evCP E_ref08_Lacks (evLP E_ref08_Lacks n) (sub C_ref08_Lacks [1, 1])) (kFnP E_ref08_Lacks R_ref08_Lacks))) n t0 i3).symm
    rw [show ((kBlockP 0 (E_ref08_Lacks.cutb 0) (kSeq (evCP E_ref08_Lacks (evLP E_ref08_Lacks n) (sub C_ref08_Lacks [1, 1])) (kFnP E_ref08_Lacks R_ref08_Lacks))) (.exit 0) (frOf [])) = (ref08_Lacks_k2_0 n) from by
      exact ref08_Lacks_k2_0_ok n ]
    all_goals kernel_rfl]
  kernel_rfl
theorem ref08_Lacks_sound : Sound Try.prog 16 s_ref08_Lacks := by
  refine sound_of_evP' (E := E_ref08_Lacks) (fn := Try.f16) (c := C_ref08_Lacks) (tyOk_of_table rfl tis_ok) ⟨(fns_cons ref08_Put_sound fns_nil), cns_nil⟩ follows Try.func16 (by kernel_rfl) (by kernel_rfl) (by kernel_rfl) ?_
  intro avs r h
  unfold s_ref08_Lacks at h
  split at h
  · simp only [Prod.mk.injEq] at h
    obtain ⟨hp, rfl⟩ := h
    obtain ⟨n, hn⟩ := ref08_Lacks_math _ hp
    exact ⟨n, _, (ref08_Lacks_ev n _ _).trans hn, .inl rfl⟩
  · cases h

/-! sheave/latin.Lay -/

noncomputable def E_latin_Lay : EnvP := ⟨⟨tiOf tis, fnsOf [(15, s_latin_Lacks)], cnsOf [], [], 27, (fun x => if x = 5 then some [4, 13, 14, 15] else none), (fun x => if x = 0 then some [4] else if x = 1 then some [4, 13, 14, 15] else none), some [2, 3]⟩, (fun x => if x = 12 then some (.psl 5 (.leaf .byte)) else none), fun _ => none⟩
noncomputable def C_latin_Lay : Code := Try.f12.body.getD .skip
noncomputable def R_latin_Lay : Array ResultVar := Try.f12.results
theorem latin_Lay_l5_ok (K : Ex → Fr → Option AV) : ∀ (n : Nat) (s4 : List UInt8) (s13 : List Int) (s14 : Int) (s15 : Int), evLP E_latin_Lay n (sub C_latin_Lay [1, 1, 1, 0, 1, 0, 0]) K (frOf [(4, (.pv (.psl 5 (.leaf .byte)) s4 none)), (13, (.dat (.sl (.int .i32)) s13 none)), (14, (.dat (.int .i64) s14 none)), (15, (.dat (.int .i64) s15 none))]) = latin_Lay_l5 (fun s4 => K (.exit 0) (frOf [(4, (.pv (.psl 5 (.leaf .byte)) s4 none))])) n s4 s13 s14 s15 := by
  intro n
  induction n with
  | zero => intros; rfl
  | succ n IH =>
  intro s4 s13 s14 s15
  have ih : (fun s4 s13 s14 s15 => evLP E_latin_Lay n (sub C_latin_Lay [1, 1, 1, 0, 1, 0, 0]) K (frOf [(4, (.pv (.psl 5 (.leaf .byte)) s4 none)), (13, (.dat (.sl (.int .i32)) s13 none)), (14, (.dat (.int .i64) s14 none)), (15, (.dat (.int .i64) s15 none))])) = latin_Lay_l5 (fun s4 => K (.exit 0) (frOf [(4, (.pv (.psl 5 (.leaf .byte)) s4 none))])) n := by
    funext s4 s13 s14 s15
    exact IH s4 s13 s14 s15
  show _ = latin_Lay_l5_b (fun s4 => K (.exit 0) (frOf [(4, (.pv (.psl 5 (.leaf .byte)) s4 none))])) (latin_Lay_l5 (fun s4 => K (.exit 0) (frOf [(4, (.pv (.psl 5 (.leaf .byte)) s4 none))])) n) n s4 s13 s14 s15
  rw [← ih]
  kernel_rfl
theorem latin_Lay_k5_0_ok (n : Nat) (s4 : List UInt8) : (kBlockP 0 (E_latin_Lay.cutb 0) (kSeq (evCP E_latin_Lay (evLP E_latin_Lay n) (sub C_latin_Lay [1, 1, 1, 1])) (kFnP E_latin_Lay R_latin_Lay))) (.exit 0) (frOf [(4, (.pv (.psl 5 (.leaf .byte)) s4 none))]) = latin_Lay_k5_0 n s4 := by
  kernel_rfl
theorem latin_Lay_ev (n : Nat) (t0 : List Int) (o0 : Lab) : evFnP E_latin_Lay n C_latin_Lay R_latin_Lay [.dat (.sl (.int .i32)) t0 o0] = latin_Lay_sh n t0 := by
  unfold latin_Lay_sh
  rw [show latin_Lay_l5 (latin_Lay_k5_0 n) n = (fun s4 s13 s14 s15 => evLP E_latin_Lay n (sub C_latin_Lay [1, 1, 1, 0, 1, 0, 0]) (kBlockP 0 (E_latin_Lay.cutb 0) (kSeq (evCP E_latin_Lay (evLP E_latin_Lay n) (sub C_latin_Lay [1, 1, 1, 1])) (kFnP E_latin_Lay R_latin_Lay))) (frOf [(4, (.pv (.psl 5 (.leaf .byte)) s4 none)), (13, (.dat (.sl (.int .i32)) s13 none)), (14, (.dat (.int .i64) s14 none)), (15, (.dat (.int .i64) s15 none))])) from by
    funext s4 s13 s14 s15
    refine Eq.trans ?_ (latin_Lay_l5_ok (kBlockP 0 (E_latin_Lay.cutb 0) (kSeq (evCP E_latin_Lay (evLP E_latin_Lay n) (sub C_latin_Lay [1, 1, 1, 1])) (kFnP E_latin_Lay R_latin_Lay))) n s4 s13 s14 s15).symm
    rw [show (fun s4 => (kBlockP 0 (E_latin_Lay.cutb 0) (kSeq (evCP E_latin_Lay (evLP E_latin_Lay n) (sub C_latin_Lay [1, 1, 1, 1])) (kFnP E_latin_Lay R_latin_Lay))) (.exit 0) (frOf [(4, (.pv (.psl 5 (.leaf .byte)) s4 none))])) = (latin_Lay_k5_0 n) from by
      funext s4
      exact latin_Lay_k5_0_ok n s4]
    all_goals kernel_rfl]
  kernel_rfl
theorem latin_Lay_sound : Sound Try.prog 12 s_latin_Lay := by
  refine sound_of_evP' (E := E_latin_Lay) (fn := Try.f12) (c := C_latin_Lay) (tyOk_of_table rfl tis_ok) ⟨(fns_cons latin_Lacks_sound fns_nil), cns_nil⟩ follows Try.func12 (by kernel_rfl) (by kernel_rfl) (by kernel_rfl) ?_
  intro avs r h
  unfold s_latin_Lay at h
  split at h
  · simp only [Prod.mk.injEq] at h
    obtain ⟨hp, rfl⟩ := h
    obtain ⟨n, hn⟩ := latin_Lay_math _ hp
    exact ⟨n, _, (latin_Lay_ev n _ _).trans hn, .inl rfl⟩
  · cases h

/-! sheave/latin.Read -/

noncomputable def E_latin_Read : EnvP := ⟨⟨tiOf tis, fnsOf [], cnsOf [], [], 23, (fun x => if x = 3 then some [3, 9, 10, 11] else none), (fun x => if x = 0 then some [3] else if x = 1 then some [3, 9, 10, 11] else none), some [2]⟩, (fun x => if x = 8 then some (.psl 21 (.leaf (.int .i32))) else none), fun _ => none⟩
noncomputable def C_latin_Read : Code := Try.f18.body.getD .skip
noncomputable def R_latin_Read : Array ResultVar := Try.f18.results
theorem latin_Read_l3_ok (K : Ex → Fr → Option AV) : ∀ (n : Nat) (t3 : List Int) (s9 : List UInt8) (s10 : Int) (s11 : Int), evLP E_latin_Read n (sub C_latin_Read [1, 1, 0, 1, 0, 0]) K (frOf [(3, (.pv (.psl 21 (.leaf (.int .i32))) t3 none)), (9, (.dat (.sl .byte) s9 none)), (10, (.dat (.int .i64) s10 none)), (11, (.dat (.int .i64) s11 none))]) = latin_Read_l3 (fun t3 => K (.exit 0) (frOf [(3, (.pv (.psl 21 (.leaf (.int .i32))) t3 none))])) n t3 s9 s10 s11 := by
  intro n
  induction n with
  | zero => intros; rfl
  | succ n IH =>
  intro t3 s9 s10 s11
  have ih : (fun t3 s9 s10 s11 => evLP E_latin_Read n (sub C_latin_Read [1, 1, 0, 1, 0, 0]) K (frOf [(3, (.pv (.psl 21 (.leaf (.int .i32))) t3 none)), (9, (.dat (.sl .byte) s9 none)), (10, (.dat (.int .i64) s10 none)), (11, (.dat (.int .i64) s11 none))])) = latin_Read_l3 (fun t3 => K (.exit 0) (frOf [(3, (.pv (.psl 21 (.leaf (.int .i32))) t3 none))])) n := by
    funext t3 s9 s10 s11
    exact IH t3 s9 s10 s11
  show _ = latin_Read_l3_b (fun t3 => K (.exit 0) (frOf [(3, (.pv (.psl 21 (.leaf (.int .i32))) t3 none))])) (latin_Read_l3 (fun t3 => K (.exit 0) (frOf [(3, (.pv (.psl 21 (.leaf (.int .i32))) t3 none))])) n) n t3 s9 s10 s11
  rw [← ih]
  kernel_rfl
theorem latin_Read_k3_0_ok (n : Nat) (t3 : List Int) : (kBlockP 0 (E_latin_Read.cutb 0) (kSeq (evCP E_latin_Read (evLP E_latin_Read n) (sub C_latin_Read [1, 1, 1])) (kFnP E_latin_Read R_latin_Read))) (.exit 0) (frOf [(3, (.pv (.psl 21 (.leaf (.int .i32))) t3 none))]) = latin_Read_k3_0 n t3 := by
  kernel_rfl
theorem latin_Read_ev (n : Nat) (s0 : List UInt8) (o0 : Lab) : evFnP E_latin_Read n C_latin_Read R_latin_Read [.dat (.sl .byte) s0 o0] = latin_Read_sh n s0 := by
  unfold latin_Read_sh
  rw [show latin_Read_l3 (latin_Read_k3_0 n) n = (fun t3 s9 s10 s11 => evLP E_latin_Read n (sub C_latin_Read [1, 1, 0, 1, 0, 0]) (kBlockP 0 (E_latin_Read.cutb 0) (kSeq (evCP E_latin_Read (evLP E_latin_Read n) (sub C_latin_Read [1, 1, 1])) (kFnP E_latin_Read R_latin_Read))) (frOf [(3, (.pv (.psl 21 (.leaf (.int .i32))) t3 none)), (9, (.dat (.sl .byte) s9 none)), (10, (.dat (.int .i64) s10 none)), (11, (.dat (.int .i64) s11 none))])) from by
    funext t3 s9 s10 s11
    refine Eq.trans ?_ (latin_Read_l3_ok (kBlockP 0 (E_latin_Read.cutb 0) (kSeq (evCP E_latin_Read (evLP E_latin_Read n) (sub C_latin_Read [1, 1, 1])) (kFnP E_latin_Read R_latin_Read))) n t3 s9 s10 s11).symm
    rw [show (fun t3 => (kBlockP 0 (E_latin_Read.cutb 0) (kSeq (evCP E_latin_Read (evLP E_latin_Read n) (sub C_latin_Read [1, 1, 1])) (kFnP E_latin_Read R_latin_Read))) (.exit 0) (frOf [(3, (.pv (.psl 21 (.leaf (.int .i32))) t3 none))])) = (latin_Read_k3_0 n) from by
      funext t3
      exact latin_Read_k3_0_ok n t3]
    all_goals kernel_rfl]
  kernel_rfl
theorem latin_Read_sound : Sound Try.prog 18 s_latin_Read := by
  refine sound_of_evP' (E := E_latin_Read) (fn := Try.f18) (c := C_latin_Read) (tyOk_of_table rfl tis_ok) ⟨fns_nil, cns_nil⟩ follows Try.func18 (by kernel_rfl) (by kernel_rfl) (by kernel_rfl) ?_
  intro avs r h
  unfold s_latin_Read at h
  split at h
  · simp only [Prod.mk.injEq] at h
    obtain ⟨hp, rfl⟩ := h
    obtain ⟨n, hn⟩ := latin_Read_math _ hp
    exact ⟨n, _, (latin_Read_ev n _ _).trans hn, .inl rfl⟩
  · cases h

/-! sheave/sheaveref08.Lay -/

noncomputable def E_ref08_Lay : EnvP := ⟨⟨tiOf tis, fnsOf [(7, s_ref08_Put), (16, s_ref08_Lacks)], cnsOf [], [], 30, (fun x => if x = 5 then some [0, 4, 5] else none), (fun x => if x = 0 then some [4] else if x = 1 then some [0, 4, 5] else none), some [2, 3]⟩, fun _ => none, fun _ => none⟩
noncomputable def C_ref08_Lay : Code := Try.f13.body.getD .skip
noncomputable def R_ref08_Lay : Array ResultVar := Try.f13.results
theorem ref08_Lay_l5_ok (K : Ex → Fr → Option AV) : ∀ (n : Nat) (t0 : List Int) (out4 : List UInt8) (i5 : Int), evLP E_ref08_Lay n (sub C_ref08_Lay [1, 1, 1, 0, 1, 0, 0]) K (frOf [(0, (.dat (.sl (.int .i32)) t0 none)), (4, (.dat (.sl .byte) out4 (some (4, 5)))), (5, (.dat (.int .i64) i5 none))]) = ref08_Lay_l5 (fun out4 => K (.exit 0) (frOf [(4, (.dat (.sl .byte) out4 (some (4, 5))))])) n t0 out4 i5 := by
  intro n
  induction n with
  | zero => intros; rfl
  | succ n IH =>
  intro t0 out4 i5
  have ih : (fun t0 out4 i5 => evLP E_ref08_Lay n (sub C_ref08_Lay [1, 1, 1, 0, 1, 0, 0]) K (frOf [(0, (.dat (.sl (.int .i32)) t0 none)), (4, (.dat (.sl .byte) out4 (some (4, 5)))), (5, (.dat (.int .i64) i5 none))])) = ref08_Lay_l5 (fun out4 => K (.exit 0) (frOf [(4, (.dat (.sl .byte) out4 (some (4, 5))))])) n := by
    funext t0 out4 i5
    exact IH t0 out4 i5
  show _ = ref08_Lay_l5_b (fun out4 => K (.exit 0) (frOf [(4, (.dat (.sl .byte) out4 (some (4, 5))))])) (ref08_Lay_l5 (fun out4 => K (.exit 0) (frOf [(4, (.dat (.sl .byte) out4 (some (4, 5))))])) n) n t0 out4 i5
  rw [← ih]
  kernel_rfl
theorem ref08_Lay_k5_0_ok (n : Nat) (out4 : List UInt8) : (kBlockP 0 (E_ref08_Lay.cutb 0) (kSeq (evCP E_ref08_Lay (evLP E_ref08_Lay n) (sub C_ref08_Lay [1, 1, 1, 1])) (kFnP E_ref08_Lay R_ref08_Lay))) (.exit 0) (frOf [(4, (.dat (.sl .byte) out4 (some (4, 5))))]) = ref08_Lay_k5_0 n out4 := by
  kernel_rfl
theorem ref08_Lay_ev (n : Nat) (t0 : List Int) (o0 : Lab) : evFnP E_ref08_Lay n C_ref08_Lay R_ref08_Lay [.dat (.sl (.int .i32)) t0 o0] = ref08_Lay_sh n t0 := by
  unfold ref08_Lay_sh
  rw [show ref08_Lay_l5 (ref08_Lay_k5_0 n) n = (fun t0 out4 i5 => evLP E_ref08_Lay n (sub C_ref08_Lay [1, 1, 1, 0, 1, 0, 0]) (kBlockP 0 (E_ref08_Lay.cutb 0) (kSeq (evCP E_ref08_Lay (evLP E_ref08_Lay n) (sub C_ref08_Lay [1, 1, 1, 1])) (kFnP E_ref08_Lay R_ref08_Lay))) (frOf [(0, (.dat (.sl (.int .i32)) t0 none)), (4, (.dat (.sl .byte) out4 (some (4, 5)))), (5, (.dat (.int .i64) i5 none))])) from by
    funext t0 out4 i5
    refine Eq.trans ?_ (ref08_Lay_l5_ok (kBlockP 0 (E_ref08_Lay.cutb 0) (kSeq (evCP E_ref08_Lay (evLP E_ref08_Lay n) (sub C_ref08_Lay [1, 1, 1, 1])) (kFnP E_ref08_Lay R_ref08_Lay))) n t0 out4 i5).symm
    rw [show (fun out4 => (kBlockP 0 (E_ref08_Lay.cutb 0) (kSeq (evCP E_ref08_Lay (evLP E_ref08_Lay n) (sub C_ref08_Lay [1, 1, 1, 1])) (kFnP E_ref08_Lay R_ref08_Lay))) (.exit 0) (frOf [(4, (.dat (.sl .byte) out4 (some (4, 5))))])) = (ref08_Lay_k5_0 n) from by
      funext out4
      exact ref08_Lay_k5_0_ok n out4]
    all_goals kernel_rfl]
  kernel_rfl
theorem ref08_Lay_sound : Sound Try.prog 13 s_ref08_Lay := by
  refine sound_of_evP' (E := E_ref08_Lay) (fn := Try.f13) (c := C_ref08_Lay) (tyOk_of_table rfl tis_ok) ⟨(fns_cons ref08_Put_sound (fns_cons ref08_Lacks_sound fns_nil)), cns_nil⟩ follows Try.func13 (by kernel_rfl) (by kernel_rfl) (by kernel_rfl) ?_
  intro avs r h
  unfold s_ref08_Lay at h
  split at h
  · simp only [Prod.mk.injEq] at h
    obtain ⟨hp, rfl⟩ := h
    obtain ⟨n, hn⟩ := ref08_Lay_math _ hp
    exact ⟨n, _, (ref08_Lay_ev n _ _).trans hn, .inl rfl⟩
  · cases h

/-! sheave/sheaveref08.Read -/

noncomputable def E_ref08_Read : EnvP := ⟨⟨tiOf tis, fnsOf [(10, s_ref08_Sign)], cnsOf [], [], 20, (fun x => if x = 3 then some [0, 3, 4] else none), (fun x => if x = 0 then some [3] else if x = 1 then some [0, 3, 4] else none), some [2]⟩, fun _ => none, fun _ => none⟩
noncomputable def C_ref08_Read : Code := Try.f19.body.getD .skip
noncomputable def R_ref08_Read : Array ResultVar := Try.f19.results
theorem ref08_Read_l3_ok (K : Ex → Fr → Option AV) : ∀ (n : Nat) (s0 : List UInt8) (out3 : List Int) (i4 : Int), evLP E_ref08_Read n (sub C_ref08_Read [1, 1, 0, 1, 0, 0]) K (frOf [(0, (.dat (.sl .byte) s0 none)), (3, (.dat (.sl (.int .i32)) out3 (some (3, 21)))), (4, (.dat (.int .i64) i4 none))]) = ref08_Read_l3 (fun out3 => K (.exit 0) (frOf [(3, (.dat (.sl (.int .i32)) out3 (some (3, 21))))])) n s0 out3 i4 := by
  intro n
  induction n with
  | zero => intros; rfl
  | succ n IH =>
  intro s0 out3 i4
  have ih : (fun s0 out3 i4 => evLP E_ref08_Read n (sub C_ref08_Read [1, 1, 0, 1, 0, 0]) K (frOf [(0, (.dat (.sl .byte) s0 none)), (3, (.dat (.sl (.int .i32)) out3 (some (3, 21)))), (4, (.dat (.int .i64) i4 none))])) = ref08_Read_l3 (fun out3 => K (.exit 0) (frOf [(3, (.dat (.sl (.int .i32)) out3 (some (3, 21))))])) n := by
    funext s0 out3 i4
    exact IH s0 out3 i4
  show _ = ref08_Read_l3_b (fun out3 => K (.exit 0) (frOf [(3, (.dat (.sl (.int .i32)) out3 (some (3, 21))))])) (ref08_Read_l3 (fun out3 => K (.exit 0) (frOf [(3, (.dat (.sl (.int .i32)) out3 (some (3, 21))))])) n) n s0 out3 i4
  rw [← ih]
  kernel_rfl
theorem ref08_Read_k3_0_ok (n : Nat) (out3 : List Int) : (kBlockP 0 (E_ref08_Read.cutb 0) (kSeq (evCP E_ref08_Read (evLP E_ref08_Read n) (sub C_ref08_Read [1, 1, 1])) (kFnP E_ref08_Read R_ref08_Read))) (.exit 0) (frOf [(3, (.dat (.sl (.int .i32)) out3 (some (3, 21))))]) = ref08_Read_k3_0 n out3 := by
  kernel_rfl
theorem ref08_Read_ev (n : Nat) (s0 : List UInt8) (o0 : Lab) : evFnP E_ref08_Read n C_ref08_Read R_ref08_Read [.dat (.sl .byte) s0 o0] = ref08_Read_sh n s0 := by
  unfold ref08_Read_sh
  rw [show ref08_Read_l3 (ref08_Read_k3_0 n) n = (fun s0 out3 i4 => evLP E_ref08_Read n (sub C_ref08_Read [1, 1, 0, 1, 0, 0]) (kBlockP 0 (E_ref08_Read.cutb 0) (kSeq (evCP E_ref08_Read (evLP E_ref08_Read n) (sub C_ref08_Read [1, 1, 1])) (kFnP E_ref08_Read R_ref08_Read))) (frOf [(0, (.dat (.sl .byte) s0 none)), (3, (.dat (.sl (.int .i32)) out3 (some (3, 21)))), (4, (.dat (.int .i64) i4 none))])) from by
    funext s0 out3 i4
    refine Eq.trans ?_ (ref08_Read_l3_ok (kBlockP 0 (E_ref08_Read.cutb 0) (kSeq (evCP E_ref08_Read (evLP E_ref08_Read n) (sub C_ref08_Read [1, 1, 1])) (kFnP E_ref08_Read R_ref08_Read))) n s0 out3 i4).symm
    rw [show (fun out3 => (kBlockP 0 (E_ref08_Read.cutb 0) (kSeq (evCP E_ref08_Read (evLP E_ref08_Read n) (sub C_ref08_Read [1, 1, 1])) (kFnP E_ref08_Read R_ref08_Read))) (.exit 0) (frOf [(3, (.dat (.sl (.int .i32)) out3 (some (3, 21))))])) = (ref08_Read_k3_0 n) from by
      funext out3
      exact ref08_Read_k3_0_ok n out3]
    all_goals kernel_rfl]
  kernel_rfl
theorem ref08_Read_sound : Sound Try.prog 19 s_ref08_Read := by
  refine sound_of_evP' (E := E_ref08_Read) (fn := Try.f19) (c := C_ref08_Read) (tyOk_of_table rfl tis_ok) ⟨(fns_cons ref08_Sign_sound fns_nil), cns_nil⟩ follows Try.func19 (by kernel_rfl) (by kernel_rfl) (by kernel_rfl) ?_
  intro avs r h
  unfold s_ref08_Read at h
  split at h
  · simp only [Prod.mk.injEq] at h
    obtain ⟨hp, rfl⟩ := h
    obtain ⟨n, hn⟩ := ref08_Read_math _ hp
    exact ⟨n, _, (ref08_Read_ev n _ _).trans hn, .inl rfl⟩
  · cases h

/-! sheave/sheaveref01.Like -/

noncomputable def E_ref01_Like : EnvP := ⟨⟨tiOf tis, fnsOf [], cnsOf [], [], 26, (fun x => if x = 4 then some [0, 1, 5] else none), (fun x => if x = 0 then some [] else if x = 1 then some [0, 1, 5] else none), some [4]⟩, fun _ => none, fun _ => none⟩
noncomputable def C_ref01_Like : Code := Try.f14.body.getD .skip
noncomputable def R_ref01_Like : Array ResultVar := Try.f14.results
theorem ref01_Like_l4_ok (K : Ex → Fr → Option AV) : ∀ (n : Nat) (a0 : List UInt8) (b1 : List UInt8) (i5 : Int), evLP E_ref01_Like n (sub C_ref01_Like [1, 1, 0, 1, 0, 0]) K (frOf [(0, (.dat (.sl .byte) a0 none)), (1, (.dat (.sl .byte) b1 none)), (5, (.dat (.int .i64) i5 none))]) = ref01_Like_l4 (fun s4 => K .ret (frOf [(4, (.dat .bool s4 none))])) (K (.exit 0) (frOf [])) n a0 b1 i5 := by
  intro n
  induction n with
  | zero => intros; rfl
  | succ n IH =>
  intro a0 b1 i5
  have ih : (fun a0 b1 i5 => evLP E_ref01_Like n (sub C_ref01_Like [1, 1, 0, 1, 0, 0]) K (frOf [(0, (.dat (.sl .byte) a0 none)), (1, (.dat (.sl .byte) b1 none)), (5, (.dat (.int .i64) i5 none))])) = ref01_Like_l4 (fun s4 => K .ret (frOf [(4, (.dat .bool s4 none))])) (K (.exit 0) (frOf [])) n := by
    funext a0 b1 i5
    exact IH a0 b1 i5
  show _ = ref01_Like_l4_b (fun s4 => K .ret (frOf [(4, (.dat .bool s4 none))])) (K (.exit 0) (frOf [])) (ref01_Like_l4 (fun s4 => K .ret (frOf [(4, (.dat .bool s4 none))])) (K (.exit 0) (frOf [])) n) n a0 b1 i5
  rw [← ih]
  kernel_rfl
theorem ref01_Like_k4_0_ok (n : Nat)  : (kBlockP 0 (E_ref01_Like.cutb 0) (kSeq (evCP E_ref01_Like (evLP E_ref01_Like n) (sub C_ref01_Like [1, 1, 1])) (kFnP E_ref01_Like R_ref01_Like))) (.exit 0) (frOf []) = ref01_Like_k4_0 n  := by
  kernel_rfl
theorem ref01_Like_ev (n : Nat) (a0 : List UInt8) (o0 : Lab) (b1 : List UInt8) (o1 : Lab) : evFnP E_ref01_Like n C_ref01_Like R_ref01_Like [.dat (.sl .byte) a0 o0, .dat (.sl .byte) b1 o1] = ref01_Like_sh n a0 b1 := by
  unfold ref01_Like_sh
  rw [show ref01_Like_l4 ref01_Like_ret (ref01_Like_k4_0 n) n = (fun a0 b1 i5 => evLP E_ref01_Like n (sub C_ref01_Like [1, 1, 0, 1, 0, 0]) (kBlockP 0 (E_ref01_Like.cutb 0) (kSeq (evCP E_ref01_Like (evLP E_ref01_Like n) (sub C_ref01_Like [1, 1, 1])) (kFnP E_ref01_Like R_ref01_Like))) (frOf [(0, (.dat (.sl .byte) a0 none)), (1, (.dat (.sl .byte) b1 none)), (5, (.dat (.int .i64) i5 none))])) from by
    funext a0 b1 i5
    refine Eq.trans ?_ (ref01_Like_l4_ok (kBlockP 0 (E_ref01_Like.cutb 0) (kSeq (evCP E_ref01_Like (evLP E_ref01_Like n) (sub C_ref01_Like [1, 1, 1])) (kFnP E_ref01_Like R_ref01_Like))) n a0 b1 i5).symm
    rw [show ((kBlockP 0 (E_ref01_Like.cutb 0) (kSeq (evCP E_ref01_Like (evLP E_ref01_Like n) (sub C_ref01_Like [1, 1, 1])) (kFnP E_ref01_Like R_ref01_Like))) (.exit 0) (frOf [])) = (ref01_Like_k4_0 n) from by
      exact ref01_Like_k4_0_ok n ]
    all_goals kernel_rfl]
  kernel_rfl
theorem ref01_Like_sound : Sound Try.prog 14 s_ref01_Like := by
  refine sound_of_evP' (E := E_ref01_Like) (fn := Try.f14) (c := C_ref01_Like) (tyOk_of_table rfl tis_ok) ⟨fns_nil, cns_nil⟩ follows Try.func14 (by kernel_rfl) (by kernel_rfl) (by kernel_rfl) ?_
  intro avs r h
  unfold s_ref01_Like at h
  split at h
  · simp only [Prod.mk.injEq] at h
    obtain ⟨hp, rfl⟩ := h
    obtain ⟨n, hn⟩ := ref01_Like_math _ _ hp
    exact ⟨n, _, (ref01_Like_ev n _ _ _ _).trans hn, .inl rfl⟩
  · cases h

/-! sheave/sheaveref03.Like -/

noncomputable def E_ref03_Like : EnvP := ⟨⟨tiOf tis, fnsOf [], cnsOf [], [], 26, (fun x => if x = 4 then some [0, 1, 5] else none), (fun x => if x = 0 then some [] else if x = 1 then some [0, 1, 5] else none), some [4]⟩, fun _ => none, fun _ => none⟩
noncomputable def C_ref03_Like : Code := Try.f17.body.getD .skip
noncomputable def R_ref03_Like : Array ResultVar := Try.f17.results
theorem ref03_Like_l4_ok (K : Ex → Fr → Option AV) : ∀ (n : Nat) (a0 : List Int) (b1 : List Int) (i5 : Int), evLP E_ref03_Like n (sub C_ref03_Like [1, 1, 0, 1, 0, 0]) K (frOf [(0, (.dat (.sl (.int .i32)) a0 none)), (1, (.dat (.sl (.int .i32)) b1 none)), (5, (.dat (.int .i64) i5 none))]) = ref03_Like_l4 (fun s4 => K .ret (frOf [(4, (.dat .bool s4 none))])) (K (.exit 0) (frOf [])) n a0 b1 i5 := by
  intro n
  induction n with
  | zero => intros; rfl
  | succ n IH =>
  intro a0 b1 i5
  have ih : (fun a0 b1 i5 => evLP E_ref03_Like n (sub C_ref03_Like [1, 1, 0, 1, 0, 0]) K (frOf [(0, (.dat (.sl (.int .i32)) a0 none)), (1, (.dat (.sl (.int .i32)) b1 none)), (5, (.dat (.int .i64) i5 none))])) = ref03_Like_l4 (fun s4 => K .ret (frOf [(4, (.dat .bool s4 none))])) (K (.exit 0) (frOf [])) n := by
    funext a0 b1 i5
    exact IH a0 b1 i5
  show _ = ref03_Like_l4_b (fun s4 => K .ret (frOf [(4, (.dat .bool s4 none))])) (K (.exit 0) (frOf [])) (ref03_Like_l4 (fun s4 => K .ret (frOf [(4, (.dat .bool s4 none))])) (K (.exit 0) (frOf [])) n) n a0 b1 i5
  rw [← ih]
  kernel_rfl
theorem ref03_Like_k4_0_ok (n : Nat)  : (kBlockP 0 (E_ref03_Like.cutb 0) (kSeq (evCP E_ref03_Like (evLP E_ref03_Like n) (sub C_ref03_Like [1, 1, 1])) (kFnP E_ref03_Like R_ref03_Like))) (.exit 0) (frOf []) = ref03_Like_k4_0 n  := by
  kernel_rfl
theorem ref03_Like_ev (n : Nat) (a0 : List Int) (o0 : Lab) (b1 : List Int) (o1 : Lab) : evFnP E_ref03_Like n C_ref03_Like R_ref03_Like [.dat (.sl (.int .i32)) a0 o0, .dat (.sl (.int .i32)) b1 o1] = ref03_Like_sh n a0 b1 := by
  unfold ref03_Like_sh
  rw [show ref03_Like_l4 ref03_Like_ret (ref03_Like_k4_0 n) n = (fun a0 b1 i5 => evLP E_ref03_Like n (sub C_ref03_Like [1, 1, 0, 1, 0, 0]) (kBlockP 0 (E_ref03_Like.cutb 0) (kSeq (evCP E_ref03_Like (evLP E_ref03_Like n) (sub C_ref03_Like [1, 1, 1])) (kFnP E_ref03_Like R_ref03_Like))) (frOf [(0, (.dat (.sl (.int .i32)) a0 none)), (1, (.dat (.sl (.int .i32)) b1 none)), (5, (.dat (.int .i64) i5 none))])) from by
    funext a0 b1 i5
    refine Eq.trans ?_ (ref03_Like_l4_ok (kBlockP 0 (E_ref03_Like.cutb 0) (kSeq (evCP E_ref03_Like (evLP E_ref03_Like n) (sub C_ref03_Like [1, 1, 1])) (kFnP E_ref03_Like R_ref03_Like))) n a0 b1 i5).symm
    rw [show ((kBlockP 0 (E_ref03_Like.cutb 0) (kSeq (evCP E_ref03_Like (evLP E_ref03_Like n) (sub C_ref03_Like [1, 1, 1])) (kFnP E_ref03_Like R_ref03_Like))) (.exit 0) (frOf [])) = (ref03_Like_k4_0 n) from by
      exact ref03_Like_k4_0_ok n ]
    all_goals kernel_rfl]
  kernel_rfl
theorem ref03_Like_sound : Sound Try.prog 17 s_ref03_Like := by
  refine sound_of_evP' (E := E_ref03_Like) (fn := Try.f17) (c := C_ref03_Like) (tyOk_of_table rfl tis_ok) ⟨fns_nil, cns_nil⟩ follows Try.func17 (by kernel_rfl) (by kernel_rfl) (by kernel_rfl) ?_
  intro avs r h
  unfold s_ref03_Like at h
  split at h
  · simp only [Prod.mk.injEq] at h
    obtain ⟨hp, rfl⟩ := h
    obtain ⟨n, hn⟩ := ref03_Like_math _ _ hp
    exact ⟨n, _, (ref03_Like_ev n _ _ _ _).trans hn, .inl rfl⟩
  · cases h

/-! sheave/sheavelaw08.alive -/

noncomputable def E_law08_alive : EnvP := ⟨⟨tiOf tis, fnsOf [(6, s_latin_Put), (8, s_latin_Has), (9, s_latin_Sign), (12, s_latin_Lay)], cnsOf [], [], 31, (fun _ => none), (fun _ => none), some [0]⟩, fun _ => none, fun _ => none⟩
noncomputable def C_law08_alive : Code := Try.f11.body.getD .skip
noncomputable def R_law08_alive : Array ResultVar := Try.f11.results
theorem law08_alive_ev (n : Nat)  : evFnP E_law08_alive n C_law08_alive R_law08_alive [] = law08_alive_sh n  := by
  kernel_rfl
theorem law08_alive_sound : Sound Try.prog 11 s_law08_alive := by
  refine sound_of_evP' (E := E_law08_alive) (fn := Try.f11) (c := C_law08_alive) (tyOk_of_table rfl tis_ok) ⟨(fns_cons latin_Put_sound (fns_cons latin_Has_sound (fns_cons latin_Sign_sound (fns_cons latin_Lay_sound fns_nil)))), cns_nil⟩ follows Try.func11 (by kernel_rfl) (by kernel_rfl) (by kernel_rfl) ?_
  intro avs r h
  unfold s_law08_alive at h
  split at h
  · simp only [Prod.mk.injEq, true_and] at h
    subst h
    obtain ⟨n, hn⟩ := law08_alive_math 
    exact ⟨n, _, (law08_alive_ev n ).trans hn, .inl rfl⟩
  · cases h

/-! sheave/sheavelaw08.LatinOne -/

noncomputable def E_law08_LatinOne : EnvP := ⟨⟨tiOf tis, fnsOf [(6, s_latin_Put), (7, s_ref08_Put), (8, s_latin_Has), (9, s_latin_Sign), (10, s_ref08_Sign), (11, s_law08_alive)], cnsOf [], [], 43, (fun _ => none), (fun _ => none), some [4]⟩, fun _ => none, fun _ => none⟩
noncomputable def C_law08_LatinOne : Code := Try.f3.body.getD .skip
noncomputable def R_law08_LatinOne : Array ResultVar := Try.f3.results
theorem law08_LatinOne_ev (n : Nat) (c0 : Int) (o0 : Lab) (x1 : UInt8) (o1 : Lab) : evFnP E_law08_LatinOne n C_law08_LatinOne R_law08_LatinOne [.dat (.int .i32) c0 o0, .dat .byte x1 o1] = law08_LatinOne_sh n c0 x1 := by
  kernel_rfl
theorem law08_LatinOne_sound : Sound Try.prog 3 s_law08_LatinOne := by
  refine sound_of_evP' (E := E_law08_LatinOne) (fn := Try.f3) (c := C_law08_LatinOne) (tyOk_of_table rfl tis_ok) ⟨(fns_cons latin_Put_sound (fns_cons ref08_Put_sound (fns_cons latin_Has_sound (fns_cons latin_Sign_sound (fns_cons ref08_Sign_sound (fns_cons law08_alive_sound fns_nil)))))), cns_nil⟩ follows Try.func3 (by kernel_rfl) (by kernel_rfl) (by kernel_rfl) ?_
  intro avs r h
  unfold s_law08_LatinOne at h
  split at h
  · simp only [Prod.mk.injEq, true_and] at h
    subst h
    obtain ⟨n, hn⟩ := law08_LatinOne_math _ _
    exact ⟨n, _, (law08_LatinOne_ev n _ _ _ _).trans hn, .inl rfl⟩
  · cases h

/-! sheave/sheavelaw08.LatinTexts -/

noncomputable def E_law08_LatinTexts : EnvP := ⟨⟨tiOf tis, fnsOf [(11, s_law08_alive), (12, s_latin_Lay), (13, s_ref08_Lay), (14, s_ref01_Like), (15, s_latin_Lacks), (16, s_ref08_Lacks), (17, s_ref03_Like), (18, s_latin_Read), (19, s_ref08_Read)], cnsOf [], [], 53, (fun _ => none), (fun _ => none), some [4]⟩, fun _ => none, fun _ => none⟩
noncomputable def C_law08_LatinTexts : Code := Try.f4.body.getD .skip
noncomputable def R_law08_LatinTexts : Array ResultVar := Try.f4.results
theorem law08_LatinTexts_ev (n : Nat) (t0 : List Int) (o0 : Lab) (s1 : List UInt8) (o1 : Lab) : evFnP E_law08_LatinTexts n C_law08_LatinTexts R_law08_LatinTexts [.dat (.sl (.int .i32)) t0 o0, .dat (.sl .byte) s1 o1] = law08_LatinTexts_sh n t0 s1 := by
  kernel_rfl
theorem law08_LatinTexts_sound : Sound Try.prog 4 s_law08_LatinTexts := by
  refine sound_of_evP' (E := E_law08_LatinTexts) (fn := Try.f4) (c := C_law08_LatinTexts) (tyOk_of_table rfl tis_ok) ⟨(fns_cons law08_alive_sound (fns_cons latin_Lay_sound (fns_cons ref08_Lay_sound (fns_cons ref01_Like_sound (fns_cons latin_Lacks_sound (fns_cons ref08_Lacks_sound (fns_cons ref03_Like_sound (fns_cons latin_Read_sound (fns_cons ref08_Read_sound fns_nil))))))))), cns_nil⟩ follows Try.func4 (by kernel_rfl) (by kernel_rfl) (by kernel_rfl) ?_
  intro avs r h
  unfold s_law08_LatinTexts at h
  split at h
  · simp only [Prod.mk.injEq] at h
    obtain ⟨hp, rfl⟩ := h
    obtain ⟨n, hn⟩ := law08_LatinTexts_math _ _ hp
    exact ⟨n, _, (law08_LatinTexts_ev n _ _ _ _).trans hn, .inl rfl⟩
  · cases h

/-! sheave/sheavelaw08.LatinBack -/

noncomputable def E_law08_LatinBack : EnvP := ⟨⟨tiOf tis, fnsOf [(11, s_law08_alive), (12, s_latin_Lay), (14, s_ref01_Like), (15, s_latin_Lacks), (17, s_ref03_Like), (18, s_latin_Read)], cnsOf [], [], 89, (fun x => if x = 9 then some [1, 7, 8, 58, 59, 60] else none), (fun x => if x = 0 then some [1, 7, 8] else if x = 1 then some [1, 7, 8, 58, 59, 60] else none), some [4]⟩, fun _ => none, fun _ => none⟩
noncomputable def C_law08_LatinBack : Code := Try.f5.body.getD .skip
noncomputable def R_law08_LatinBack : Array ResultVar := Try.f5.results
theorem law08_LatinBack_l9_ok (K : Ex → Fr → Option AV) : ∀ (n : Nat) (s1 : List UInt8) (x7 : List Int) (whole8 : Bool) (s58 : List Int) (s59 : Int) (s60 : Int), evLP E_law08_LatinBack n (sub C_law08_LatinBack [1, 1, 1, 1, 1, 1, 0, 1, 0, 0]) K (frOf [(1, (.dat (.sl .byte) s1 none)), (7, (.dat (.sl (.int .i32)) x7 (some (7, 21)))), (8, (.dat .bool whole8 none)), (58, (.dat (.sl (.int .i32)) s58 (some (7, 21)))), (59, (.dat (.int .i64) s59 none)), (60, (.dat (.int .i64) s60 none))]) = law08_LatinBack_l9 (fun s4 => K .ret (frOf [(4, (.dat .bool s4 none))])) (fun s1 x7 whole8 => K (.exit 0) (frOf [(1, (.dat (.sl .byte) s1 none)), (7, (.dat (.sl (.int .i32)) x7 (some (7, 21)))), (8, (.dat .bool whole8 none))])) n s1 x7 whole8 s58 s59 s60 := by
  intro n
  induction n with
  | zero => intros; rfl
  | succ n IH =>
  intro s1 x7 whole8 s58 s59 s60
  have ih : (fun s1 x7 whole8 s58 s59 s60 => evLP E_law08_LatinBack n (sub C_law08_LatinBack [1, 1, 1, 1, 1, 1, 0, 1, 0, 0]) K (frOf [(1, (.dat (.sl .byte) s1 none)), (7, (.dat (.sl (.int .i32)) x7 (some (7, 21)))), (8, (.dat .bool whole8 none)), (58, (.dat (.sl (.int .i32)) s58 (some (7, 21)))), (59, (.dat (.int .i64) s59 none)), (60, (.dat (.int .i64) s60 none))])) = law08_LatinBack_l9 (fun s4 => K .ret (frOf [(4, (.dat .bool s4 none))])) (fun s1 x7 whole8 => K (.exit 0) (frOf [(1, (.dat (.sl .byte) s1 none)), (7, (.dat (.sl (.int .i32)) x7 (some (7, 21)))), (8, (.dat .bool whole8 none))])) n := by
    funext s1 x7 whole8 s58 s59 s60
    exact IH s1 x7 whole8 s58 s59 s60
  show _ = law08_LatinBack_l9_b (fun s4 => K .ret (frOf [(4, (.dat .bool s4 none))])) (fun s1 x7 whole8 => K (.exit 0) (frOf [(1, (.dat (.sl .byte) s1 none)), (7, (.dat (.sl (.int .i32)) x7 (some (7, 21)))), (8, (.dat .bool whole8 none))])) (law08_LatinBack_l9 (fun s4 => K .ret (frOf [(4, (.dat .bool s4 none))])) (fun s1 x7 whole8 => K (.exit 0) (frOf [(1, (.dat (.sl .byte) s1 none)), (7, (.dat (.sl (.int .i32)) x7 (some (7, 21)))), (8, (.dat .bool whole8 none))])) n) n s1 x7 whole8 s58 s59 s60
  rw [← ih]
  kernel_rfl
theorem law08_LatinBack_k9_0_ok (n : Nat) (s1 : List UInt8) (x7 : List Int) (whole8 : Bool) : (kBlockP 0 (E_law08_LatinBack.cutb 0) (kSeq (evCP E_law08_LatinBack (evLP E_law08_LatinBack n) (sub C_law08_LatinBack [1, 1, 1, 1, 1, 1, 1])) (kFnP E_law08_LatinBack R_law08_LatinBack))) (.exit 0) (frOf [(1, (.dat (.sl .byte) s1 none)), (7, (.dat (.sl (.int .i32)) x7 (some (7, 21)))), (8, (.dat .bool whole8 none))]) = law08_LatinBack_k9_0 n s1 x7 whole8 := by
  kernel_rfl
theorem law08_LatinBack_ev (n : Nat) (t0 : List Int) (o0 : Lab) (s1 : List UInt8) (o1 : Lab) : evFnP E_law08_LatinBack n C_law08_LatinBack R_law08_LatinBack [.dat (.sl (.int .i32)) t0 o0, .dat (.sl .byte) s1 o1] = law08_LatinBack_sh n t0 s1 := by
  unfold law08_LatinBack_sh
  rw [show law08_LatinBack_l9 law08_LatinBack_ret (law08_LatinBack_k9_0 n) n = (fun s1 x7 whole8 s58 s59 s60 => evLP E_law08_LatinBack n (sub C_law08_LatinBack [1, 1, 1, 1, 1, 1, 0, 1, 0, 0]) (kBlockP 0 (E_law08_LatinBack.cutb 0) (kSeq (evCP E_law08_LatinBack (evLP E_law08_LatinBack n) (sub C_law08_LatinBack [1, 1, 1, 1, 1, 1, 1])) (kFnP E_law08_LatinBack R_law08_LatinBack))) (frOf [(1, (.dat (.sl .byte) s1 none)), (7, (.dat (.sl (.int .i32)) x7 (some (7, 21)))), (8, (.dat .bool whole8 none)), (58, (.dat (.sl (.int .i32)) s58 (some (7, 21)))), (59, (.dat (.int .i64) s59 none)), (60, (.dat (.int .i64) s60 none))])) from by
    funext s1 x7 whole8 s58 s59 s60
    refine Eq.trans ?_ (law08_LatinBack_l9_ok (kBlockP 0 (E_law08_LatinBack.cutb 0) (kSeq (evCP E_law08_LatinBack (evLP E_law08_LatinBack n) (sub C_law08_LatinBack [1, 1, 1, 1, 1, 1, 1])) (kFnP E_law08_LatinBack R_law08_LatinBack))) n s1 x7 whole8 s58 s59 s60).symm
    rw [show (fun s1 x7 whole8 => (kBlockP 0 (E_law08_LatinBack.cutb 0) (kSeq (evCP E_law08_LatinBack (evLP E_law08_LatinBack n) (sub C_law08_LatinBack [1, 1, 1, 1, 1, 1, 1])) (kFnP E_law08_LatinBack R_law08_LatinBack))) (.exit 0) (frOf [(1, (.dat (.sl .byte) s1 none)), (7, (.dat (.sl (.int .i32)) x7 (some (7, 21)))), (8, (.dat .bool whole8 none))])) = (law08_LatinBack_k9_0 n) from by
      funext s1 x7 whole8
      exact law08_LatinBack_k9_0_ok n s1 x7 whole8]
    all_goals kernel_rfl]
  kernel_rfl
theorem law08_LatinBack_sound : Sound Try.prog 5 s_law08_LatinBack := by
  refine sound_of_evP' (E := E_law08_LatinBack) (fn := Try.f5) (c := C_law08_LatinBack) (tyOk_of_table rfl tis_ok) ⟨(fns_cons law08_alive_sound (fns_cons latin_Lay_sound (fns_cons ref01_Like_sound (fns_cons latin_Lacks_sound (fns_cons ref03_Like_sound (fns_cons latin_Read_sound fns_nil)))))), cns_nil⟩ follows Try.func5 (by kernel_rfl) (by kernel_rfl) (by kernel_rfl) ?_
  intro avs r h
  unfold s_law08_LatinBack at h
  split at h
  · simp only [Prod.mk.injEq] at h
    obtain ⟨hp, rfl⟩ := h
    obtain ⟨n, hn⟩ := law08_LatinBack_math _ _ hp
    exact ⟨n, _, (law08_LatinBack_ev n _ _ _ _).trans hn, .inl rfl⟩
  · cases h
end Go.Av
