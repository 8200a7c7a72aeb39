import Derived.Test.YtmbakokcfihafaaLatP
import Derived.Test.YtmbakokcfihafaaProg
import Derived.KernelRfl
namespace Go.Av
open Go.Proofs
def tis : List (TypeId × TI) := [(2, ⟨some (.int .i64), 8, 0⟩),
  (3, ⟨some (.int .i64), 8, 0⟩),
  (4, ⟨some .bool, 1, 0⟩),
  (5, ⟨some .byte, 1, 0⟩),
  (6, ⟨some .byte, 1, 0⟩),
  (7, ⟨some (.pair (.int .i64) (.pair (.int .i64) (.pair .bool (.pair .byte .unit)))), 24, 0⟩),
  (8, ⟨some (.pair (.int .i64) (.pair (.int .i64) (.pair .bool (.pair .byte .unit)))), 24, 0⟩),
  (9, ⟨some .str, 16, 0⟩),
  (10, ⟨some .str, 16, 0⟩),
  (11, ⟨some .str, 16, 0⟩),
  (12, ⟨some (.int .u64), 8, 0⟩),
  (13, ⟨some (.pair .str (.pair (.int .u64) .unit)), 24, 0⟩),
  (14, ⟨some (.pair .str (.pair (.int .u64) .unit)), 24, 0⟩),
  (21, ⟨some (.int .i32), 4, 0⟩),
  (28, ⟨some (.sl (.int .i32)), 24, 21⟩),
  (29, ⟨some (.sl .byte), 24, 5⟩),
  (30, ⟨some (.int .i64), 8, 0⟩),
  (40, ⟨some (.int .u32), 4, 0⟩),
  (48, ⟨some .byte, 1, 0⟩),
  (49, ⟨some .byte, 1, 0⟩),
  (52, ⟨some (.int .i32), 4, 0⟩),
  (53, ⟨some (.int .i32), 4, 0⟩)]
theorem tis_ok : (tis.all fun p => tyB Try.prog (tiOf tis) p.1) = true := by kernel_rfl
theorem follows : Try.prog.follows .mixedOrders = true := by kernel_rfl
def s_latin_Has : List AV → Bool × AV
  | [.dat (.int .i32) a0 _] => (true, (.dat .bool (latin_Has a0) none))
  | _ => (false, .bad)
def s_latin_Sign : List AV → Bool × AV
  | [.dat .byte a0 _] => (true, (.dat (.int .i32) (latin_Sign a0) none))
  | _ => (false, .bad)
def s_ref08_Sign : List AV → Bool × AV
  | [.dat .byte a0 _] => (true, (.dat (.int .i32) (ref08_Sign a0) none))
  | _ => (false, .bad)
def s_latin_Put : List AV → Bool × AV
  | [.dat (.int .i32) a0 _] => (true, (.tup [(.dat .byte ((latin_Put a0).1) none), (.dat .bool ((latin_Put a0).2) none)]))
  | _ => (false, .bad)
def s_ref08_Put : List AV → Bool × AV
  | [.dat (.int .i32) a0 _] => (true, (.tup [(.dat .byte ((ref08_Put a0).1) none), (.dat .bool ((ref08_Put a0).2) none)]))
  | _ => (false, .bad)
def s_latin_Lacks : List AV → Bool × AV
  | [.dat (.sl (.int .i32)) a0 _] => (latin_Lacks_ok a0, (.dat (.int .i64) (latin_Lacks a0) none))
  | _ => (false, .bad)
def s_latin_Lay : List AV → Bool × AV
  | [.dat (.sl (.int .i32)) a0 _] => (latin_Lay_ok a0, (.tup [(.dat (.sl .byte) ((latin_Lay a0).1) none), (.dat (.int .i64) ((latin_Lay a0).2) none)]))
  | _ => (false, .bad)
def s_law08_alive : List AV → Bool × AV
  | [] => (true, (.dat .bool law08_alive none))
  | _ => (false, .bad)
def s_law08_LatinOne : List AV → Bool × AV
  | [.dat (.int .i32) a0 _, .dat .byte a1 _] => (true, (.dat .bool (law08_LatinOne a0 a1) none))
  | _ => (false, .bad)

/-! sheave/latin.Has -/

noncomputable def E_latin_Has : Env := ⟨tiOf tis, fnsOf [], [], 6, (fun _ => none), (fun _ => none), some [2]⟩
noncomputable def C_latin_Has : Code := Try.f8.body.getD .skip
noncomputable def R_latin_Has : Array ResultVar := Try.f8.results
theorem latin_Has_ev (n : Nat) (c0 : Int) (o0 : Lab) : evFn E_latin_Has n C_latin_Has R_latin_Has [.dat (.int .i32) c0 o0] = latin_Has_sh n c0 := by
  kernel_rfl
theorem latin_Has_sound : Sound Try.prog 8 s_latin_Has := by
  refine sound_of_ev' (E := E_latin_Has) (fn := Try.f8) (c := C_latin_Has) (tyOk_of_table rfl tis_ok) fns_nil follows Try.func8 (by kernel_rfl) (by kernel_rfl) (by kernel_rfl) ?_
  intro avs r h
  unfold s_latin_Has at h
  split at h
  · simp only [Prod.mk.injEq, true_and] at h
    subst h
    obtain ⟨n, hn⟩ := latin_Has_math _
    exact ⟨n, _, (latin_Has_ev n _ _).trans hn, .inl rfl⟩
  · cases h

/-! sheave/latin.Sign -/

noncomputable def E_latin_Sign : Env := ⟨tiOf tis, fnsOf [], [], 5, (fun _ => none), (fun _ => none), some [2]⟩
noncomputable def C_latin_Sign : Code := Try.f9.body.getD .skip
noncomputable def R_latin_Sign : Array ResultVar := Try.f9.results
theorem latin_Sign_ev (n : Nat) (x0 : UInt8) (o0 : Lab) : evFn E_latin_Sign n C_latin_Sign R_latin_Sign [.dat .byte x0 o0] = latin_Sign_sh n x0 := by
  kernel_rfl
theorem latin_Sign_sound : Sound Try.prog 9 s_latin_Sign := by
  refine sound_of_ev' (E := E_latin_Sign) (fn := Try.f9) (c := C_latin_Sign) (tyOk_of_table rfl tis_ok) fns_nil follows Try.func9 (by kernel_rfl) (by kernel_rfl) (by kernel_rfl) ?_
  intro avs r h
  unfold s_latin_Sign at h
  split at h
  · simp only [Prod.mk.injEq, true_and] at h
    subst h
    obtain ⟨n, hn⟩ := latin_Sign_math _
    exact ⟨n, _, (latin_Sign_ev n _ _).trans hn, .inl rfl⟩
  · cases h

/-! sheave/sheaveref08.Sign -/

noncomputable def E_ref08_Sign : Env := ⟨tiOf tis, fnsOf [], [], 5, (fun _ => none), (fun _ => none), some [2]⟩
noncomputable def C_ref08_Sign : Code := Try.f10.body.getD .skip
noncomputable def R_ref08_Sign : Array ResultVar := Try.f10.results
theorem ref08_Sign_ev (n : Nat) (x0 : UInt8) (o0 : Lab) : evFn E_ref08_Sign n C_ref08_Sign R_ref08_Sign [.dat .byte x0 o0] = ref08_Sign_sh n x0 := by
  kernel_rfl
theorem ref08_Sign_sound : Sound Try.prog 10 s_ref08_Sign := by
  refine sound_of_ev' (E := E_ref08_Sign) (fn := Try.f10) (c := C_ref08_Sign) (tyOk_of_table rfl tis_ok) fns_nil follows Try.func10 (by kernel_rfl) (by kernel_rfl) (by kernel_rfl) ?_
  intro avs r h
  unfold s_ref08_Sign at h
  split at h
  · simp only [Prod.mk.injEq, true_and] at h
    subst h
    obtain ⟨n, hn⟩ := ref08_Sign_math _
    exact ⟨n, _, (ref08_Sign_ev n _ _).trans hn, .inl rfl⟩
  · cases h

/-! sheave/latin.Put -/

noncomputable def E_latin_Put : Env := ⟨tiOf tis, fnsOf [(8, s_latin_Has)], [], 9, (fun _ => none), (fun _ => none), some [2, 3]⟩
noncomputable def C_latin_Put : Code := Try.f6.body.getD .skip
noncomputable def R_latin_Put : Array ResultVar := Try.f6.results
theorem latin_Put_ev (n : Nat) (c0 : Int) (o0 : Lab) : evFn E_latin_Put n C_latin_Put R_latin_Put [.dat (.int .i32) c0 o0] = latin_Put_sh n c0 := by
  kernel_rfl
theorem latin_Put_sound : Sound Try.prog 6 s_latin_Put := by
  refine sound_of_ev' (E := E_latin_Put) (fn := Try.f6) (c := C_latin_Put) (tyOk_of_table rfl tis_ok) (fns_cons latin_Has_sound fns_nil) follows Try.func6 (by kernel_rfl) (by kernel_rfl) (by kernel_rfl) ?_
  intro avs r h
  unfold s_latin_Put at h
  split at h
  · simp only [Prod.mk.injEq, true_and] at h
    subst h
    obtain ⟨n, hn⟩ := latin_Put_math _
    exact ⟨n, _, (latin_Put_ev n _ _).trans hn, .inl rfl⟩
  · cases h

/-! sheave/sheaveref08.Put -/

noncomputable def E_ref08_Put : Env := ⟨tiOf tis, fnsOf [(10, s_ref08_Sign)], [], 20, (fun x => if x = 2 then some [0, 4] else none), (fun x => if x = 0 then some [] else if x = 1 then some [0, 4] else none), some [2, 3]⟩
noncomputable def C_ref08_Put : Code := Try.f7.body.getD .skip
noncomputable def R_ref08_Put : Array ResultVar := Try.f7.results
theorem ref08_Put_l2_ok (K : Ex → Fr → Option AV) : ∀ (n : Nat) (c0 : Int) (n4 : Int), evL E_ref08_Put n (sub C_ref08_Put [1, 0, 1, 0, 0]) K (frOf [(0, (.dat (.int .i32) c0 none)), (4, (.dat (.int .i64) n4 none))]) = ref08_Put_l2 (fun s2 s3 => K .ret (frOf [(2, (.dat .byte s2 none)), (3, (.dat .bool s3 none))])) (K (.exit 0) (frOf [])) n c0 n4 := by
  intro n
  induction n with
  | zero => intros; rfl
  | succ n IH =>
  intro c0 n4
  have ih : (fun c0 n4 => evL E_ref08_Put n (sub C_ref08_Put [1, 0, 1, 0, 0]) K (frOf [(0, (.dat (.int .i32) c0 none)), (4, (.dat (.int .i64) n4 none))])) = ref08_Put_l2 (fun s2 s3 => K .ret (frOf [(2, (.dat .byte s2 none)), (3, (.dat .bool s3 none))])) (K (.exit 0) (frOf [])) n := by
    funext c0 n4
    exact IH c0 n4
  show _ = ref08_Put_l2_b (fun s2 s3 => K .ret (frOf [(2, (.dat .byte s2 none)), (3, (.dat .bool s3 none))])) (K (.exit 0) (frOf [])) (ref08_Put_l2 (fun s2 s3 => K .ret (frOf [(2, (.dat .byte s2 none)), (3, (.dat .bool s3 none))])) (K (.exit 0) (frOf [])) n) n c0 n4
  rw [← ih]
  kernel_rfl
theorem ref08_Put_k2_0_ok (n : Nat)  : (kBlock 0 (E_ref08_Put.cutb 0) (kSeq (evC E_ref08_Put (evL E_ref08_Put n) (sub C_ref08_Put [1, 1])) (kFn E_ref08_Put R_ref08_Put))) (.exit 0) (frOf []) = ref08_Put_k2_0 n  := by
  kernel_rfl
theorem ref08_Put_ev (n : Nat) (c0 : Int) (o0 : Lab) : evFn E_ref08_Put n C_ref08_Put R_ref08_Put [.dat (.int .i32) c0 o0] = ref08_Put_sh n c0 := by
  unfold ref08_Put_sh
  rw [show ref08_Put_l2 ref08_Put_ret (ref08_Put_k2_0 n) n = (fun c0 n4 => evL E_ref08_Put n (sub C_ref08_Put [1, 0, 1, 0, 0]) (kBlock 0 (E_ref08_Put.cutb 0) (kSeq (evC E_ref08_Put (evL E_ref08_Put n) (sub C_ref08_Put [1, 1])) (kFn E_ref08_Put R_ref08_Put))) (frOf [(0, (.dat (.int .i32) c0 none)), (4, (.dat (.int .i64) n4 none))])) from by
    funext c0 n4
    refine Eq.trans ?_ (ref08_Put_l2_ok (kBlock 0 (E_ref08_Put.cutb 0) (kSeq (evC E_ref08_Put (evL E_ref08_Put n) (sub C_ref08_Put [1, 1])) (kFn E_ref08_Put R_ref08_Put))) n c0 n4).symm
    rw [show ((kBlock 0 (E_ref08_Put.cutb 0) (kSeq (evC E_ref08_Put (evL E_ref08_Put n) (sub C_ref08_Put [1, 1])) (kFn E_ref08_Put R_ref08_Put))) (.exit 0) (frOf [])) = (ref08_Put_k2_0 n) from by
      exact ref08_Put_k2_0_ok n ]
    kernel_rfl]
  kernel_rfl
theorem ref08_Put_sound : Sound Try.prog 7 s_ref08_Put := by
  refine sound_of_ev' (E := E_ref08_Put) (fn := Try.f7) (c := C_ref08_Put) (tyOk_of_table rfl tis_ok) (fns_cons ref08_Sign_sound fns_nil) follows Try.func7 (by kernel_rfl) (by kernel_rfl) (by kernel_rfl) ?_
  intro avs r h
  unfold s_ref08_Put at h
  split at h
  · simp only [Prod.mk.injEq, true_and] at h
    subst h
    obtain ⟨n, hn⟩ := ref08_Put_math _
    exact ⟨n, _, (ref08_Put_ev n _ _).trans hn, .inl rfl⟩
  · cases h

/-! sheave/latin.Lacks -/

noncomputable def E_latin_Lacks : Env := ⟨tiOf tis, fnsOf [(8, s_latin_Has)], [], 17, (fun x => if x = 2 then some [0, 5, 6] else none), (fun x => if x = 0 then some [] else if x = 1 then some [0, 5, 6] else none), some [2]⟩
noncomputable def C_latin_Lacks : Code := Try.f15.body.getD .skip
noncomputable def R_latin_Lacks : Array ResultVar := Try.f15.results
theorem latin_Lacks_l2_ok (K : Ex → Fr → Option AV) : ∀ (n : Nat) (t0 : List Int) (s5 : Int) (s6 : Int), evL E_latin_Lacks n (sub C_latin_Lacks [1, 0, 1, 0, 0]) K (frOf [(0, (.dat (.sl (.int .i32)) t0 none)), (5, (.dat (.int .i64) s5 none)), (6, (.dat (.int .i64) s6 none))]) = latin_Lacks_l2 (fun s2 => K .ret (frOf [(2, (.dat (.int .i64) s2 none))])) (K (.exit 0) (frOf [])) n t0 s5 s6 := by
  intro n
  induction n with
  | zero => intros; rfl
  | succ n IH =>
  intro t0 s5 s6
  have ih : (fun t0 s5 s6 => evL E_latin_Lacks n (sub C_latin_Lacks [1, 0, 1, 0, 0]) K (frOf [(0, (.dat (.sl (.int .i32)) t0 none)), (5, (.dat (.int .i64) s5 none)), (6, (.dat (.int .i64) s6 none))])) = latin_Lacks_l2 (fun s2 => K .ret (frOf [(2, (.dat (.int .i64) s2 none))])) (K (.exit 0) (frOf [])) n := by
    funext t0 s5 s6
    exact IH t0 s5 s6
  show _ = latin_Lacks_l2_b (fun s2 => K .ret (frOf [(2, (.dat (.int .i64) s2 none))])) (K (.exit 0) (frOf [])) (latin_Lacks_l2 (fun s2 => K .ret (frOf [(2, (.dat (.int .i64) s2 none))])) (K (.exit 0) (frOf [])) n) n t0 s5 s6
  rw [← ih]
  kernel_rfl
theorem latin_Lacks_k2_0_ok (n : Nat)  : (kBlock 0 (E_latin_Lacks.cutb 0) (kSeq (evC E_latin_Lacks (evL E_latin_Lacks n) (sub C_latin_Lacks [1, 1])) (kFn E_latin_Lacks R_latin_Lacks))) (.exit 0) (frOf []) = latin_Lacks_k2_0 n  := by
  kernel_rfl
theorem latin_Lacks_ev (n : Nat) (t0 : List Int) (o0 : Lab) : evFn E_latin_Lacks n C_latin_Lacks R_latin_Lacks [.dat (.sl (.int .i32)) t0 o0] = latin_Lacks_sh n t0 := by
  unfold latin_Lacks_sh
  rw [show latin_Lacks_l2 latin_Lacks_ret (latin_Lacks_k2_0 n) n = (fun t0 s5 s6 => evL E_latin_Lacks n (sub C_latin_Lacks [1, 0, 1, 0, 0]) (kBlock 0 (E_latin_Lacks.cutb 0) (kSeq (evC E_latin_Lacks (evL E_latin_Lacks n) (sub C_latin_Lacks [1, 1])) (kFn E_latin_Lacks R_latin_Lacks))) (frOf [(0, (.dat (.sl (.int .i32)) t0 none)), (5, (.dat (.int .i64) s5 none)), (6, (.dat (.int .i64) s6 none))])) from by
    funext t0 s5 s6
    refine Eq.trans ?_ (latin_Lacks_l2_ok (kBlock 0 (E_latin_Lacks.cutb 0) (kSeq (evC E_latin_Lacks (evL E_latin_Lacks n) (sub C_latin_Lacks [1, 1])) (kFn E_latin_Lacks R_latin_Lacks))) n t0 s5 s6).symm
    rw [show ((kBlock 0 (E_latin_Lacks.cutb 0) (kSeq (evC E_latin_Lacks (evL E_latin_Lacks n) (sub C_latin_Lacks [1, 1])) (kFn E_latin_Lacks R_latin_Lacks))) (.exit 0) (frOf [])) = (latin_Lacks_k2_0 n) from by
      exact latin_Lacks_k2_0_ok n ]
    kernel_rfl]
  kernel_rfl
theorem latin_Lacks_sound : Sound Try.prog 15 s_latin_Lacks := by
  refine sound_of_ev' (E := E_latin_Lacks) (fn := Try.f15) (c := C_latin_Lacks) (tyOk_of_table rfl tis_ok) (fns_cons latin_Has_sound fns_nil) follows Try.func15 (by kernel_rfl) (by kernel_rfl) (by kernel_rfl) ?_
  intro avs r h
  unfold s_latin_Lacks at h
  split at h
  · simp only [Prod.mk.injEq] at h
    obtain ⟨hp, rfl⟩ := h
    obtain ⟨n, hn⟩ := latin_Lacks_math _ hp
    exact ⟨n, _, (latin_Lacks_ev n _ _).trans hn, .inl rfl⟩
  · cases h

/-! sheave/latin.Lay -/

noncomputable def E_latin_Lay : Env := ⟨tiOf tis, fnsOf [(15, s_latin_Lacks)], [], 27, (fun _ => none), (fun _ => none), some [2, 3]⟩
noncomputable def C_latin_Lay : Code := Try.f12.body.getD .skip
noncomputable def R_latin_Lay : Array ResultVar := Try.f12.results
theorem latin_Lay_ev (o0 : Lab) : evFn E_latin_Lay 0 C_latin_Lay R_latin_Lay [.dat (.sl (.int .i32)) [256] o0] = some (.tup [.dat (.sl .byte) [] none, .dat (.int .i64) 9 none]) := by
  kernel_rfl
theorem latin_Lay_sound : Sound Try.prog 12 s_latin_Lay := by
  refine sound_of_ev' (E := E_latin_Lay) (fn := Try.f12) (c := C_latin_Lay) (tyOk_of_table rfl tis_ok) (fns_cons latin_Lacks_sound fns_nil) follows Try.func12 (by kernel_rfl) (by kernel_rfl) (by kernel_rfl) ?_
  intro avs r h
  unfold s_latin_Lay at h
  split at h
  · simp only [Prod.mk.injEq] at h
    obtain ⟨hp, rfl⟩ := h
    unfold latin_Lay_ok at hp
    obtain rfl := of_decide_eq_true hp
    exact ⟨0, _, latin_Lay_ev _, .inl rfl⟩
  · cases h

/-! sheave/sheavelaw08.alive -/

noncomputable def E_law08_alive : Env := ⟨tiOf tis, fnsOf [(6, s_latin_Put), (8, s_latin_Has), (9, s_latin_Sign), (12, s_latin_Lay)], [], 31, (fun _ => none), (fun _ => none), some [0]⟩
noncomputable def C_law08_alive : Code := Try.f11.body.getD .skip
noncomputable def R_law08_alive : Array ResultVar := Try.f11.results
theorem law08_alive_ev (n : Nat)  : evFn E_law08_alive n C_law08_alive R_law08_alive [] = law08_alive_sh n  := by
  kernel_rfl
theorem law08_alive_sound : Sound Try.prog 11 s_law08_alive := by
  refine sound_of_ev' (E := E_law08_alive) (fn := Try.f11) (c := C_law08_alive) (tyOk_of_table rfl tis_ok) (fns_cons latin_Put_sound (fns_cons latin_Has_sound (fns_cons latin_Sign_sound (fns_cons latin_Lay_sound fns_nil)))) follows Try.func11 (by kernel_rfl) (by kernel_rfl) (by kernel_rfl) ?_
  intro avs r h
  unfold s_law08_alive at h
  split at h
  · simp only [Prod.mk.injEq, true_and] at h
    subst h
    obtain ⟨n, hn⟩ := law08_alive_math 
    exact ⟨n, _, (law08_alive_ev n ).trans hn, .inl rfl⟩
  · cases h

/-! sheave/sheavelaw08.LatinOne -/

noncomputable def E_law08_LatinOne : Env := ⟨tiOf tis, fnsOf [(6, s_latin_Put), (7, s_ref08_Put), (8, s_latin_Has), (9, s_latin_Sign), (10, s_ref08_Sign), (11, s_law08_alive)], [], 43, (fun _ => none), (fun _ => none), some [4]⟩
noncomputable def C_law08_LatinOne : Code := Try.f3.body.getD .skip
noncomputable def R_law08_LatinOne : Array ResultVar := Try.f3.results
theorem law08_LatinOne_ev (n : Nat) (c0 : Int) (o0 : Lab) (x1 : UInt8) (o1 : Lab) : evFn E_law08_LatinOne n C_law08_LatinOne R_law08_LatinOne [.dat (.int .i32) c0 o0, .dat .byte x1 o1] = law08_LatinOne_sh n c0 x1 := by
  kernel_rfl
theorem law08_LatinOne_sound : Sound Try.prog 3 s_law08_LatinOne := by
  refine sound_of_ev' (E := E_law08_LatinOne) (fn := Try.f3) (c := C_law08_LatinOne) (tyOk_of_table rfl tis_ok) (fns_cons latin_Put_sound (fns_cons ref08_Put_sound (fns_cons latin_Has_sound (fns_cons latin_Sign_sound (fns_cons ref08_Sign_sound (fns_cons law08_alive_sound fns_nil)))))) follows Try.func3 (by kernel_rfl) (by kernel_rfl) (by kernel_rfl) ?_
  intro avs r h
  unfold s_law08_LatinOne at h
  split at h
  · simp only [Prod.mk.injEq, true_and] at h
    subst h
    obtain ⟨n, hn⟩ := law08_LatinOne_math _ _
    exact ⟨n, _, (law08_LatinOne_ev n _ _ _ _).trans hn, .inl rfl⟩
  · cases h
end Go.Av
