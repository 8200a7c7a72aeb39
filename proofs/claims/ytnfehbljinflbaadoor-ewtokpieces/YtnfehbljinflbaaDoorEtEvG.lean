import Derived.Test.YtnfehbljinflbaaDoorEtEvF
import Derived.Test.YtnfehbljinflbaaDoorEtN
import Derived.Test.YtnfehbljinflbaaDoorProg
import Derived.KernelRfl
namespace Go.Av
open Go.Proofs
set_option maxRecDepth 100000
/-! sheave/sheaveref32.Hidden -/

noncomputable def E_ref32_Hidden : EnvP := ⟨⟨tiOf tis, fnsOf [], cnsOf [], [], 40, (fun _ => none), (fun _ => none), some [4]⟩, fun _ => none, fun _ => none, fun _ => []⟩
noncomputable def C_ref32_Hidden : Code := Tryd.f8.body.getD .skip
noncomputable def R_ref32_Hidden : Array ResultVar := Tryd.f8.results
theorem ref32_Hidden_ev (n : Nat) (l0 : List (Int × ((List UInt8) × Unit))) (o0 : Lab) (i1 : Int) (o1 : Lab) : evFnP E_ref32_Hidden n C_ref32_Hidden R_ref32_Hidden [.dat (.sl (.pair (.int .i64) (.pair (.sl .byte) .unit))) l0 o0, .dat (.int .i64) i1 o1] = ref32_Hidden_sh n l0 i1 := by
  kernel_rfl
theorem ref32_Hidden_sound : SoundG G Tryd.prog 8 s_ref32_Hidden := by
  refine sound_of_evP' G_stays (E := E_ref32_Hidden) (fn := Tryd.f8) (c := C_ref32_Hidden) (tyOk_of_table rfl tis_ok) (fun w S hg => ⟨⟨fns_nil, fun f sp h => cns_nil f sp h w S⟩, gl_none w S hg⟩) follows Tryd.func8 (by kernel_rfl) (by kernel_rfl) (by kernel_rfl) ?_
  intro avs r h
  unfold s_ref32_Hidden at h
  split at h
  · simp only [Prod.mk.injEq] at h
    obtain ⟨hp, rfl⟩ := h
    obtain ⟨n, hn⟩ := ref32_Hidden_math _ _ hp
    exact ⟨n, _, (ref32_Hidden_ev n _ _ _ _).trans hn, .inl rfl⟩
  · cases h

/-! sheave/sheaveref32.Shown -/

noncomputable def E_ref32_Shown : EnvP := ⟨⟨tiOf tis, fnsOf [(8, s_ref32_Hidden), (14, s_ref32_Pieces)], cnsOf [], [], 26, (fun x => if x = 4 then some [3, 4, 5] else none), (fun x => if x = 0 then some [4] else if x = 1 then some [3, 4, 5] else none), some [2]⟩, fun _ => none, fun _ => none, fun _ => []⟩
noncomputable def C_ref32_Shown : Code := Tryd.f16.body.getD .skip
noncomputable def R_ref32_Shown : Array ResultVar := Tryd.f16.results
theorem ref32_Shown_l4_ok (K : Ex → Fr → Option AV) : ∀ (n : Nat) (l3 : List (Int × ((List UInt8) × Unit))) (out4 : List (Int × ((List UInt8) × Unit))) (i5 : Int), evLP E_ref32_Shown n (sub C_ref32_Shown [1, 1, 1, 0, 1, 0, 0]) K (frOf [(3, (.dat (.sl (.pair (.int .i64) (.pair (.sl .byte) .unit))) l3 (some (3, 27)))), (4, (.dat (.sl (.pair (.int .i64) (.pair (.sl .byte) .unit))) out4 (some (4, 27)))), (5, (.dat (.int .i64) i5 none))]) = ref32_Shown_l4 (fun out4 => K (.exit 0) (frOf [(4, (.dat (.sl (.pair (.int .i64) (.pair (.sl .byte) .unit))) out4 (some (4, 27))))])) n l3 out4 i5 := by
  intro n
  induction n with
  | zero => intros; rfl
  | succ n IH =>
  intro l3 out4 i5
  have ih : (fun l3 out4 i5 => evLP E_ref32_Shown n (sub C_ref32_Shown [1, 1, 1, 0, 1, 0, 0]) K (frOf [(3, (.dat (.sl (.pair (.int .i64) (.pair (.sl .byte) .unit))) l3 (some (3, 27)))), (4, (.dat (.sl (.pair (.int .i64) (.pair (.sl .byte) .unit))) out4 (some (4, 27)))), (5, (.dat (.int .i64) i5 none))])) = ref32_Shown_l4 (fun out4 => K (.exit 0) (frOf [(4, (.dat (.sl (.pair (.int .i64) (.pair (.sl .byte) .unit))) out4 (some (4, 27))))])) n := by
    funext l3 out4 i5
    exact IH l3 out4 i5
  show _ = ref32_Shown_l4_b (fun out4 => K (.exit 0) (frOf [(4, (.dat (.sl (.pair (.int .i64) (.pair (.sl .byte) .unit))) out4 (some (4, 27))))])) (ref32_Shown_l4 (fun out4 => K (.exit 0) (frOf [(4, (.dat (.sl (.pair (.int .i64) (.pair (.sl .byte) .unit))) out4 (some (4, 27))))])) n) n l3 out4 i5
  rw [← ih]
  kernel_rfl
theorem ref32_Shown_k4_0_ok (n : Nat) (out4 : List (Int × ((List UInt8) × Unit))) : (kBlockP 0 (E_ref32_Shown.cutb 0) (kSeq (evCP E_ref32_Shown (evLP E_ref32_Shown n) (sub C_ref32_Shown [1, 1, 1, 1])) (kFnP E_ref32_Shown R_ref32_Shown))) (.exit 0) (frOf [(4, (.dat (.sl (.pair (.int .i64) (.pair (.sl .byte) .unit))) out4 (some (4, 27))))]) = ref32_Shown_k4_0 n out4 := by
  kernel_rfl
theorem ref32_Shown_ev (n : Nat) (s0 : List UInt8) (o0 : Lab) : evFnP E_ref32_Shown n C_ref32_Shown R_ref32_Shown [.dat (.sl .byte) s0 o0] = ref32_Shown_sh n s0 := by
  unfold ref32_Shown_sh
  rw [show ref32_Shown_l4 (ref32_Shown_k4_0 n) n = (fun l3 out4 i5 => evLP E_ref32_Shown n (sub C_ref32_Shown [1, 1, 1, 0, 1, 0, 0]) (kBlockP 0 (E_ref32_Shown.cutb 0) (kSeq (evCP E_ref32_Shown (evLP E_ref32_Shown n) (sub C_ref32_Shown [1, 1, 1, 1])) (kFnP E_ref32_Shown R_ref32_Shown))) (frOf [(3, (.dat (.sl (.pair (.int .i64) (.pair (.sl .byte) .unit))) l3 (some (3, 27)))), (4, (.dat (.sl (.pair (.int .i64) (.pair (.sl .byte) .unit))) out4 (some (4, 27)))), (5, (.dat (.int .i64) i5 none))])) from by
    funext l3 out4 i5
    refine Eq.trans ?_ (ref32_Shown_l4_ok (kBlockP 0 (E_ref32_Shown.cutb 0) (kSeq (evCP E_ref32_Shown (evLP E_ref32_Shown n) (sub C_ref32_Shown [1, 1, 1, 1])) (kFnP E_ref32_Shown R_ref32_Shown))) n l3 out4 i5).symm
    rw [show (fun out4 => (kBlockP 0 (E_ref32_Shown.cutb 0) (kSeq (evCP E_ref32_Shown (evLP E_ref32_Shown n) (sub C_ref32_Shown [1, 1, 1, 1])) (kFnP E_ref32_Shown R_ref32_Shown))) (.exit 0) (frOf [(4, (.dat (.sl (.pair (.int .i64) (.pair (.sl .byte) .unit))) out4 (some (4, 27))))])) = (ref32_Shown_k4_0 n) from by
      funext out4
      exact ref32_Shown_k4_0_ok n out4]
    all_goals kernel_rfl]
  kernel_rfl
theorem ref32_Shown_sound : SoundG G Tryd.prog 16 s_ref32_Shown := by
  refine sound_of_evP' G_stays (E := E_ref32_Shown) (fn := Tryd.f16) (c := C_ref32_Shown) (tyOk_of_table rfl tis_ok) (fun w S hg => ⟨⟨(fns_cons (ref32_Hidden_sound w S hg) (fns_cons (ref32_Pieces_sound w S hg) fns_nil)), fun f sp h => cns_nil f sp h w S⟩, gl_none w S hg⟩) follows Tryd.func16 (by kernel_rfl) (by kernel_rfl) (by kernel_rfl) ?_
  intro avs r h
  unfold s_ref32_Shown at h
  split at h
  · simp only [Prod.mk.injEq] at h
    obtain ⟨hp, rfl⟩ := h
    obtain ⟨n, hn⟩ := ref32_Shown_math _ hp
    exact ⟨n, _, (ref32_Shown_ev n _ _).trans hn, .inl rfl⟩
  · cases h

/-! sheave/sheavelaw32.same -/

noncomputable def E_law32_same : EnvP := ⟨⟨tiOf tis, fnsOf [(9, s_ref01_Like)], cnsOf [], [], 42, (fun x => if x = 4 then some [0, 1, 12, 13] else none), (fun x => if x = 0 then some [] else if x = 1 then some [0, 1, 12, 13] else none), some [4]⟩, fun _ => none, fun _ => none, fun _ => []⟩
noncomputable def C_law32_same : Code := Tryd.f15.body.getD .skip
noncomputable def R_law32_same : Array ResultVar := Tryd.f15.results
theorem law32_same_l4_ok (K : Ex → Fr → Option AV) : ∀ (n : Nat) (a0 : List (Int × ((List UInt8) × Unit))) (b1 : List (Int × ((List UInt8) × Unit))) (s12 : Int) (s13 : Int), evLP E_law32_same n (sub C_law32_same [1, 1, 0, 1, 0, 0]) K (frOf [(0, (.dat (.sl (.pair (.int .i64) (.pair (.sl .byte) .unit))) a0 none)), (1, (.dat (.sl (.pair (.int .i64) (.pair (.sl .byte) .unit))) b1 none)), (12, (.dat (.int .i64) s12 none)), (13, (.dat (.int .i64) s13 none))]) = law32_same_l4 (fun s4 => K .ret (frOf [(4, (.dat .bool s4 none))])) (K (.exit 0) (frOf [])) n a0 b1 s12 s13 := by
  intro n
  induction n with
  | zero => intros; rfl
  | succ n IH =>
  intro a0 b1 s12 s13
  have ih : (fun a0 b1 s12 s13 => evLP E_law32_same n (sub C_law32_same [1, 1, 0, 1, 0, 0]) K (frOf [(0, (.dat (.sl (.pair (.int .i64) (.pair (.sl .byte) .unit))) a0 none)), (1, (.dat (.sl (.pair (.int .i64) (.pair (.sl .byte) .unit))) b1 none)), (12, (.dat (.int .i64) s12 none)), (13, (.dat (.int .i64) s13 none))])) = law32_same_l4 (fun s4 => K .ret (frOf [(4, (.dat .bool s4 none))])) (K (.exit 0) (frOf [])) n := by
    funext a0 b1 s12 s13
    exact IH a0 b1 s12 s13
  show _ = law32_same_l4_b (fun s4 => K .ret (frOf [(4, (.dat .bool s4 none))])) (K (.exit 0) (frOf [])) (law32_same_l4 (fun s4 => K .ret (frOf [(4, (.dat .bool s4 none))])) (K (.exit 0) (frOf [])) n) n a0 b1 s12 s13
  rw [← ih]
  kernel_rfl
theorem law32_same_k4_0_ok (n : Nat)  : (kBlockP 0 (E_law32_same.cutb 0) (kSeq (evCP E_law32_same (evLP E_law32_same n) (sub C_law32_same [1, 1, 1])) (kFnP E_law32_same R_law32_same))) (.exit 0) (frOf []) = law32_same_k4_0 n  := by
  kernel_rfl
theorem law32_same_ev (n : Nat) (a0 : List (Int × ((List UInt8) × Unit))) (o0 : Lab) (b1 : List (Int × ((List UInt8) × Unit))) (o1 : Lab) : evFnP E_law32_same n C_law32_same R_law32_same [.dat (.sl (.pair (.int .i64) (.pair (.sl .byte) .unit))) a0 o0, .dat (.sl (.pair (.int .i64) (.pair (.sl .byte) .unit))) b1 o1] = law32_same_sh n a0 b1 := by
  unfold law32_same_sh
  rw [show law32_same_l4 law32_same_ret (law32_same_k4_0 n) n = (fun a0 b1 s12 s13 => evLP E_law32_same n (sub C_law32_same [1, 1, 0, 1, 0, 0]) (kBlockP 0 (E_law32_same.cutb 0) (kSeq (evCP E_law32_same (evLP E_law32_same n) (sub C_law32_same [1, 1, 1])) (kFnP E_law32_same R_law32_same))) (frOf [(0, (.dat (.sl (.pair (.int .i64) (.pair (.sl .byte) .unit))) a0 none)), (1, (.dat (.sl (.pair (.int .i64) (.pair (.sl .byte) .unit))) b1 none)), (12, (.dat (.int .i64) s12 none)), (13, (.dat (.int .i64) s13 none))])) from by
    funext a0 b1 s12 s13
    refine Eq.trans ?_ (law32_same_l4_ok (kBlockP 0 (E_law32_same.cutb 0) (kSeq (evCP E_law32_same (evLP E_law32_same n) (sub C_law32_same [1, 1, 1])) (kFnP E_law32_same R_law32_same))) n a0 b1 s12 s13).symm
    rw [show ((kBlockP 0 (E_law32_same.cutb 0) (kSeq (evCP E_law32_same (evLP E_law32_same n) (sub C_law32_same [1, 1, 1])) (kFnP E_law32_same R_law32_same))) (.exit 0) (frOf [])) = (law32_same_k4_0 n) from by
      exact law32_same_k4_0_ok n ]
    all_goals kernel_rfl]
  kernel_rfl
theorem law32_same_sound : SoundG G Tryd.prog 15 s_law32_same := by
  refine sound_of_evP' G_stays (E := E_law32_same) (fn := Tryd.f15) (c := C_law32_same) (tyOk_of_table rfl tis_ok) (fun w S hg => ⟨⟨(fns_cons (ref01_Like_sound w S hg) fns_nil), fun f sp h => cns_nil f sp h w S⟩, gl_none w S hg⟩) follows Tryd.func15 (by kernel_rfl) (by kernel_rfl) (by kernel_rfl) ?_
  intro avs r h
  unfold s_law32_same at h
  split at h
  · simp only [Prod.mk.injEq] at h
    obtain ⟨hp, rfl⟩ := h
    obtain ⟨n, hn⟩ := law32_same_math _ _ hp
    exact ⟨n, _, (law32_same_ev n _ _ _ _).trans hn, .inl rfl⟩
  · cases h

/-! sheave/sheavelaw32.alive -/

noncomputable def E_law32_alive : EnvP := ⟨⟨tiOf tis, fnsOf [(7, s_ewtok_Hidden), (11, s_ewtok_Pieces)], cnsOf [], [], 48, (fun _ => none), (fun _ => none), some [0]⟩, fun _ => none, fun _ => none, fun _ => []⟩
noncomputable def C_law32_alive : Code := Tryd.f6.body.getD .skip
noncomputable def R_law32_alive : Array ResultVar := Tryd.f6.results
theorem law32_alive_ev (n : Nat)  : evFnP E_law32_alive n C_law32_alive R_law32_alive [] = law32_alive_sh n  := by
  kernel_rfl
theorem law32_alive_sound : SoundG G Tryd.prog 6 s_law32_alive := by
  refine sound_of_evP' G_stays (E := E_law32_alive) (fn := Tryd.f6) (c := C_law32_alive) (tyOk_of_table rfl tis_ok) (fun w S hg => ⟨⟨(fns_cons (ewtok_Hidden_sound w S hg) (fns_cons (ewtok_Pieces_sound w S hg) fns_nil)), fun f sp h => cns_nil f sp h w S⟩, gl_none w S hg⟩) follows Tryd.func6 (by kernel_rfl) (by kernel_rfl) (by kernel_rfl) ?_
  intro avs r h
  unfold s_law32_alive at h
  split at h
  · simp only [Prod.mk.injEq, true_and] at h
    subst h
    obtain ⟨n, hn⟩ := law32_alive_math 
    exact ⟨n, _, (law32_alive_ev n ).trans hn, .inl rfl⟩
  · cases h

/-! sheave/sheavelaw32.EwtokHidden -/

noncomputable def E_law32_EwtokHidden : EnvP := ⟨⟨tiOf tis, fnsOf [(6, s_law32_alive), (7, s_ewtok_Hidden), (8, s_ref32_Hidden), (9, s_ref01_Like), (10, s_ewtok_Join)], cnsOf [], [], 65, (fun x => if x = 6 then some [0, 3, 4, 13, 14, 15] else if x = 17 then some [0, 3, 4, 7, 45, 46] else none), (fun x => if x = 0 then some [0, 3, 4] else if x = 1 then some [0, 3, 4, 13, 14, 15] else if x = 2 then some [3, 4] else if x = 3 then some [0, 3, 4, 7, 45, 46] else none), some [2]⟩, fun _ => none, fun _ => none, fun _ => []⟩
noncomputable def C_law32_EwtokHidden : Code := Tryd.f3.body.getD .skip
noncomputable def R_law32_EwtokHidden : Array ResultVar := Tryd.f3.results
theorem law32_EwtokHidden_l6_ok (K : Ex → Fr → Option AV) : ∀ (n : Nat) (l0 : List (Int × ((List UInt8) × Unit))) (x3 : List (Int × ((List UInt8) × Unit))) (all4 : List UInt8) (s13 : List (Int × ((List UInt8) × Unit))) (s14 : Int) (s15 : Int), evLP E_law32_EwtokHidden n (sub C_law32_EwtokHidden [1, 1, 1, 1, 0, 1, 0, 0]) K (frOf [(0, (.dat (.sl (.pair (.int .i64) (.pair (.sl .byte) .unit))) l0 none)), (3, (.dat (.sl (.pair (.int .i64) (.pair (.sl .byte) .unit))) x3 (some (3, 28)))), (4, (.dat (.sl .byte) all4 (some (4, 5)))), (13, (.dat (.sl (.pair (.int .i64) (.pair (.sl .byte) .unit))) s13 none)), (14, (.dat (.int .i64) s14 none)), (15, (.dat (.int .i64) s15 none))]) = law32_EwtokHidden_l6 (fun s2 => K .ret (frOf [(2, (.dat .bool s2 none))])) (fun l0 x3 all4 => K (.exit 0) (frOf [(0, (.dat (.sl (.pair (.int .i64) (.pair (.sl .byte) .unit))) l0 none)), (3, (.dat (.sl (.pair (.int .i64) (.pair (.sl .byte) .unit))) x3 (some (3, 28)))), (4, (.dat (.sl .byte) all4 (some (4, 5))))])) n l0 x3 all4 s13 s14 s15 := by
  intro n
  induction n with
  | zero => intros; rfl
  | succ n IH =>
  intro l0 x3 all4 s13 s14 s15
  have ih : (fun l0 x3 all4 s13 s14 s15 => evLP E_law32_EwtokHidden n (sub C_law32_EwtokHidden [1, 1, 1, 1, 0, 1, 0, 0]) K (frOf [(0, (.dat (.sl (.pair (.int .i64) (.pair (.sl .byte) .unit))) l0 none)), (3, (.dat (.sl (.pair (.int .i64) (.pair (.sl .byte) .unit))) x3 (some (3, 28)))), (4, (.dat (.sl .byte) all4 (some (4, 5)))), (13, (.dat (.sl (.pair (.int .i64) (.pair (.sl .byte) .unit))) s13 none)), (14, (.dat (.int .i64) s14 none)), (15, (.dat (.int .i64) s15 none))])) = law32_EwtokHidden_l6 (fun s2 => K .ret (frOf [(2, (.dat .bool s2 none))])) (fun l0 x3 all4 => K (.exit 0) (frOf [(0, (.dat (.sl (.pair (.int .i64) (.pair (.sl .byte) .unit))) l0 none)), (3, (.dat (.sl (.pair (.int .i64) (.pair (.sl .byte) .unit))) x3 (some (3, 28)))), (4, (.dat (.sl .byte) all4 (some (4, 5))))])) n := by
    funext l0 x3 all4 s13 s14 s15
    exact IH l0 x3 all4 s13 s14 s15
  show _ = law32_EwtokHidden_l6_b (fun s2 => K .ret (frOf [(2, (.dat .bool s2 none))])) (fun l0 x3 all4 => K (.exit 0) (frOf [(0, (.dat (.sl (.pair (.int .i64) (.pair (.sl .byte) .unit))) l0 none)), (3, (.dat (.sl (.pair (.int .i64) (.pair (.sl .byte) .unit))) x3 (some (3, 28)))), (4, (.dat (.sl .byte) all4 (some (4, 5))))])) (law32_EwtokHidden_l6 (fun s2 => K .ret (frOf [(2, (.dat .bool s2 none))])) (fun l0 x3 all4 => K (.exit 0) (frOf [(0, (.dat (.sl (.pair (.int .i64) (.pair (.sl .byte) .unit))) l0 none)), (3, (.dat (.sl (.pair (.int .i64) (.pair (.sl .byte) .unit))) x3 (some (3, 28)))), (4, (.dat (.sl .byte) all4 (some (4, 5))))])) n) n l0 x3 all4 s13 s14 s15
  rw [← ih]
  kernel_rfl
theorem law32_EwtokHidden_l17_ok (K : Ex → Fr → Option AV) : ∀ (n : Nat) (l0 : List (Int × ((List UInt8) × Unit))) (x3 : List (Int × ((List UInt8) × Unit))) (all4 : List UInt8) (h7 : List Bool) (s45 : Int) (s46 : Int), evLP E_law32_EwtokHidden n (sub C_law32_EwtokHidden [1, 1, 1, 1, 1, 1, 1, 0, 1, 0, 0]) K (frOf [(0, (.dat (.sl (.pair (.int .i64) (.pair (.sl .byte) .unit))) l0 none)), (3, (.dat (.sl (.pair (.int .i64) (.pair (.sl .byte) .unit))) x3 (some (3, 28)))), (4, (.dat (.sl .byte) all4 (some (4, 5)))), (7, (.dat (.sl .bool) h7 (some (7, 4)))), (45, (.dat (.int .i64) s45 none)), (46, (.dat (.int .i64) s46 none))]) = law32_EwtokHidden_l17 (fun s2 => K .ret (frOf [(2, (.dat .bool s2 none))])) (fun x3 all4 => K (.exit 2) (frOf [(3, (.dat (.sl (.pair (.int .i64) (.pair (.sl .byte) .unit))) x3 (some (3, 28)))), (4, (.dat (.sl .byte) all4 (some (4, 5))))])) n l0 x3 all4 h7 s45 s46 := by
  intro n
  induction n with
  | zero => intros; rfl
  | succ n IH =>
  intro l0 x3 all4 h7 s45 s46
  have ih : (fun l0 x3 all4 h7 s45 s46 => evLP E_law32_EwtokHidden n (sub C_law32_EwtokHidden [1, 1, 1, 1, 1, 1, 1, 0, 1, 0, 0]) K (frOf [(0, (.dat (.sl (.pair (.int .i64) (.pair (.sl .byte) .unit))) l0 none)), (3, (.dat (.sl (.pair (.int .i64) (.pair (.sl .byte) .unit))) x3 (some (3, 28)))), (4, (.dat (.sl .byte) all4 (some (4, 5)))), (7, (.dat (.sl .bool) h7 (some (7, 4)))), (45, (.dat (.int .i64) s45 none)), (46, (.dat (.int .i64) s46 none))])) = law32_EwtokHidden_l17 (fun s2 => K .ret (frOf [(2, (.dat .bool s2 none))])) (fun x3 all4 => K (.exit 2) (frOf [(3, (.dat (.sl (.pair (.int .i64) (.pair (.sl .byte) .unit))) x3 (some (3, 28)))), (4, (.dat (.sl .byte) all4 (some (4, 5))))])) n := by
    funext l0 x3 all4 h7 s45 s46
    exact IH l0 x3 all4 h7 s45 s46
  show _ = law32_EwtokHidden_l17_b (fun s2 => K .ret (frOf [(2, (.dat .bool s2 none))])) (fun x3 all4 => K (.exit 2) (frOf [(3, (.dat (.sl (.pair (.int .i64) (.pair (.sl .byte) .unit))) x3 (some (3, 28)))), (4, (.dat (.sl .byte) all4 (some (4, 5))))])) (law32_EwtokHidden_l17 (fun s2 => K .ret (frOf [(2, (.dat .bool s2 none))])) (fun x3 all4 => K (.exit 2) (frOf [(3, (.dat (.sl (.pair (.int .i64) (.pair (.sl .byte) .unit))) x3 (some (3, 28)))), (4, (.dat (.sl .byte) all4 (some (4, 5))))])) n) n l0 x3 all4 h7 s45 s46
  rw [← ih]
  kernel_rfl
theorem law32_EwtokHidden_k17_2_ok (n : Nat) (x3 : List (Int × ((List UInt8) × Unit))) (all4 : List UInt8) : (kBlockP 2 (E_law32_EwtokHidden.cutb 2) (kSeq (evCP E_law32_EwtokHidden (evLP E_law32_EwtokHidden n) (sub C_law32_EwtokHidden [1, 1, 1, 1, 1, 1, 1, 1])) (kFnP E_law32_EwtokHidden R_law32_EwtokHidden))) (.exit 2) (frOf [(3, (.dat (.sl (.pair (.int .i64) (.pair (.sl .byte) .unit))) x3 (some (3, 28)))), (4, (.dat (.sl .byte) all4 (some (4, 5))))]) = law32_EwtokHidden_k17_2 n x3 all4 := by
  kernel_rfl
theorem law32_EwtokHidden_k6_0_ok (n : Nat) (l0 : List (Int × ((List UInt8) × Unit))) (x3 : List (Int × ((List UInt8) × Unit))) (all4 : List UInt8) : (kBlockP 0 (E_law32_EwtokHidden.cutb 0) (kSeq (evCP E_law32_EwtokHidden (evLP E_law32_EwtokHidden n) (sub C_law32_EwtokHidden [1, 1, 1, 1, 1])) (kFnP E_law32_EwtokHidden R_law32_EwtokHidden))) (.exit 0) (frOf [(0, (.dat (.sl (.pair (.int .i64) (.pair (.sl .byte) .unit))) l0 none)), (3, (.dat (.sl (.pair (.int .i64) (.pair (.sl .byte) .unit))) x3 (some (3, 28)))), (4, (.dat (.sl .byte) all4 (some (4, 5))))]) = law32_EwtokHidden_k6_0 n l0 x3 all4 := by
  unfold law32_EwtokHidden_k6_0
  rw [show law32_EwtokHidden_l17 law32_EwtokHidden_ret (law32_EwtokHidden_k17_2 n) n = (fun l0 x3 all4 h7 s45 s46 => evLP E_law32_EwtokHidden n (sub C_law32_EwtokHidden [1, 1, 1, 1, 1, 1, 1, 0, 1, 0, 0]) (kBlockP 2 (E_law32_EwtokHidden.cutb 2) (kSeq (evCP E_law32_EwtokHidden (evLP E_law32_EwtokHidden n) (sub C_law32_EwtokHidden [1, 1, 1, 1, 1, 1, 1, 1])) (kFnP E_law32_EwtokHidden R_law32_EwtokHidden))) (frOf [(0, (.dat (.sl (.pair (.int .i64) (.pair (.sl .byte) .unit))) l0 none)), (3, (.dat (.sl (.pair (.int .i64) (.pair (.sl .byte) .unit))) x3 (some (3, 28)))), (4, (.dat (.sl .byte) all4 (some (4, 5)))), (7, (.dat (.sl .bool) h7 (some (7, 4)))), (45, (.dat (.int .i64) s45 none)), (46, (.dat (.int .i64) s46 none))])) from by
    funext l0 x3 all4 h7 s45 s46
    refine Eq.trans ?_ (law32_EwtokHidden_l17_ok (kBlockP 2 (E_law32_EwtokHidden.cutb 2) (kSeq (evCP E_law32_EwtokHidden (evLP E_law32_EwtokHidden n) (sub C_law32_EwtokHidden [1, 1, 1, 1, 1, 1, 1, 1])) (kFnP E_law32_EwtokHidden R_law32_EwtokHidden))) n l0 x3 all4 h7 s45 s46).symm
    rw [show (fun x3 all4 => (kBlockP 2 (E_law32_EwtokHidden.cutb 2) (kSeq (evCP E_law32_EwtokHidden (evLP E_law32_EwtokHidden n) (sub C_law32_EwtokHidden [1, 1, 1, 1, 1, 1, 1, 1])) (kFnP E_law32_EwtokHidden R_law32_EwtokHidden))) (.exit 2) (frOf [(3, (.dat (.sl (.pair (.int .i64) (.pair (.sl .byte) .unit))) x3 (some (3, 28)))), (4, (.dat (.sl .byte) all4 (some (4, 5))))])) = (law32_EwtokHidden_k17_2 n) from by
      funext x3 all4
      exact law32_EwtokHidden_k17_2_ok n x3 all4]
    all_goals kernel_rfl]
  kernel_rfl
theorem law32_EwtokHidden_ev (n : Nat) (l0 : List (Int × ((List UInt8) × Unit))) (o0 : Lab) : evFnP E_law32_EwtokHidden n C_law32_EwtokHidden R_law32_EwtokHidden [.dat (.sl (.pair (.int .i64) (.pair (.sl .byte) .unit))) l0 o0] = law32_EwtokHidden_sh n l0 := by
  unfold law32_EwtokHidden_sh
  rw [show law32_EwtokHidden_l6 law32_EwtokHidden_ret (law32_EwtokHidden_k6_0 n) n = (fun l0 x3 all4 s13 s14 s15 => evLP E_law32_EwtokHidden n (sub C_law32_EwtokHidden [1, 1, 1, 1, 0, 1, 0, 0]) (kBlockP 0 (E_law32_EwtokHidden.cutb 0) (kSeq (evCP E_law32_EwtokHidden (evLP E_law32_EwtokHidden n) (sub C_law32_EwtokHidden [1, 1, 1, 1, 1])) (kFnP E_law32_EwtokHidden R_law32_EwtokHidden))) (frOf [(0, (.dat (.sl (.pair (.int .i64) (.pair (.sl .byte) .unit))) l0 none)), (3, (.dat (.sl (.pair (.int .i64) (.pair (.sl .byte) .unit))) x3 (some (3, 28)))), (4, (.dat (.sl .byte) all4 (some (4, 5)))), (13, (.dat (.sl (.pair (.int .i64) (.pair (.sl .byte) .unit))) s13 none)), (14, (.dat (.int .i64) s14 none)), (15, (.dat (.int .i64) s15 none))])) from by
    funext l0 x3 all4 s13 s14 s15
    refine Eq.trans ?_ (law32_EwtokHidden_l6_ok (kBlockP 0 (E_law32_EwtokHidden.cutb 0) (kSeq (evCP E_law32_EwtokHidden (evLP E_law32_EwtokHidden n) (sub C_law32_EwtokHidden [1, 1, 1, 1, 1])) (kFnP E_law32_EwtokHidden R_law32_EwtokHidden))) n l0 x3 all4 s13 s14 s15).symm
    rw [show (fun l0 x3 all4 => (kBlockP 0 (E_law32_EwtokHidden.cutb 0) (kSeq (evCP E_law32_EwtokHidden (evLP E_law32_EwtokHidden n) (sub C_law32_EwtokHidden [1, 1, 1, 1, 1])) (kFnP E_law32_EwtokHidden R_law32_EwtokHidden))) (.exit 0) (frOf [(0, (.dat (.sl (.pair (.int .i64) (.pair (.sl .byte) .unit))) l0 none)), (3, (.dat (.sl (.pair (.int .i64) (.pair (.sl .byte) .unit))) x3 (some (3, 28)))), (4, (.dat (.sl .byte) all4 (some (4, 5))))])) = (law32_EwtokHidden_k6_0 n) from by
      funext l0 x3 all4
      exact law32_EwtokHidden_k6_0_ok n l0 x3 all4]
    all_goals kernel_rfl]
  kernel_rfl
theorem law32_EwtokHidden_sound : SoundG G Tryd.prog 3 s_law32_EwtokHidden := by
  refine sound_of_evP' G_stays (E := E_law32_EwtokHidden) (fn := Tryd.f3) (c := C_law32_EwtokHidden) (tyOk_of_table rfl tis_ok) (fun w S hg => ⟨⟨(fns_cons (law32_alive_sound w S hg) (fns_cons (ewtok_Hidden_sound w S hg) (fns_cons (ref32_Hidden_sound w S hg) (fns_cons (ref01_Like_sound w S hg) (fns_cons (ewtok_Join_sound w S hg) fns_nil))))), fun f sp h => cns_nil f sp h w S⟩, gl_none w S hg⟩) follows Tryd.func3 (by kernel_rfl) (by kernel_rfl) (by kernel_rfl) ?_
  intro avs r h
  unfold s_law32_EwtokHidden at h
  split at h
  · simp only [Prod.mk.injEq, true_and] at h
    subst h
    obtain ⟨n, hn⟩ := law32_EwtokHidden_math _
    exact ⟨n, _, (law32_EwtokHidden_ev n _ _).trans hn, .inl rfl⟩
  · cases h

/-! sheave/sheavelaw32.EwtokWhole -/

noncomputable def E_law32_EwtokWhole : EnvP := ⟨⟨tiOf tis, fnsOf [(6, s_law32_alive), (9, s_ref01_Like), (10, s_ewtok_Join), (11, s_ewtok_Pieces), (12, s_ewtok_Kind), (13, s_ewtok_Shown)], cnsOf [], [], 92, (fun x => if x = 5 then some [0, 3, 18, 19, 20] else if x = 12 then some [0, 3, 6, 56, 57, 58] else if x = 19 then some [0, 3, 6, 9, 68, 69, 70] else none), (fun x => if x = 0 then some [0, 3] else if x = 1 then some [0, 3, 18, 19, 20] else if x = 2 then some [0, 3, 6] else if x = 3 then some [0, 3, 6, 56, 57, 58] else if x = 4 then some [0, 3, 6, 9] else if x = 5 then some [0, 3, 6, 9, 68, 69, 70] else none), some [2]⟩, fun _ => none, fun _ => none, fun _ => []⟩
noncomputable def C_law32_EwtokWhole : Code := Tryd.f4.body.getD .skip
noncomputable def R_law32_EwtokWhole : Array ResultVar := Tryd.f4.results
theorem law32_EwtokWhole_l5_ok (K : Ex → Fr → Option AV) : ∀ (n : Nat) (s0 : List UInt8) (l3 : List (Int × ((List UInt8) × Unit))) (s18 : List (Int × ((List UInt8) × Unit))) (s19 : Int) (s20 : Int), evLP E_law32_EwtokWhole n (sub C_law32_EwtokWhole [1, 1, 1, 0, 1, 0, 0]) K (frOf [(0, (.dat (.sl .byte) s0 none)), (3, (.dat (.sl (.pair (.int .i64) (.pair (.sl .byte) .unit))) l3 (some (3, 28)))), (18, (.dat (.sl (.pair (.int .i64) (.pair (.sl .byte) .unit))) s18 (some (3, 28)))), (19, (.dat (.int .i64) s19 none)), (20, (.dat (.int .i64) s20 none))]) = law32_EwtokWhole_l5 (fun s2 => K .ret (frOf [(2, (.dat .bool s2 none))])) (fun s0 l3 => K (.exit 0) (frOf [(0, (.dat (.sl .byte) s0 none)), (3, (.dat (.sl (.pair (.int .i64) (.pair (.sl .byte) .unit))) l3 (some (3, 28))))])) n s0 l3 s18 s19 s20 := by
  intro n
  induction n with
  | zero => intros; rfl
  | succ n IH =>
  intro s0 l3 s18 s19 s20
  have ih : (fun s0 l3 s18 s19 s20 => evLP E_law32_EwtokWhole n (sub C_law32_EwtokWhole [1, 1, 1, 0, 1, 0, 0]) K (frOf [(0, (.dat (.sl .byte) s0 none)), (3, (.dat (.sl (.pair (.int .i64) (.pair (.sl .byte) .unit))) l3 (some (3, 28)))), (18, (.dat (.sl (.pair (.int .i64) (.pair (.sl .byte) .unit))) s18 (some (3, 28)))), (19, (.dat (.int .i64) s19 none)), (20, (.dat (.int .i64) s20 none))])) = law32_EwtokWhole_l5 (fun s2 => K .ret (frOf [(2, (.dat .bool s2 none))])) (fun s0 l3 => K (.exit 0) (frOf [(0, (.dat (.sl .byte) s0 none)), (3, (.dat (.sl (.pair (.int .i64) (.pair (.sl .byte) .unit))) l3 (some (3, 28))))])) n := by
    funext s0 l3 s18 s19 s20
    exact IH s0 l3 s18 s19 s20
  show _ = law32_EwtokWhole_l5_b (fun s2 => K .ret (frOf [(2, (.dat .bool s2 none))])) (fun s0 l3 => K (.exit 0) (frOf [(0, (.dat (.sl .byte) s0 none)), (3, (.dat (.sl (.pair (.int .i64) (.pair (.sl .byte) .unit))) l3 (some (3, 28))))])) (law32_EwtokWhole_l5 (fun s2 => K .ret (frOf [(2, (.dat .bool s2 none))])) (fun s0 l3 => K (.exit 0) (frOf [(0, (.dat (.sl .byte) s0 none)), (3, (.dat (.sl (.pair (.int .i64) (.pair (.sl .byte) .unit))) l3 (some (3, 28))))])) n) n s0 l3 s18 s19 s20
  rw [← ih]
  kernel_rfl
theorem law32_EwtokWhole_l12_ok (K : Ex → Fr → Option AV) : ∀ (n : Nat) (s0 : List UInt8) (l3 : List (Int × ((List UInt8) × Unit))) (many6 : Int) (s56 : List (Int × ((List UInt8) × Unit))) (s57 : Int) (s58 : Int), evLP E_law32_EwtokWhole n (sub C_law32_EwtokWhole [1, 1, 1, 1, 1, 0, 1, 0, 0]) K (frOf [(0, (.dat (.sl .byte) s0 none)), (3, (.dat (.sl (.pair (.int .i64) (.pair (.sl .byte) .unit))) l3 (some (3, 28)))), (6, (.dat (.int .i64) many6 none)), (56, (.dat (.sl (.pair (.int .i64) (.pair (.sl .byte) .unit))) s56 (some (56, 28)))), (57, (.dat (.int .i64) s57 none)), (58, (.dat (.int .i64) s58 none))]) = law32_EwtokWhole_l12 (fun s0 l3 many6 => K (.exit 2) (frOf [(0, (.dat (.sl .byte) s0 none)), (3, (.dat (.sl (.pair (.int .i64) (.pair (.sl .byte) .unit))) l3 (some (3, 28)))), (6, (.dat (.int .i64) many6 none))])) n s0 l3 many6 s56 s57 s58 := by
  intro n
  induction n with
  | zero => intros; rfl
  | succ n IH =>
  intro s0 l3 many6 s56 s57 s58
  have ih : (fun s0 l3 many6 s56 s57 s58 => evLP E_law32_EwtokWhole n (sub C_law32_EwtokWhole [1, 1, 1, 1, 1, 0, 1, 0, 0]) K (frOf [(0, (.dat (.sl .byte) s0 none)), (3, (.dat (.sl (.pair (.int .i64) (.pair (.sl .byte) .unit))) l3 (some (3, 28)))), (6, (.dat (.int .i64) many6 none)), (56, (.dat (.sl (.pair (.int .i64) (.pair (.sl .byte) .unit))) s56 (some (56, 28)))), (57, (.dat (.int .i64) s57 none)), (58, (.dat (.int .i64) s58 none))])) = law32_EwtokWhole_l12 (fun s0 l3 many6 => K (.exit 2) (frOf [(0, (.dat (.sl .byte) s0 none)), (3, (.dat (.sl (.pair (.int .i64) (.pair (.sl .byte) .unit))) l3 (some (3, 28)))), (6, (.dat (.int .i64) many6 none))])) n := by
    funext s0 l3 many6 s56 s57 s58
    exact IH s0 l3 many6 s56 s57 s58
  show _ = law32_EwtokWhole_l12_b (fun s0 l3 many6 => K (.exit 2) (frOf [(0, (.dat (.sl .byte) s0 none)), (3, (.dat (.sl (.pair (.int .i64) (.pair (.sl .byte) .unit))) l3 (some (3, 28)))), (6, (.dat (.int .i64) many6 none))])) (law32_EwtokWhole_l12 (fun s0 l3 many6 => K (.exit 2) (frOf [(0, (.dat (.sl .byte) s0 none)), (3, (.dat (.sl (.pair (.int .i64) (.pair (.sl .byte) .unit))) l3 (some (3, 28)))), (6, (.dat (.int .i64) many6 none))])) n) n s0 l3 many6 s56 s57 s58
  rw [← ih]
  kernel_rfl
theorem law32_EwtokWhole_l19_ok (K : Ex → Fr → Option AV) : ∀ (n : Nat) (s0 : List UInt8) (l3 : List (Int × ((List UInt8) × Unit))) (many6 : Int) (runs9 : Int) (s68 : List (Int × ((List UInt8) × Unit))) (s69 : Int) (s70 : Int), evLP E_law32_EwtokWhole n (sub C_law32_EwtokWhole [1, 1, 1, 1, 1, 1, 1, 0, 1, 0, 0]) K (frOf [(0, (.dat (.sl .byte) s0 none)), (3, (.dat (.sl (.pair (.int .i64) (.pair (.sl .byte) .unit))) l3 (some (3, 28)))), (6, (.dat (.int .i64) many6 none)), (9, (.dat (.int .i64) runs9 none)), (68, (.dat (.sl (.pair (.int .i64) (.pair (.sl .byte) .unit))) s68 (some (3, 28)))), (69, (.dat (.int .i64) s69 none)), (70, (.dat (.int .i64) s70 none))]) = law32_EwtokWhole_l19 (fun s0 l3 many6 runs9 => K (.exit 4) (frOf [(0, (.dat (.sl .byte) s0 none)), (3, (.dat (.sl (.pair (.int .i64) (.pair (.sl .byte) .unit))) l3 (some (3, 28)))), (6, (.dat (.int .i64) many6 none)), (9, (.dat (.int .i64) runs9 none))])) n s0 l3 many6 runs9 s68 s69 s70 := by
  intro n
  induction n with
  | zero => intros; rfl
  | succ n IH =>
  intro s0 l3 many6 runs9 s68 s69 s70
  have ih : (fun s0 l3 many6 runs9 s68 s69 s70 => evLP E_law32_EwtokWhole n (sub C_law32_EwtokWhole [1, 1, 1, 1, 1, 1, 1, 0, 1, 0, 0]) K (frOf [(0, (.dat (.sl .byte) s0 none)), (3, (.dat (.sl (.pair (.int .i64) (.pair (.sl .byte) .unit))) l3 (some (3, 28)))), (6, (.dat (.int .i64) many6 none)), (9, (.dat (.int .i64) runs9 none)), (68, (.dat (.sl (.pair (.int .i64) (.pair (.sl .byte) .unit))) s68 (some (3, 28)))), (69, (.dat (.int .i64) s69 none)), (70, (.dat (.int .i64) s70 none))])) = law32_EwtokWhole_l19 (fun s0 l3 many6 runs9 => K (.exit 4) (frOf [(0, (.dat (.sl .byte) s0 none)), (3, (.dat (.sl (.pair (.int .i64) (.pair (.sl .byte) .unit))) l3 (some (3, 28)))), (6, (.dat (.int .i64) many6 none)), (9, (.dat (.int .i64) runs9 none))])) n := by
    funext s0 l3 many6 runs9 s68 s69 s70
    exact IH s0 l3 many6 runs9 s68 s69 s70
  show _ = law32_EwtokWhole_l19_b (fun s0 l3 many6 runs9 => K (.exit 4) (frOf [(0, (.dat (.sl .byte) s0 none)), (3, (.dat (.sl (.pair (.int .i64) (.pair (.sl .byte) .unit))) l3 (some (3, 28)))), (6, (.dat (.int .i64) many6 none)), (9, (.dat (.int .i64) runs9 none))])) (law32_EwtokWhole_l19 (fun s0 l3 many6 runs9 => K (.exit 4) (frOf [(0, (.dat (.sl .byte) s0 none)), (3, (.dat (.sl (.pair (.int .i64) (.pair (.sl .byte) .unit))) l3 (some (3, 28)))), (6, (.dat (.int .i64) many6 none)), (9, (.dat (.int .i64) runs9 none))])) n) n s0 l3 many6 runs9 s68 s69 s70
  rw [← ih]
  kernel_rfl
theorem law32_EwtokWhole_k19_4_ok (n : Nat) (s0 : List UInt8) (l3 : List (Int × ((List UInt8) × Unit))) (many6 : Int) (runs9 : Int) : (kBlockP 4 (E_law32_EwtokWhole.cutb 4) (kSeq (evCP E_law32_EwtokWhole (evLP E_law32_EwtokWhole n) (sub C_law32_EwtokWhole [1, 1, 1, 1, 1, 1, 1, 1])) (kFnP E_law32_EwtokWhole R_law32_EwtokWhole))) (.exit 4) (frOf [(0, (.dat (.sl .byte) s0 none)), (3, (.dat (.sl (.pair (.int .i64) (.pair (.sl .byte) .unit))) l3 (some (3, 28)))), (6, (.dat (.int .i64) many6 none)), (9, (.dat (.int .i64) runs9 none))]) = law32_EwtokWhole_k19_4 n s0 l3 many6 runs9 := by
  kernel_rfl
theorem law32_EwtokWhole_k12_2_ok (n : Nat) (s0 : List UInt8) (l3 : List (Int × ((List UInt8) × Unit))) (many6 : Int) : (kBlockP 2 (E_law32_EwtokWhole.cutb 2) (kSeq (evCP E_law32_EwtokWhole (evLP E_law32_EwtokWhole n) (sub C_law32_EwtokWhole [1, 1, 1, 1, 1, 1])) (kFnP E_law32_EwtokWhole R_law32_EwtokWhole))) (.exit 2) (frOf [(0, (.dat (.sl .byte) s0 none)), (3, (.dat (.sl (.pair (.int .i64) (.pair (.sl .byte) .unit))) l3 (some (3, 28)))), (6, (.dat (.int .i64) many6 none))]) = law32_EwtokWhole_k12_2 n s0 l3 many6 := by
  unfold law32_EwtokWhole_k12_2
  rw [show law32_EwtokWhole_l19 (law32_EwtokWhole_k19_4 n) n = (fun s0 l3 many6 runs9 s68 s69 s70 => evLP E_law32_EwtokWhole n (sub C_law32_EwtokWhole [1, 1, 1, 1, 1, 1, 1, 0, 1, 0, 0]) (kBlockP 4 (E_law32_EwtokWhole.cutb 4) (kSeq (evCP E_law32_EwtokWhole (evLP E_law32_EwtokWhole n) (sub C_law32_EwtokWhole [1, 1, 1, 1, 1, 1, 1, 1])) (kFnP E_law32_EwtokWhole R_law32_EwtokWhole))) (frOf [(0, (.dat (.sl .byte) s0 none)), (3, (.dat (.sl (.pair (.int .i64) (.pair (.sl .byte) .unit))) l3 (some (3, 28)))), (6, (.dat (.int .i64) many6 none)), (9, (.dat (.int .i64) runs9 none)), (68, (.dat (.sl (.pair (.int .i64) (.pair (.sl .byte) .unit))) s68 (some (3, 28)))), (69, (.dat (.int .i64) s69 none)), (70, (.dat (.int .i64) s70 none))])) from by
    funext s0 l3 many6 runs9 s68 s69 s70
    refine Eq.trans ?_ (law32_EwtokWhole_l19_ok (kBlockP 4 (E_law32_EwtokWhole.cutb 4) (kSeq (evCP E_law32_EwtokWhole (evLP E_law32_EwtokWhole n) (sub C_law32_EwtokWhole [1, 1, 1, 1, 1, 1, 1, 1])) (kFnP E_law32_EwtokWhole R_law32_EwtokWhole))) n s0 l3 many6 runs9 s68 s69 s70).symm
    rw [show (fun s0 l3 many6 runs9 => (kBlockP 4 (E_law32_EwtokWhole.cutb 4) (kSeq (evCP E_law32_EwtokWhole (evLP E_law32_EwtokWhole n) (sub C_law32_EwtokWhole [1, 1, 1, 1, 1, 1, 1, 1])) (kFnP E_law32_EwtokWhole R_law32_EwtokWhole))) (.exit 4) (frOf [(0, (.dat (.sl .byte) s0 none)), (3, (.dat (.sl (.pair (.int .i64) (.pair (.sl .byte) .unit))) l3 (some (3, 28)))), (6, (.dat (.int .i64) many6 none)), (9, (.dat (.int .i64) runs9 none))])) = (law32_EwtokWhole_k19_4 n) from by
      funext s0 l3 many6 runs9
      exact law32_EwtokWhole_k19_4_ok n s0 l3 many6 runs9]
    all_goals kernel_rfl]
  kernel_rfl
theorem law32_EwtokWhole_k5_0_ok (n : Nat) (s0 : List UInt8) (l3 : List (Int × ((List UInt8) × Unit))) : (kBlockP 0 (E_law32_EwtokWhole.cutb 0) (kSeq (evCP E_law32_EwtokWhole (evLP E_law32_EwtokWhole n) (sub C_law32_EwtokWhole [1, 1, 1, 1])) (kFnP E_law32_EwtokWhole R_law32_EwtokWhole))) (.exit 0) (frOf [(0, (.dat (.sl .byte) s0 none)), (3, (.dat (.sl (.pair (.int .i64) (.pair (.sl .byte) .unit))) l3 (some (3, 28))))]) = law32_EwtokWhole_k5_0 n s0 l3 := by
  unfold law32_EwtokWhole_k5_0
  rw [show law32_EwtokWhole_l12 (law32_EwtokWhole_k12_2 n) n = (fun s0 l3 many6 s56 s57 s58 => evLP E_law32_EwtokWhole n (sub C_law32_EwtokWhole [1, 1, 1, 1, 1, 0, 1, 0, 0]) (kBlockP 2 (E_law32_EwtokWhole.cutb 2) (kSeq (evCP E_law32_EwtokWhole (evLP E_law32_EwtokWhole n) (sub C_law32_EwtokWhole [1, 1, 1, 1, 1, 1])) (kFnP E_law32_EwtokWhole R_law32_EwtokWhole))) (frOf [(0, (.dat (.sl .byte) s0 none)), (3, (.dat (.sl (.pair (.int .i64) (.pair (.sl .byte) .unit))) l3 (some (3, 28)))), (6, (.dat (.int .i64) many6 none)), (56, (.dat (.sl (.pair (.int .i64) (.pair (.sl .byte) .unit))) s56 (some (56, 28)))), (57, (.dat (.int .i64) s57 none)), (58, (.dat (.int .i64) s58 none))])) from by
    funext s0 l3 many6 s56 s57 s58
    refine Eq.trans ?_ (law32_EwtokWhole_l12_ok (kBlockP 2 (E_law32_EwtokWhole.cutb 2) (kSeq (evCP E_law32_EwtokWhole (evLP E_law32_EwtokWhole n) (sub C_law32_EwtokWhole [1, 1, 1, 1, 1, 1])) (kFnP E_law32_EwtokWhole R_law32_EwtokWhole))) n s0 l3 many6 s56 s57 s58).symm
    rw [show (fun s0 l3 many6 => (kBlockP 2 (E_law32_EwtokWhole.cutb 2) (kSeq (evCP E_law32_EwtokWhole (evLP E_law32_EwtokWhole n) (sub C_law32_EwtokWhole [1, 1, 1, 1, 1, 1])) (kFnP E_law32_EwtokWhole R_law32_EwtokWhole))) (.exit 2) (frOf [(0, (.dat (.sl .byte) s0 none)), (3, (.dat (.sl (.pair (.int .i64) (.pair (.sl .byte) .unit))) l3 (some (3, 28)))), (6, (.dat (.int .i64) many6 none))])) = (law32_EwtokWhole_k12_2 n) from by
      funext s0 l3 many6
      exact law32_EwtokWhole_k12_2_ok n s0 l3 many6]
    all_goals kernel_rfl]
  kernel_rfl
theorem law32_EwtokWhole_ev (n : Nat) (s0 : List UInt8) (o0 : Lab) : evFnP E_law32_EwtokWhole n C_law32_EwtokWhole R_law32_EwtokWhole [.dat (.sl .byte) s0 o0] = law32_EwtokWhole_sh n s0 := by
  unfold law32_EwtokWhole_sh
  rw [show law32_EwtokWhole_l5 law32_EwtokWhole_ret (law32_EwtokWhole_k5_0 n) n = (fun s0 l3 s18 s19 s20 => evLP E_law32_EwtokWhole n (sub C_law32_EwtokWhole [1, 1, 1, 0, 1, 0, 0]) (kBlockP 0 (E_law32_EwtokWhole.cutb 0) (kSeq (evCP E_law32_EwtokWhole (evLP E_law32_EwtokWhole n) (sub C_law32_EwtokWhole [1, 1, 1, 1])) (kFnP E_law32_EwtokWhole R_law32_EwtokWhole))) (frOf [(0, (.dat (.sl .byte) s0 none)), (3, (.dat (.sl (.pair (.int .i64) (.pair (.sl .byte) .unit))) l3 (some (3, 28)))), (18, (.dat (.sl (.pair (.int .i64) (.pair (.sl .byte) .unit))) s18 (some (3, 28)))), (19, (.dat (.int .i64) s19 none)), (20, (.dat (.int .i64) s20 none))])) from by
    funext s0 l3 s18 s19 s20
    refine Eq.trans ?_ (law32_EwtokWhole_l5_ok (kBlockP 0 (E_law32_EwtokWhole.cutb 0) (kSeq (evCP E_law32_EwtokWhole (evLP E_law32_EwtokWhole n) (sub C_law32_EwtokWhole [1, 1, 1, 1])) (kFnP E_law32_EwtokWhole R_law32_EwtokWhole))) n s0 l3 s18 s19 s20).symm
    rw [show (fun s0 l3 => (kBlockP 0 (E_law32_EwtokWhole.cutb 0) (kSeq (evCP E_law32_EwtokWhole (evLP E_law32_EwtokWhole n) (sub C_law32_EwtokWhole [1, 1, 1, 1])) (kFnP E_law32_EwtokWhole R_law32_EwtokWhole))) (.exit 0) (frOf [(0, (.dat (.sl .byte) s0 none)), (3, (.dat (.sl (.pair (.int .i64) (.pair (.sl .byte) .unit))) l3 (some (3, 28))))])) = (law32_EwtokWhole_k5_0 n) from by
      funext s0 l3
      exact law32_EwtokWhole_k5_0_ok n s0 l3]
    all_goals kernel_rfl]
  kernel_rfl
theorem law32_EwtokWhole_sound : SoundG G Tryd.prog 4 s_law32_EwtokWhole := by
  refine sound_of_evP' G_stays (E := E_law32_EwtokWhole) (fn := Tryd.f4) (c := C_law32_EwtokWhole) (tyOk_of_table rfl tis_ok) (fun w S hg => ⟨⟨(fns_cons (law32_alive_sound w S hg) (fns_cons (ref01_Like_sound w S hg) (fns_cons (ewtok_Join_sound w S hg) (fns_cons (ewtok_Pieces_sound w S hg) (fns_cons (ewtok_Kind_sound w S hg) (fns_cons (ewtok_Shown_sound w S hg) fns_nil)))))), fun f sp h => cns_nil f sp h w S⟩, gl_none w S hg⟩) follows Tryd.func4 (by kernel_rfl) (by kernel_rfl) (by kernel_rfl) ?_
  intro avs r h
  unfold s_law32_EwtokWhole at h
  split at h
  · simp only [Prod.mk.injEq, true_and] at h
    subst h
    obtain ⟨n, hn⟩ := law32_EwtokWhole_math _
    exact ⟨n, _, (law32_EwtokWhole_ev n _ _).trans hn, .inl rfl⟩
  · cases h

end Go.Av
