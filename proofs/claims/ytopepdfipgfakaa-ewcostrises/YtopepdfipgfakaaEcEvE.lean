import Derived.Test.YtopepdfipgfakaaEcEvD
import Derived.Test.YtopepdfipgfakaaEcN
import Derived.Test.YtopepdfipgfakaaProg
import Derived.KernelRfl
namespace Go.Av
open Go.Proofs
set_option maxRecDepth 100000
set_option linter.unusedVariables false
/-! sheave/utfall.Lay -/

noncomputable def E_utfall_Lay : EnvP := ⟨⟨tiOf tis, fnsOf [(63, s_scalar_Right), (64, s_utfone_Put)], cnsOf [], [], 28, (fun x => if x = 5 then some [4, 12, 13, 14] else none), (fun x => if x = 0 then some [4] else if x = 1 then some [4, 12, 13, 14] else none), some [2, 3]⟩, fun _ => none, fun _ => none, fun _ => [], fun _ => none⟩
noncomputable def C_utfall_Lay : Code := Try.f43.body.getD .skip
noncomputable def R_utfall_Lay : Array ResultVar := Try.f43.results
theorem utfall_Lay_l5_ok (K : Ex → Fr → Option AV) : ∀ (n : Nat) (out4 : List UInt8) (s12 : List Int) (s13 : Int) (s14 : Int), evLP E_utfall_Lay n (sub C_utfall_Lay [1, 1, 1, 0, 1, 0, 0]) K (frOf [(4, (.dat (.sl .byte) out4 (some (4, 5)))), (12, (.dat (.sl (.int .i32)) s12 none)), (13, (.dat (.int .i64) s13 none)), (14, (.dat (.int .i64) s14 none))]) = utfall_Lay_l5 (fun out4 => K (.exit 0) (frOf [(4, (.dat (.sl .byte) out4 (some (4, 5))))])) n out4 s12 s13 s14 := by
  intro n
  induction n with
  | zero => intros; rfl
  | succ n IH =>
  intro out4 s12 s13 s14
  have ih : (fun out4 s12 s13 s14 => evLP E_utfall_Lay n (sub C_utfall_Lay [1, 1, 1, 0, 1, 0, 0]) K (frOf [(4, (.dat (.sl .byte) out4 (some (4, 5)))), (12, (.dat (.sl (.int .i32)) s12 none)), (13, (.dat (.int .i64) s13 none)), (14, (.dat (.int .i64) s14 none))])) = utfall_Lay_l5 (fun out4 => K (.exit 0) (frOf [(4, (.dat (.sl .byte) out4 (some (4, 5))))])) n := by
    funext out4 s12 s13 s14
    exact IH out4 s12 s13 s14
  show _ = utfall_Lay_l5_b (fun out4 => K (.exit 0) (frOf [(4, (.dat (.sl .byte) out4 (some (4, 5))))])) (utfall_Lay_l5 (fun out4 => K (.exit 0) (frOf [(4, (.dat (.sl .byte) out4 (some (4, 5))))])) n) n out4 s12 s13 s14
  rw [← ih]
  kernel_rfl
theorem utfall_Lay_k5_0_ok (n : Nat) (out4 : List UInt8) : (kBlockP 0 (E_utfall_Lay.cutb 0) (kSeq (evCP E_utfall_Lay (evLP E_utfall_Lay n) (sub C_utfall_Lay [1, 1, 1, 1])) (kFnP E_utfall_Lay R_utfall_Lay))) (.exit 0) (frOf [(4, (.dat (.sl .byte) out4 (some (4, 5))))]) = utfall_Lay_k5_0 n out4 := by
  kernel_rfl
theorem utfall_Lay_ev (n : Nat) (t0 : List Int) (o0 : Lab) : evFnP E_utfall_Lay n C_utfall_Lay R_utfall_Lay [.dat (.sl (.int .i32)) t0 o0] = utfall_Lay_sh n t0 := by
  unfold utfall_Lay_sh
  rw [show utfall_Lay_l5 (utfall_Lay_k5_0 n) n = (fun out4 s12 s13 s14 => evLP E_utfall_Lay n (sub C_utfall_Lay [1, 1, 1, 0, 1, 0, 0]) (kBlockP 0 (E_utfall_Lay.cutb 0) (kSeq (evCP E_utfall_Lay (evLP E_utfall_Lay n) (sub C_utfall_Lay [1, 1, 1, 1])) (kFnP E_utfall_Lay R_utfall_Lay))) (frOf [(4, (.dat (.sl .byte) out4 (some (4, 5)))), (12, (.dat (.sl (.int .i32)) s12 none)), (13, (.dat (.int .i64) s13 none)), (14, (.dat (.int .i64) s14 none))])) from by
    funext out4 s12 s13 s14
    refine Eq.trans ?_ (utfall_Lay_l5_ok (kBlockP 0 (E_utfall_Lay.cutb 0) (kSeq (evCP E_utfall_Lay (evLP E_utfall_Lay n) (sub C_utfall_Lay [1, 1, 1, 1])) (kFnP E_utfall_Lay R_utfall_Lay))) n out4 s12 s13 s14).symm
    rw [show (fun out4 => (kBlockP 0 (E_utfall_Lay.cutb 0) (kSeq (evCP E_utfall_Lay (evLP E_utfall_Lay n) (sub C_utfall_Lay [1, 1, 1, 1])) (kFnP E_utfall_Lay R_utfall_Lay))) (.exit 0) (frOf [(4, (.dat (.sl .byte) out4 (some (4, 5))))])) = (utfall_Lay_k5_0 n) from by
      funext out4
      exact utfall_Lay_k5_0_ok n out4]
    all_goals kernel_rfl]
  kernel_rfl
theorem utfall_Lay_sound : SoundG G Try.prog 43 s_utfall_Lay := by
  refine sound_of_evP' G_stays (E := E_utfall_Lay) (fn := Try.f43) (c := C_utfall_Lay) (tyOk_of_table rfl tis_ok) (fun w S hg => ⟨⟨(fns_cons (scalar_Right_sound w S hg) (fns_cons (utfone_Put_sound w S hg) fns_nil)), fun f sp h => cns_nil f sp h w S⟩, gl_none w S hg, fun _ _ h => by cases h⟩) follows Try.func43 (by kernel_rfl) (by kernel_rfl) (by kernel_rfl) ?_
  intro avs r h
  unfold s_utfall_Lay at h
  split at h
  · simp only [Prod.mk.injEq] at h
    obtain ⟨hp, rfl⟩ := h
    obtain ⟨n, hn⟩ := utfall_Lay_math _ hp
    exact ⟨n, _, (utfall_Lay_ev n _ _).trans hn, .inl rfl⟩
  · cases h

/-! sheave/reper.Size -/

noncomputable def E_reper_Size : EnvP := ⟨⟨tiOf tis, fnsOf [], cnsOf [], [], 13, (fun _ => none), (fun x => if x = 0 then some [] else none), some [2]⟩, fun _ => none, fun _ => none, fun _ => [], fun _ => none⟩
noncomputable def C_reper_Size : Code := Try.f41.body.getD .skip
noncomputable def R_reper_Size : Array ResultVar := Try.f41.results
theorem reper_Size_ev (n : Nat) (charset0 : Int) (o0 : Lab) : evFnP E_reper_Size n C_reper_Size R_reper_Size [.dat (.int .i64) charset0 o0] = reper_Size_sh n charset0 := by
  kernel_rfl
theorem reper_Size_sound : SoundG G Try.prog 41 s_reper_Size := by
  refine sound_of_evP' G_stays (E := E_reper_Size) (fn := Try.f41) (c := C_reper_Size) (tyOk_of_table rfl tis_ok) (fun w S hg => ⟨⟨fns_nil, fun f sp h => cns_nil f sp h w S⟩, gl_none w S hg, fun _ _ h => by cases h⟩) follows Try.func41 (by kernel_rfl) (by kernel_rfl) (by kernel_rfl) ?_
  intro avs r h
  unfold s_reper_Size at h
  split at h
  · simp only [Prod.mk.injEq, true_and] at h
    subst h
    obtain ⟨n, hn⟩ := reper_Size_math _
    exact ⟨n, _, (reper_Size_ev n _ _).trans hn, .inl rfl⟩
  · cases h

/-! sheave/reper.All -/

noncomputable def E_reper_All : EnvP := ⟨⟨tiOf tis, fnsOf [(41, s_reper_Size), (62, s_reper_Lacks)], cnsOf [], [], 14, (fun _ => none), (fun _ => none), some [4]⟩, fun _ => none, fun _ => none, fun _ => [], fun _ => none⟩
noncomputable def C_reper_All : Code := Try.f42.body.getD .skip
noncomputable def R_reper_All : Array ResultVar := Try.f42.results
theorem reper_All_ev (n : Nat) (charset0 : Int) (o0 : Lab) (t1 : List Int) (o1 : Lab) : evFnP E_reper_All n C_reper_All R_reper_All [.dat (.int .i64) charset0 o0, .dat (.sl (.int .i32)) t1 o1] = reper_All_sh n charset0 t1 := by
  kernel_rfl
theorem reper_All_sound : SoundG G Try.prog 42 s_reper_All := by
  refine sound_of_evP' G_stays (E := E_reper_All) (fn := Try.f42) (c := C_reper_All) (tyOk_of_table rfl tis_ok) (fun w S hg => ⟨⟨(fns_cons (reper_Size_sound w S hg) (fns_cons (reper_Lacks_sound w S hg) fns_nil)), fun f sp h => cns_nil f sp h w S⟩, gl_none w S hg, fun _ _ h => by cases h⟩) follows Try.func42 (by kernel_rfl) (by kernel_rfl) (by kernel_rfl) ?_
  intro avs r h
  unfold s_reper_All at h
  split at h
  · simp only [Prod.mk.injEq] at h
    obtain ⟨hp, rfl⟩ := h
    obtain ⟨n, hn⟩ := reper_All_math _ _ hp
    exact ⟨n, _, (reper_All_ev n _ _ _ _).trans hn, .inl rfl⟩
  · cases h

/-! sheave/codec.Lay -/

noncomputable def E_codec_Lay : EnvP := ⟨⟨tiOf tis, fnsOf [(41, s_reper_Size), (42, s_reper_All), (43, s_utfall_Lay), (44, s_latnine_Lay), (45, s_winone_Lay), (46, s_latin_Lay)], cnsOf [], [], 38, (fun _ => none), (fun x => if x = 0 then some [0, 1] else if x = 1 then some [1] else none), some [1000004, 5]⟩, fun _ => none, fun _ => none, fun _ => [], fun _ => none⟩
noncomputable def C_codec_Lay : Code := Try.f28.body.getD .skip
noncomputable def R_codec_Lay : Array ResultVar := Try.f28.results
theorem codec_Lay_ev (n : Nat) (charset0 : Int) (o0 : Lab) (t1 : List Int) (o1 : Lab) : evFnP E_codec_Lay n C_codec_Lay R_codec_Lay [.dat (.int .i64) charset0 o0, .dat (.sl (.int .i32)) t1 o1] = codec_Lay_sh n charset0 t1 := by
  kernel_rfl
theorem codec_Lay_sound : SoundG G Try.prog 28 s_codec_Lay := by
  refine sound_of_evP' G_stays (E := E_codec_Lay) (fn := Try.f28) (c := C_codec_Lay) (tyOk_of_table rfl tis_ok) (fun w S hg => ⟨⟨(fns_cons (reper_Size_sound w S hg) (fns_cons (reper_All_sound w S hg) (fns_cons (utfall_Lay_sound w S hg) (fns_cons (latnine_Lay_sound w S hg) (fns_cons (winone_Lay_sound w S hg) (fns_cons (latin_Lay_sound w S hg) fns_nil)))))), fun f sp h => cns_nil f sp h w S⟩, gl_none w S hg, fun _ _ h => by cases h⟩) follows Try.func28 (by kernel_rfl) (by kernel_rfl) (by kernel_rfl) ?_
  intro avs r h
  unfold s_codec_Lay at h
  split at h
  · simp only [Prod.mk.injEq] at h
    obtain ⟨hp, rfl⟩ := h
    obtain ⟨n, hn⟩ := codec_Lay_math _ _ hp
    exact ⟨n, _, (codec_Lay_ev n _ _ _ _).trans hn, .inl rfl⟩
  · cases h

/-! sheave/qword.One -/

noncomputable def E_qword_One : EnvP := ⟨⟨tiOf tis, fnsOf [(84, s_octet_Is)], cnsOf [], [], 9, (fun _ => none), (fun _ => none), some [2]⟩, fun _ => none, fun _ => none, fun _ => [], fun _ => none⟩
noncomputable def C_qword_One : Code := Try.f69.body.getD .skip
noncomputable def R_qword_One : Array ResultVar := Try.f69.results
theorem qword_One_ev (n : Nat) (c0 : UInt8) (o0 : Lab) : evFnP E_qword_One n C_qword_One R_qword_One [.dat .byte c0 o0] = qword_One_sh n c0 := by
  kernel_rfl
theorem qword_One_sound : SoundG G Try.prog 69 s_qword_One := by
  refine sound_of_evP' G_stays (E := E_qword_One) (fn := Try.f69) (c := C_qword_One) (tyOk_of_table rfl tis_ok) (fun w S hg => ⟨⟨(fns_cons (octet_Is_sound w S hg) fns_nil), fun f sp h => cns_nil f sp h w S⟩, gl_none w S hg, fun _ _ h => by cases h⟩) follows Try.func69 (by kernel_rfl) (by kernel_rfl) (by kernel_rfl) ?_
  intro avs r h
  unfold s_qword_One at h
  split at h
  · simp only [Prod.mk.injEq, true_and] at h
    subst h
    obtain ⟨n, hn⟩ := qword_One_math _
    exact ⟨n, _, (qword_One_ev n _ _).trans hn, .inl rfl⟩
  · cases h

/-! sheave/bcode.Len -/

noncomputable def E_bcode_Len : EnvP := ⟨⟨tiOf tis, fnsOf [], cnsOf [], [], 10, (fun _ => none), (fun _ => none), some [2]⟩, fun _ => none, fun _ => none, fun _ => [], fun _ => none⟩
noncomputable def C_bcode_Len : Code := Try.f47.body.getD .skip
noncomputable def R_bcode_Len : Array ResultVar := Try.f47.results
theorem bcode_Len_ev (n : Nat) (n0 : Int) (o0 : Lab) : evFnP E_bcode_Len n C_bcode_Len R_bcode_Len [.dat (.int .i64) n0 o0] = bcode_Len_sh n n0 := by
  kernel_rfl
theorem bcode_Len_sound : SoundG G Try.prog 47 s_bcode_Len := by
  refine sound_of_evP' G_stays (E := E_bcode_Len) (fn := Try.f47) (c := C_bcode_Len) (tyOk_of_table rfl tis_ok) (fun w S hg => ⟨⟨fns_nil, fun f sp h => cns_nil f sp h w S⟩, gl_none w S hg, fun _ _ h => by cases h⟩) follows Try.func47 (by kernel_rfl) (by kernel_rfl) (by kernel_rfl) ?_
  intro avs r h
  unfold s_bcode_Len at h
  split at h
  · simp only [Prod.mk.injEq, true_and] at h
    subst h
    obtain ⟨n, hn⟩ := bcode_Len_math _
    exact ⟨n, _, (bcode_Len_ev n _ _).trans hn, .inl rfl⟩
  · cases h

/-! sheave/qword.Len -/

noncomputable def E_qword_Len : EnvP := ⟨⟨tiOf tis, fnsOf [(69, s_qword_One)], cnsOf [], [], 18, (fun x => if x = 3 then some [3, 6, 7, 8] else none), (fun x => if x = 0 then some [3] else if x = 1 then some [3, 6, 7, 8] else none), some [2]⟩, fun _ => none, fun _ => none, fun _ => [], fun _ => none⟩
noncomputable def C_qword_Len : Code := Try.f48.body.getD .skip
noncomputable def R_qword_Len : Array ResultVar := Try.f48.results
theorem qword_Len_l3_ok (K : Ex → Fr → Option AV) : ∀ (n : Nat) (n3 : Int) (s6 : List UInt8) (s7 : Int) (s8 : Int), evLP E_qword_Len n (sub C_qword_Len [1, 1, 0, 1, 0, 0]) K (frOf [(3, (.dat (.int .i64) n3 none)), (6, (.dat (.sl .byte) s6 none)), (7, (.dat (.int .i64) s7 none)), (8, (.dat (.int .i64) s8 none))]) = qword_Len_l3 (fun n3 => K (.exit 0) (frOf [(3, (.dat (.int .i64) n3 none))])) n n3 s6 s7 s8 := by
  intro n
  induction n with
  | zero => intros; rfl
  | succ n IH =>
  intro n3 s6 s7 s8
  have ih : (fun n3 s6 s7 s8 => evLP E_qword_Len n (sub C_qword_Len [1, 1, 0, 1, 0, 0]) K (frOf [(3, (.dat (.int .i64) n3 none)), (6, (.dat (.sl .byte) s6 none)), (7, (.dat (.int .i64) s7 none)), (8, (.dat (.int .i64) s8 none))])) = qword_Len_l3 (fun n3 => K (.exit 0) (frOf [(3, (.dat (.int .i64) n3 none))])) n := by
    funext n3 s6 s7 s8
    exact IH n3 s6 s7 s8
  show _ = qword_Len_l3_b (fun n3 => K (.exit 0) (frOf [(3, (.dat (.int .i64) n3 none))])) (qword_Len_l3 (fun n3 => K (.exit 0) (frOf [(3, (.dat (.int .i64) n3 none))])) n) n n3 s6 s7 s8
  rw [← ih]
  kernel_rfl
theorem qword_Len_k3_0_ok (n : Nat) (n3 : Int) : (kBlockP 0 (E_qword_Len.cutb 0) (kSeq (evCP E_qword_Len (evLP E_qword_Len n) (sub C_qword_Len [1, 1, 1])) (kFnP E_qword_Len R_qword_Len))) (.exit 0) (frOf [(3, (.dat (.int .i64) n3 none))]) = qword_Len_k3_0 n n3 := by
  kernel_rfl
theorem qword_Len_ev (n : Nat) (s0 : List UInt8) (o0 : Lab) : evFnP E_qword_Len n C_qword_Len R_qword_Len [.dat (.sl .byte) s0 o0] = qword_Len_sh n s0 := by
  unfold qword_Len_sh
  rw [show qword_Len_l3 (qword_Len_k3_0 n) n = (fun n3 s6 s7 s8 => evLP E_qword_Len n (sub C_qword_Len [1, 1, 0, 1, 0, 0]) (kBlockP 0 (E_qword_Len.cutb 0) (kSeq (evCP E_qword_Len (evLP E_qword_Len n) (sub C_qword_Len [1, 1, 1])) (kFnP E_qword_Len R_qword_Len))) (frOf [(3, (.dat (.int .i64) n3 none)), (6, (.dat (.sl .byte) s6 none)), (7, (.dat (.int .i64) s7 none)), (8, (.dat (.int .i64) s8 none))])) from by
    funext n3 s6 s7 s8
    refine Eq.trans ?_ (qword_Len_l3_ok (kBlockP 0 (E_qword_Len.cutb 0) (kSeq (evCP E_qword_Len (evLP E_qword_Len n) (sub C_qword_Len [1, 1, 1])) (kFnP E_qword_Len R_qword_Len))) n n3 s6 s7 s8).symm
    rw [show (fun n3 => (kBlockP 0 (E_qword_Len.cutb 0) (kSeq (evCP E_qword_Len (evLP E_qword_Len n) (sub C_qword_Len [1, 1, 1])) (kFnP E_qword_Len R_qword_Len))) (.exit 0) (frOf [(3, (.dat (.int .i64) n3 none))])) = (qword_Len_k3_0 n) from by
      funext n3
      exact qword_Len_k3_0_ok n n3]
    all_goals kernel_rfl]
  kernel_rfl
theorem qword_Len_sound : SoundG G Try.prog 48 s_qword_Len := by
  refine sound_of_evP' G_stays (E := E_qword_Len) (fn := Try.f48) (c := C_qword_Len) (tyOk_of_table rfl tis_ok) (fun w S hg => ⟨⟨(fns_cons (qword_One_sound w S hg) fns_nil), fun f sp h => cns_nil f sp h w S⟩, gl_none w S hg, fun _ _ h => by cases h⟩) follows Try.func48 (by kernel_rfl) (by kernel_rfl) (by kernel_rfl) ?_
  intro avs r h
  unfold s_qword_Len at h
  split at h
  · simp only [Prod.mk.injEq] at h
    obtain ⟨hp, rfl⟩ := h
    obtain ⟨n, hn⟩ := qword_Len_math _ hp
    exact ⟨n, _, (qword_Len_ev n _ _).trans hn, .inl rfl⟩
  · cases h

/-! (sheave/ewcost.byB).letter -/

noncomputable def E__ewcost_byB__letter : EnvP := ⟨⟨tiOf tis, fnsOf [], cnsOf [], [], 3, (fun _ => none), (fun _ => none), some [2]⟩, fun _ => none, fun _ => none, fun _ => [], fun _ => none⟩
noncomputable def C__ewcost_byB__letter : Code := Try.f49.body.getD .skip
noncomputable def R__ewcost_byB__letter : Array ResultVar := Try.f49.results
theorem _ewcost_byB__letter_ev (n : Nat) (x0 : Unit) (o0 : Lab) : evFnP E__ewcost_byB__letter n C__ewcost_byB__letter R__ewcost_byB__letter [.dat .unit x0 o0] = _ewcost_byB__letter_sh n x0 := by
  kernel_rfl
theorem _ewcost_byB__letter_sound : SoundG G Try.prog 49 s__ewcost_byB__letter := by
  refine sound_of_evP' G_stays (E := E__ewcost_byB__letter) (fn := Try.f49) (c := C__ewcost_byB__letter) (tyOk_of_table rfl tis_ok) (fun w S hg => ⟨⟨fns_nil, fun f sp h => cns_nil f sp h w S⟩, gl_none w S hg, fun _ _ h => by cases h⟩) follows Try.func49 (by kernel_rfl) (by kernel_rfl) (by kernel_rfl) ?_
  intro avs r h
  unfold s__ewcost_byB__letter at h
  split at h
  · simp only [Prod.mk.injEq, true_and] at h
    subst h
    obtain ⟨n, hn⟩ := _ewcost_byB__letter_math _
    exact ⟨n, _, (_ewcost_byB__letter_ev n _ _).trans hn, .inl rfl⟩
  · cases h

/-! (sheave/ewcost.byQ).letter -/

noncomputable def E__ewcost_byQ__letter : EnvP := ⟨⟨tiOf tis, fnsOf [], cnsOf [], [], 3, (fun _ => none), (fun _ => none), some [2]⟩, fun _ => none, fun _ => none, fun _ => [], fun _ => none⟩
noncomputable def C__ewcost_byQ__letter : Code := Try.f50.body.getD .skip
noncomputable def R__ewcost_byQ__letter : Array ResultVar := Try.f50.results
theorem _ewcost_byQ__letter_ev (n : Nat) (x0 : Unit) (o0 : Lab) : evFnP E__ewcost_byQ__letter n C__ewcost_byQ__letter R__ewcost_byQ__letter [.dat .unit x0 o0] = _ewcost_byQ__letter_sh n x0 := by
  kernel_rfl
theorem _ewcost_byQ__letter_sound : SoundG G Try.prog 50 s__ewcost_byQ__letter := by
  refine sound_of_evP' G_stays (E := E__ewcost_byQ__letter) (fn := Try.f50) (c := C__ewcost_byQ__letter) (tyOk_of_table rfl tis_ok) (fun w S hg => ⟨⟨fns_nil, fun f sp h => cns_nil f sp h w S⟩, gl_none w S hg, fun _ _ h => by cases h⟩) follows Try.func50 (by kernel_rfl) (by kernel_rfl) (by kernel_rfl) ?_
  intro avs r h
  unfold s__ewcost_byQ__letter at h
  split at h
  · simp only [Prod.mk.injEq, true_and] at h
    subst h
    obtain ⟨n, hn⟩ := _ewcost_byQ__letter_math _
    exact ⟨n, _, (_ewcost_byQ__letter_ev n _ _).trans hn, .inl rfl⟩
  · cases h

/-! sheave/ewcost.of -/

noncomputable def E_ewcost_of : EnvP := ⟨⟨tiOf tis, fnsOf [(49, s__ewcost_byB__letter), (50, s__ewcost_byQ__letter)], cnsOf [], [], 16, (fun _ => none), (fun x => if x = 0 then some [] else none), some [2]⟩, fun _ => none, fun _ => none, fun _ => [], fun _ => none⟩
noncomputable def C_ewcost_of : Code := Try.f30.body.getD .skip
noncomputable def R_ewcost_of : Array ResultVar := Try.f30.results
theorem ewcost_of_ev (n : Nat) (code0 : Int) (o0 : Lab) : evFnP E_ewcost_of n C_ewcost_of R_ewcost_of [.dat (.int .i64) code0 o0] = ewcost_of_sh n code0 := by
  kernel_rfl
theorem ewcost_of_sound : SoundG G Try.prog 30 s_ewcost_of := by
  refine sound_of_evPicks G_stays (E := E_ewcost_of) (fn := Try.f30) (c := C_ewcost_of) (tyOk_of_table rfl tis_ok) (fun w S hg => ⟨⟨(fns_cons (_ewcost_byB__letter_sound w S hg) (fns_cons (_ewcost_byQ__letter_sound w S hg) fns_nil)), fun f sp h => cns_nil f sp h w S⟩, gl_none w S hg, fun _ _ h => by cases h⟩) follows Try.func30 (by kernel_rfl) (by kernel_rfl) (by kernel_rfl) ?_
  intro avs r h
  unfold s_ewcost_of at h
  split at h
  · simp only [Prod.mk.injEq, true_and] at h
    subst h
    obtain ⟨n, r, hn, hp⟩ := ewcost_of_math _
    exact ⟨n, r, (ewcost_of_ev n _ _).trans hn, hp⟩
  · cases h

/-! sheave/ewcost.measure -/

noncomputable def E_ewcost_measure_v0 : EnvP := ⟨⟨tiOf tis, fnsOf [(47, s_bcode_Len)], cnsOf [], [], 18, (fun _ => none), (fun x => if x = 0 then some [] else none), some [4, 5]⟩, fun _ => none, fun _ => none, fun _ => [], fun _ => none⟩
noncomputable def C_ewcost_measure_v0 : Code := Try.f29.body.getD .skip
noncomputable def R_ewcost_measure_v0 : Array ResultVar := Try.f29.results
theorem ewcost_measure_v0_ev (n : Nat) (s1 : List UInt8) (o0 : Lab) : evFnP E_ewcost_measure_v0 n C_ewcost_measure_v0 R_ewcost_measure_v0 [.iface 65 (.dat .unit () none), .dat (.sl .byte) s1 o0] = ewcost_measure_v0_sh n s1 := by
  kernel_rfl

/-! sheave/ewcost.measure -/

noncomputable def E_ewcost_measure_v1 : EnvP := ⟨⟨tiOf tis, fnsOf [(48, s_qword_Len)], cnsOf [], [], 18, (fun _ => none), (fun x => if x = 0 then some [] else none), some [4, 5]⟩, fun _ => none, fun _ => none, fun _ => [], fun _ => none⟩
noncomputable def C_ewcost_measure_v1 : Code := Try.f29.body.getD .skip
noncomputable def R_ewcost_measure_v1 : Array ResultVar := Try.f29.results
theorem ewcost_measure_v1_ev (n : Nat) (s1 : List UInt8) (o0 : Lab) : evFnP E_ewcost_measure_v1 n C_ewcost_measure_v1 R_ewcost_measure_v1 [.iface 66 (.dat .unit () none), .dat (.sl .byte) s1 o0] = ewcost_measure_v1_sh n s1 := by
  kernel_rfl

end Go.Av
