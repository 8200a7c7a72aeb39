import Derived.Test.YtnfehbljinflbaaDoorEtEvA
import Derived.Test.YtnfehbljinflbaaDoorEtN
import Derived.Test.YtnfehbljinflbaaDoorProg
import Derived.KernelRfl
namespace Go.Av
open Go.Proofs
set_option maxRecDepth 100000
/-! sheave/octet.Count -/

noncomputable def E_octet_Count : EnvP := ⟨⟨tiOf tis, fnsOf [(75, s_octet_Is)], cnsOf [], [], 21, (fun x => if x = 3 then some [1, 5, 8, 9, 10] else none), (fun x => if x = 0 then some [5] else if x = 1 then some [1, 5, 8, 9, 10] else none), some [4]⟩, fun _ => none, fun _ => none, fun _ => []⟩
noncomputable def C_octet_Count : Code := Tryd.f69.body.getD .skip
noncomputable def R_octet_Count : Array ResultVar := Tryd.f69.results
theorem octet_Count_l3_ok (K : Ex → Fr → Option AV) : ∀ (n : Nat) (kinds1 : Int) (n5 : Int) (s8 : List UInt8) (s9 : Int) (s10 : Int), evLP E_octet_Count n (sub C_octet_Count [1, 1, 0, 1, 0, 0]) K (frOf [(1, (.dat (.int .i64) kinds1 none)), (5, (.dat (.int .i64) n5 none)), (8, (.dat (.sl .byte) s8 none)), (9, (.dat (.int .i64) s9 none)), (10, (.dat (.int .i64) s10 none))]) = octet_Count_l3 (fun n5 => K (.exit 0) (frOf [(5, (.dat (.int .i64) n5 none))])) n kinds1 n5 s8 s9 s10 := by
  intro n
  induction n with
  | zero => intros; rfl
  | succ n IH =>
  intro kinds1 n5 s8 s9 s10
  have ih : (fun kinds1 n5 s8 s9 s10 => evLP E_octet_Count n (sub C_octet_Count [1, 1, 0, 1, 0, 0]) K (frOf [(1, (.dat (.int .i64) kinds1 none)), (5, (.dat (.int .i64) n5 none)), (8, (.dat (.sl .byte) s8 none)), (9, (.dat (.int .i64) s9 none)), (10, (.dat (.int .i64) s10 none))])) = octet_Count_l3 (fun n5 => K (.exit 0) (frOf [(5, (.dat (.int .i64) n5 none))])) n := by
    funext kinds1 n5 s8 s9 s10
    exact IH kinds1 n5 s8 s9 s10
  show _ = octet_Count_l3_b (fun n5 => K (.exit 0) (frOf [(5, (.dat (.int .i64) n5 none))])) (octet_Count_l3 (fun n5 => K (.exit 0) (frOf [(5, (.dat (.int .i64) n5 none))])) n) n kinds1 n5 s8 s9 s10
  rw [← ih]
  kernel_rfl
theorem octet_Count_k3_0_ok (n : Nat) (n5 : Int) : (kBlockP 0 (E_octet_Count.cutb 0) (kSeq (evCP E_octet_Count (evLP E_octet_Count n) (sub C_octet_Count [1, 1, 1])) (kFnP E_octet_Count R_octet_Count))) (.exit 0) (frOf [(5, (.dat (.int .i64) n5 none))]) = octet_Count_k3_0 n n5 := by
  kernel_rfl
theorem octet_Count_ev (n : Nat) (s0 : List UInt8) (o0 : Lab) (kinds1 : Int) (o1 : Lab) : evFnP E_octet_Count n C_octet_Count R_octet_Count [.dat (.sl .byte) s0 o0, .dat (.int .i64) kinds1 o1] = octet_Count_sh n s0 kinds1 := by
  unfold octet_Count_sh
  rw [show octet_Count_l3 (octet_Count_k3_0 n) n = (fun kinds1 n5 s8 s9 s10 => evLP E_octet_Count n (sub C_octet_Count [1, 1, 0, 1, 0, 0]) (kBlockP 0 (E_octet_Count.cutb 0) (kSeq (evCP E_octet_Count (evLP E_octet_Count n) (sub C_octet_Count [1, 1, 1])) (kFnP E_octet_Count R_octet_Count))) (frOf [(1, (.dat (.int .i64) kinds1 none)), (5, (.dat (.int .i64) n5 none)), (8, (.dat (.sl .byte) s8 none)), (9, (.dat (.int .i64) s9 none)), (10, (.dat (.int .i64) s10 none))])) from by
    funext kinds1 n5 s8 s9 s10
    refine Eq.trans ?_ (octet_Count_l3_ok (kBlockP 0 (E_octet_Count.cutb 0) (kSeq (evCP E_octet_Count (evLP E_octet_Count n) (sub C_octet_Count [1, 1, 1])) (kFnP E_octet_Count R_octet_Count))) n kinds1 n5 s8 s9 s10).symm
    rw [show (fun n5 => (kBlockP 0 (E_octet_Count.cutb 0) (kSeq (evCP E_octet_Count (evLP E_octet_Count n) (sub C_octet_Count [1, 1, 1])) (kFnP E_octet_Count R_octet_Count))) (.exit 0) (frOf [(5, (.dat (.int .i64) n5 none))])) = (octet_Count_k3_0 n) from by
      funext n5
      exact octet_Count_k3_0_ok n n5]
    all_goals kernel_rfl]
  kernel_rfl
theorem octet_Count_sound : SoundG G Tryd.prog 69 s_octet_Count := by
  refine sound_of_evP' G_stays (E := E_octet_Count) (fn := Tryd.f69) (c := C_octet_Count) (tyOk_of_table rfl tis_ok) (fun w S hg => ⟨⟨(fns_cons (octet_Is_sound w S hg) fns_nil), fun f sp h => cns_nil f sp h w S⟩, gl_none w S hg⟩) follows Tryd.func69 (by kernel_rfl) (by kernel_rfl) (by kernel_rfl) ?_
  intro avs r h
  unfold s_octet_Count at h
  split at h
  · simp only [Prod.mk.injEq] at h
    obtain ⟨hp, rfl⟩ := h
    obtain ⟨n, hn⟩ := octet_Count_math _ _ hp
    exact ⟨n, _, (octet_Count_ev n _ _ _ _).trans hn, .inl rfl⟩
  · cases h

/-! sheave/octet.All -/

noncomputable def E_octet_All : EnvP := ⟨⟨tiOf tis, fnsOf [(69, s_octet_Count)], cnsOf [], [], 11, (fun _ => none), (fun _ => none), some [4]⟩, fun _ => none, fun _ => none, fun _ => []⟩
noncomputable def C_octet_All : Code := Tryd.f61.body.getD .skip
noncomputable def R_octet_All : Array ResultVar := Tryd.f61.results
theorem octet_All_ev (n : Nat) (s0 : List UInt8) (o0 : Lab) (kinds1 : Int) (o1 : Lab) : evFnP E_octet_All n C_octet_All R_octet_All [.dat (.sl .byte) s0 o0, .dat (.int .i64) kinds1 o1] = octet_All_sh n s0 kinds1 := by
  kernel_rfl
theorem octet_All_sound : SoundG G Tryd.prog 61 s_octet_All := by
  refine sound_of_evP' G_stays (E := E_octet_All) (fn := Tryd.f61) (c := C_octet_All) (tyOk_of_table rfl tis_ok) (fun w S hg => ⟨⟨(fns_cons (octet_Count_sound w S hg) fns_nil), fun f sp h => cns_nil f sp h w S⟩, gl_none w S hg⟩) follows Tryd.func61 (by kernel_rfl) (by kernel_rfl) (by kernel_rfl) ?_
  intro avs r h
  unfold s_octet_All at h
  split at h
  · simp only [Prod.mk.injEq] at h
    obtain ⟨hp, rfl⟩ := h
    obtain ⟨n, hn⟩ := octet_All_math _ _ hp
    exact ⟨n, _, (octet_All_ev n _ _ _ _).trans hn, .inl rfl⟩
  · cases h

/-! bytes.makeASCIISet -/

noncomputable def E_bytes_makeASCIISet : EnvP := ⟨⟨tiOf tis, fnsOf [], cnsOf [], [], 21, (fun x => if x = 2 then some [0, 2, 4] else none), (fun x => if x = 0 then some [2] else if x = 1 then some [0, 2, 4] else none), some [2, 3]⟩, fun _ => none, fun _ => none, fun _ => []⟩
noncomputable def C_bytes_makeASCIISet : Code := Tryd.f30.body.getD .skip
noncomputable def R_bytes_makeASCIISet : Array ResultVar := Tryd.f30.results
theorem bytes_makeASCIISet_l2_ok (K : Ex → Fr → Option AV) : ∀ (n : Nat) (chars0 : List UInt8) (as2 : List Bool) (i4 : Int), evLP E_bytes_makeASCIISet n (sub C_bytes_makeASCIISet [1, 0, 1, 0, 0]) K (frOf [(0, (.dat .str chars0 none)), (2, (.box (.arr 256 .bool) as2)), (4, (.dat (.int .i64) i4 none))]) = bytes_makeASCIISet_l2 (fun as2 ok3 => K .ret (frOf [(2, (.box (.arr 256 .bool) as2)), (3, (.dat .bool ok3 none))])) (fun as2 => K (.exit 0) (frOf [(2, (.box (.arr 256 .bool) as2))])) n chars0 as2 i4 := by
  intro n
  induction n with
  | zero => intros; rfl
  | succ n IH =>
  intro chars0 as2 i4
  have ih : (fun chars0 as2 i4 => evLP E_bytes_makeASCIISet n (sub C_bytes_makeASCIISet [1, 0, 1, 0, 0]) K (frOf [(0, (.dat .str chars0 none)), (2, (.box (.arr 256 .bool) as2)), (4, (.dat (.int .i64) i4 none))])) = bytes_makeASCIISet_l2 (fun as2 ok3 => K .ret (frOf [(2, (.box (.arr 256 .bool) as2)), (3, (.dat .bool ok3 none))])) (fun as2 => K (.exit 0) (frOf [(2, (.box (.arr 256 .bool) as2))])) n := by
    funext chars0 as2 i4
    exact IH chars0 as2 i4
  show _ = bytes_makeASCIISet_l2_b (fun as2 ok3 => K .ret (frOf [(2, (.box (.arr 256 .bool) as2)), (3, (.dat .bool ok3 none))])) (fun as2 => K (.exit 0) (frOf [(2, (.box (.arr 256 .bool) as2))])) (bytes_makeASCIISet_l2 (fun as2 ok3 => K .ret (frOf [(2, (.box (.arr 256 .bool) as2)), (3, (.dat .bool ok3 none))])) (fun as2 => K (.exit 0) (frOf [(2, (.box (.arr 256 .bool) as2))])) n) n chars0 as2 i4
  rw [← ih]
  kernel_rfl
theorem bytes_makeASCIISet_k2_0_ok (n : Nat) (as2 : List Bool) : (kBlockP 0 (E_bytes_makeASCIISet.cutb 0) (kSeq (evCP E_bytes_makeASCIISet (evLP E_bytes_makeASCIISet n) (sub C_bytes_makeASCIISet [1, 1])) (kFnP E_bytes_makeASCIISet R_bytes_makeASCIISet))) (.exit 0) (frOf [(2, (.box (.arr 256 .bool) as2))]) = bytes_makeASCIISet_k2_0 n as2 := by
  kernel_rfl
theorem bytes_makeASCIISet_ev (n : Nat) (chars0 : List UInt8) (o0 : Lab) : evFnP E_bytes_makeASCIISet n C_bytes_makeASCIISet R_bytes_makeASCIISet [.dat .str chars0 o0] = bytes_makeASCIISet_sh n chars0 := by
  unfold bytes_makeASCIISet_sh
  rw [show bytes_makeASCIISet_l2 bytes_makeASCIISet_ret (bytes_makeASCIISet_k2_0 n) n = (fun chars0 as2 i4 => evLP E_bytes_makeASCIISet n (sub C_bytes_makeASCIISet [1, 0, 1, 0, 0]) (kBlockP 0 (E_bytes_makeASCIISet.cutb 0) (kSeq (evCP E_bytes_makeASCIISet (evLP E_bytes_makeASCIISet n) (sub C_bytes_makeASCIISet [1, 1])) (kFnP E_bytes_makeASCIISet R_bytes_makeASCIISet))) (frOf [(0, (.dat .str chars0 none)), (2, (.box (.arr 256 .bool) as2)), (4, (.dat (.int .i64) i4 none))])) from by
    funext chars0 as2 i4
    refine Eq.trans ?_ (bytes_makeASCIISet_l2_ok (kBlockP 0 (E_bytes_makeASCIISet.cutb 0) (kSeq (evCP E_bytes_makeASCIISet (evLP E_bytes_makeASCIISet n) (sub C_bytes_makeASCIISet [1, 1])) (kFnP E_bytes_makeASCIISet R_bytes_makeASCIISet))) n chars0 as2 i4).symm
    rw [show (fun as2 => (kBlockP 0 (E_bytes_makeASCIISet.cutb 0) (kSeq (evCP E_bytes_makeASCIISet (evLP E_bytes_makeASCIISet n) (sub C_bytes_makeASCIISet [1, 1])) (kFnP E_bytes_makeASCIISet R_bytes_makeASCIISet))) (.exit 0) (frOf [(2, (.box (.arr 256 .bool) as2))])) = (bytes_makeASCIISet_k2_0 n) from by
      funext as2
      exact bytes_makeASCIISet_k2_0_ok n as2]
    all_goals kernel_rfl]
  kernel_rfl
theorem bytes_makeASCIISet_sound : SoundG G Tryd.prog 30 s_bytes_makeASCIISet := by
  refine sound_of_evP' G_stays (E := E_bytes_makeASCIISet) (fn := Tryd.f30) (c := C_bytes_makeASCIISet) (tyOk_of_table rfl tis_ok) (fun w S hg => ⟨⟨fns_nil, fun f sp h => cns_nil f sp h w S⟩, gl_none w S hg⟩) follows Tryd.func30 (by kernel_rfl) (by kernel_rfl) (by kernel_rfl) ?_
  intro avs r h
  unfold s_bytes_makeASCIISet at h
  split at h
  · simp only [Prod.mk.injEq] at h
    obtain ⟨hp, rfl⟩ := h
    obtain ⟨n, hn⟩ := bytes_makeASCIISet_math _ hp
    exact ⟨n, _, (bytes_makeASCIISet_ev n _ _).trans hn, .inl rfl⟩
  · cases h

/-! bytes.shouldUseASCIISet -/

noncomputable def E_bytes_shouldUseASCIISet : EnvP := ⟨⟨tiOf tis, fnsOf [], cnsOf [], [], 5, (fun _ => none), (fun _ => none), some [2]⟩, fun _ => none, fun _ => none, fun _ => []⟩
noncomputable def C_bytes_shouldUseASCIISet : Code := Tryd.f41.body.getD .skip
noncomputable def R_bytes_shouldUseASCIISet : Array ResultVar := Tryd.f41.results
theorem bytes_shouldUseASCIISet_ev (n : Nat) (bufLen0 : Int) (o0 : Lab) : evFnP E_bytes_shouldUseASCIISet n C_bytes_shouldUseASCIISet R_bytes_shouldUseASCIISet [.dat (.int .i64) bufLen0 o0] = bytes_shouldUseASCIISet_sh n bufLen0 := by
  kernel_rfl
theorem bytes_shouldUseASCIISet_sound : SoundG G Tryd.prog 41 s_bytes_shouldUseASCIISet := by
  refine sound_of_evP' G_stays (E := E_bytes_shouldUseASCIISet) (fn := Tryd.f41) (c := C_bytes_shouldUseASCIISet) (tyOk_of_table rfl tis_ok) (fun w S hg => ⟨⟨fns_nil, fun f sp h => cns_nil f sp h w S⟩, gl_none w S hg⟩) follows Tryd.func41 (by kernel_rfl) (by kernel_rfl) (by kernel_rfl) ?_
  intro avs r h
  unfold s_bytes_shouldUseASCIISet at h
  split at h
  · simp only [Prod.mk.injEq, true_and] at h
    subst h
    obtain ⟨n, hn⟩ := bytes_shouldUseASCIISet_math _
    exact ⟨n, _, (bytes_shouldUseASCIISet_ev n _ _).trans hn, .inl rfl⟩
  · cases h

/-! (*bytes.asciiSet).contains -/

noncomputable def E___bytes_asciiSet__contains : EnvP := ⟨⟨tiOf tis, fnsOf [], cnsOf [], [], 10, (fun _ => none), (fun _ => none), some [4]⟩, fun _ => none, fun _ => none, fun _ => []⟩
noncomputable def C___bytes_asciiSet__contains : Code := Tryd.f42.body.getD .skip
noncomputable def R___bytes_asciiSet__contains : Array ResultVar := Tryd.f42.results
theorem __bytes_asciiSet__contains_ev (n : Nat) (as0 : List Bool) (c1 : UInt8) (o1 : Lab) : evFnP E___bytes_asciiSet__contains n C___bytes_asciiSet__contains R___bytes_asciiSet__contains [.adr (.arr 256 .bool) as0, .dat .byte c1 o1] = __bytes_asciiSet__contains_sh n as0 c1 := by
  kernel_rfl
theorem __bytes_asciiSet__contains_sound : SoundG G Tryd.prog 42 s___bytes_asciiSet__contains := by
  refine sound_of_evP' G_stays (E := E___bytes_asciiSet__contains) (fn := Tryd.f42) (c := C___bytes_asciiSet__contains) (tyOk_of_table rfl tis_ok) (fun w S hg => ⟨⟨fns_nil, fun f sp h => cns_nil f sp h w S⟩, gl_none w S hg⟩) follows Tryd.func42 (by kernel_rfl) (by kernel_rfl) (by kernel_rfl) ?_
  intro avs r h
  unfold s___bytes_asciiSet__contains at h
  split at h
  · simp only [Prod.mk.injEq, true_and] at h
    subst h
    obtain ⟨n, hn⟩ := __bytes_asciiSet__contains_math _ _
    exact ⟨n, _, (__bytes_asciiSet__contains_ev n _ _ _).trans hn, .inl rfl⟩
  · cases h

/-! bytes.IndexAny -/

noncomputable def E_bytes_IndexAny (m0 : Int) : EnvP := ⟨⟨tiOf tis, fnsOf [(30, s_bytes_makeASCIISet), (39, s_internal_bytealg_IndexByteString), (40, s_bytes_IndexRune), (41, s_bytes_shouldUseASCIISet), (42, s___bytes_asciiSet__contains), (43, s_unicode_utf8_DecodeRune), (44, (s_internal_bytealg_IndexString m0))], cnsOf [], [], 129, (fun x => if x = 7 then some [28] else if x = 24 then some [7, 60, 61, 62] else if x = 32 then some [0, 1, 12] else if x = 48 then some [0, 1, 11, 12, 13, 121] else none), (fun x => if x = 0 then some [] else if x = 1 then some [28] else if x = 2 then some [] else if x = 3 then some [7, 60, 61, 62] else if x = 4 then some [] else if x = 5 then some [0, 1, 11, 12] else if x = 6 then some [0, 1, 11, 12] else if x = 7 then some [0, 1, 11, 12, 13, 121] else none), some [4]⟩, fun _ => none, glm m0, (fun x => if x = 24 then [7] else [])⟩
noncomputable def C_bytes_IndexAny : Code := Tryd.f27.body.getD .skip
noncomputable def R_bytes_IndexAny : Array ResultVar := Tryd.f27.results
theorem bytes_IndexAny_l7_ok (m0 : Int) (K : Ex → Fr → Option AV) : ∀ (n : Nat) (s28 : List UInt8) (s28p : Nat), evLP (E_bytes_IndexAny m0) n (sub C_bytes_IndexAny [1, 1, 0, 1, 0, 1, 0, 1, 0, 0, 1, 0, 0]) K (frOf [(28, (.itr s28 s28p))]) = (bytes_IndexAny_l7 m0) (fun s4 => K .ret (frOf [(4, (.dat (.int .i64) s4 none))])) (K (.exit 0) (frOf [])) n s28 s28p := by
  intro n
  induction n with
  | zero => intros; rfl
  | succ n IH =>
  intro s28 s28p
  have ih : (fun s28 s28p => evLP (E_bytes_IndexAny m0) n (sub C_bytes_IndexAny [1, 1, 0, 1, 0, 1, 0, 1, 0, 0, 1, 0, 0]) K (frOf [(28, (.itr s28 s28p))])) = (bytes_IndexAny_l7 m0) (fun s4 => K .ret (frOf [(4, (.dat (.int .i64) s4 none))])) (K (.exit 0) (frOf [])) n := by
    funext s28 s28p
    exact IH s28 s28p
  show _ = (bytes_IndexAny_l7_b m0) (fun s4 => K .ret (frOf [(4, (.dat (.int .i64) s4 none))])) (K (.exit 0) (frOf [])) ((bytes_IndexAny_l7 m0) (fun s4 => K .ret (frOf [(4, (.dat (.int .i64) s4 none))])) (K (.exit 0) (frOf [])) n) n s28 s28p
  rw [← ih]
  kernel_rfl
theorem bytes_IndexAny_k7_0_ok (m0 : Int) (n : Nat)  : (kBlockP 0 ((E_bytes_IndexAny m0).cutb 0) (kSeq (evCP (E_bytes_IndexAny m0) (evLP (E_bytes_IndexAny m0) n) (sub C_bytes_IndexAny [1, 1, 0, 1, 0, 1, 0, 1, 0, 1])) (kSeq (evCP (E_bytes_IndexAny m0) (evLP (E_bytes_IndexAny m0) n) (sub C_bytes_IndexAny [1, 1, 0, 1, 0, 1, 1])) (kSeq (evCP (E_bytes_IndexAny m0) (evLP (E_bytes_IndexAny m0) n) (sub C_bytes_IndexAny [1, 1, 1])) (kFnP (E_bytes_IndexAny m0) R_bytes_IndexAny))))) (.exit 0) (frOf []) = (bytes_IndexAny_k7_0 m0) n  := by
  kernel_rfl
theorem bytes_IndexAny_l24_ok (m0 : Int) (K : Ex → Fr → Option AV) : ∀ (n : Nat) (as7 : List Bool) (s60 : List UInt8) (s61 : Int) (s62 : Int), evLP (E_bytes_IndexAny m0) n (sub C_bytes_IndexAny [1, 1, 1, 1, 0, 1, 0, 1, 1, 0, 0, 1, 0, 0]) K (frOf [(7, (.adr (.arr 256 .bool) as7)), (60, (.dat (.sl .byte) s60 none)), (61, (.dat (.int .i64) s61 none)), (62, (.dat (.int .i64) s62 none))]) = (bytes_IndexAny_l24 m0) (fun s4 => K .ret (frOf [(4, (.dat (.int .i64) s4 none))])) (K (.exit 2) (frOf [])) n as7 s60 s61 s62 := by
  intro n
  induction n with
  | zero => intros; rfl
  | succ n IH =>
  intro as7 s60 s61 s62
  have ih : (fun as7 s60 s61 s62 => evLP (E_bytes_IndexAny m0) n (sub C_bytes_IndexAny [1, 1, 1, 1, 0, 1, 0, 1, 1, 0, 0, 1, 0, 0]) K (frOf [(7, (.adr (.arr 256 .bool) as7)), (60, (.dat (.sl .byte) s60 none)), (61, (.dat (.int .i64) s61 none)), (62, (.dat (.int .i64) s62 none))])) = (bytes_IndexAny_l24 m0) (fun s4 => K .ret (frOf [(4, (.dat (.int .i64) s4 none))])) (K (.exit 2) (frOf [])) n := by
    funext as7 s60 s61 s62
    exact IH as7 s60 s61 s62
  show _ = (bytes_IndexAny_l24_b m0) (fun s4 => K .ret (frOf [(4, (.dat (.int .i64) s4 none))])) (K (.exit 2) (frOf [])) ((bytes_IndexAny_l24 m0) (fun s4 => K .ret (frOf [(4, (.dat (.int .i64) s4 none))])) (K (.exit 2) (frOf [])) n) n as7 s60 s61 s62
  rw [← ih]
  kernel_rfl
theorem bytes_IndexAny_k24_2_ok (m0 : Int) (n : Nat)  : (kBlockP 2 ((E_bytes_IndexAny m0).cutb 2) (kSeq (evCP (E_bytes_IndexAny m0) (evLP (E_bytes_IndexAny m0) n) (sub C_bytes_IndexAny [1, 1, 1, 1, 0, 1, 0, 1, 1, 0, 1])) (kSeq (evCP (E_bytes_IndexAny m0) (evLP (E_bytes_IndexAny m0) n) (sub C_bytes_IndexAny [1, 1, 1, 1, 1])) (kFnP (E_bytes_IndexAny m0) R_bytes_IndexAny)))) (.exit 2) (frOf []) = (bytes_IndexAny_k24_2 m0) n  := by
  kernel_rfl
theorem bytes_IndexAny_l48_ok (m0 : Int) (K : Ex → Fr → Option AV) : ∀ (n : Nat) (s0 : List UInt8) (chars1 : List UInt8) (width11 : Int) (i12 : Int) (r13 : Int) (s121 : List UInt8) (s121p : Nat), evLP (E_bytes_IndexAny m0) n (sub C_bytes_IndexAny [1, 1, 1, 1, 1, 1, 0, 1, 0, 0, 1, 0, 0, 1, 1, 1, 1, 1, 0, 0]) K (frOf [(0, (.dat (.sl .byte) s0 none)), (1, (.dat .str chars1 none)), (11, (.dat (.int .i64) width11 none)), (12, (.dat (.int .i64) i12 none)), (13, (.dat (.int .i32) r13 none)), (121, (.itr s121 s121p))]) = (bytes_IndexAny_l48 m0) (fun s4 => K .ret (frOf [(4, (.dat (.int .i64) s4 none))])) (fun s0 chars1 width11 i12 => K (.exit 6) (frOf [(0, (.dat (.sl .byte) s0 none)), (1, (.dat .str chars1 none)), (11, (.dat (.int .i64) width11 none)), (12, (.dat (.int .i64) i12 none))])) n s0 chars1 width11 i12 r13 s121 s121p := by
  intro n
  induction n with
  | zero => intros; rfl
  | succ n IH =>
  intro s0 chars1 width11 i12 r13 s121 s121p
  have ih : (fun s0 chars1 width11 i12 r13 s121 s121p => evLP (E_bytes_IndexAny m0) n (sub C_bytes_IndexAny [1, 1, 1, 1, 1, 1, 0, 1, 0, 0, 1, 0, 0, 1, 1, 1, 1, 1, 0, 0]) K (frOf [(0, (.dat (.sl .byte) s0 none)), (1, (.dat .str chars1 none)), (11, (.dat (.int .i64) width11 none)), (12, (.dat (.int .i64) i12 none)), (13, (.dat (.int .i32) r13 none)), (121, (.itr s121 s121p))])) = (bytes_IndexAny_l48 m0) (fun s4 => K .ret (frOf [(4, (.dat (.int .i64) s4 none))])) (fun s0 chars1 width11 i12 => K (.exit 6) (frOf [(0, (.dat (.sl .byte) s0 none)), (1, (.dat .str chars1 none)), (11, (.dat (.int .i64) width11 none)), (12, (.dat (.int .i64) i12 none))])) n := by
    funext s0 chars1 width11 i12 r13 s121 s121p
    exact IH s0 chars1 width11 i12 r13 s121 s121p
  show _ = (bytes_IndexAny_l48_b m0) (fun s4 => K .ret (frOf [(4, (.dat (.int .i64) s4 none))])) (fun s0 chars1 width11 i12 => K (.exit 6) (frOf [(0, (.dat (.sl .byte) s0 none)), (1, (.dat .str chars1 none)), (11, (.dat (.int .i64) width11 none)), (12, (.dat (.int .i64) i12 none))])) ((bytes_IndexAny_l48 m0) (fun s4 => K .ret (frOf [(4, (.dat (.int .i64) s4 none))])) (fun s0 chars1 width11 i12 => K (.exit 6) (frOf [(0, (.dat (.sl .byte) s0 none)), (1, (.dat .str chars1 none)), (11, (.dat (.int .i64) width11 none)), (12, (.dat (.int .i64) i12 none))])) n) n s0 chars1 width11 i12 r13 s121 s121p
  rw [← ih]
  kernel_rfl
theorem bytes_IndexAny_k48_6_ok (m0 : Int) (K : Ex → Fr → Option AV) (n : Nat) (s0 : List UInt8) (chars1 : List UInt8) (width11 : Int) (i12 : Int) : (kBlockP 6 ((E_bytes_IndexAny m0).cutb 6) (kBlockP 5 ((E_bytes_IndexAny m0).cutb 5) (kSeq (evCP (E_bytes_IndexAny m0) (evLP (E_bytes_IndexAny m0) n) (sub C_bytes_IndexAny [1, 1, 1, 1, 1, 1, 0, 1, 0, 0, 1, 1])) (kSeq (fun K fr => evLP (E_bytes_IndexAny m0) n (sub C_bytes_IndexAny [1, 1, 1, 1, 1, 1, 0, 1, 0, 0]) K (cutFP ((E_bytes_IndexAny m0).cuts 32) fr)) K)))) (.exit 6) (frOf [(0, (.dat (.sl .byte) s0 none)), (1, (.dat .str chars1 none)), (11, (.dat (.int .i64) width11 none)), (12, (.dat (.int .i64) i12 none))]) = (bytes_IndexAny_k48_6 m0) (fun s4 => K .ret (frOf [(4, (.dat (.int .i64) s4 none))])) (K (.exit 4) (frOf [])) (fun s0 chars1 i12 => evLP (E_bytes_IndexAny m0) n (sub C_bytes_IndexAny [1, 1, 1, 1, 1, 1, 0, 1, 0, 0]) K (frOf [(0, (.dat (.sl .byte) s0 none)), (1, (.dat .str chars1 none)), (12, (.dat (.int .i64) i12 none))])) n s0 chars1 width11 i12 := by
  kernel_rfl
theorem bytes_IndexAny_l32_ok (m0 : Int) (K : Ex → Fr → Option AV) : ∀ (n : Nat) (s0 : List UInt8) (chars1 : List UInt8) (i12 : Int), evLP (E_bytes_IndexAny m0) n (sub C_bytes_IndexAny [1, 1, 1, 1, 1, 1, 0, 1, 0, 0]) K (frOf [(0, (.dat (.sl .byte) s0 none)), (1, (.dat .str chars1 none)), (12, (.dat (.int .i64) i12 none))]) = (bytes_IndexAny_l32 m0) (fun s4 => K .ret (frOf [(4, (.dat (.int .i64) s4 none))])) (K (.exit 4) (frOf [])) n s0 chars1 i12 := by
  intro n
  induction n with
  | zero => intros; rfl
  | succ n IH =>
  intro s0 chars1 i12
  have ih : (fun s0 chars1 i12 => evLP (E_bytes_IndexAny m0) n (sub C_bytes_IndexAny [1, 1, 1, 1, 1, 1, 0, 1, 0, 0]) K (frOf [(0, (.dat (.sl .byte) s0 none)), (1, (.dat .str chars1 none)), (12, (.dat (.int .i64) i12 none))])) = (bytes_IndexAny_l32 m0) (fun s4 => K .ret (frOf [(4, (.dat (.int .i64) s4 none))])) (K (.exit 4) (frOf [])) n := by
    funext s0 chars1 i12
    exact IH s0 chars1 i12
  show _ = (bytes_IndexAny_l32_b m0) (fun s4 => K .ret (frOf [(4, (.dat (.int .i64) s4 none))])) (K (.exit 4) (frOf [])) ((bytes_IndexAny_l32 m0) (fun s4 => K .ret (frOf [(4, (.dat (.int .i64) s4 none))])) (K (.exit 4) (frOf [])) n) n s0 chars1 i12
  rw [← ih]
  unfold bytes_IndexAny_l32_b
  rw [show (bytes_IndexAny_l48 m0) (fun s4 => K .ret (frOf [(4, (.dat (.int .i64) s4 none))])) ((bytes_IndexAny_k48_6 m0) (fun s4 => K .ret (frOf [(4, (.dat (.int .i64) s4 none))])) (K (.exit 4) (frOf [])) (fun s0 chars1 i12 => evLP (E_bytes_IndexAny m0) n (sub C_bytes_IndexAny [1, 1, 1, 1, 1, 1, 0, 1, 0, 0]) K (frOf [(0, (.dat (.sl .byte) s0 none)), (1, (.dat .str chars1 none)), (12, (.dat (.int .i64) i12 none))])) n) n = (fun s0 chars1 width11 i12 r13 s121 s121p => evLP (E_bytes_IndexAny m0) n (sub C_bytes_IndexAny [1, 1, 1, 1, 1, 1, 0, 1, 0, 0, 1, 0, 0, 1, 1, 1, 1, 1, 0, 0]) (kBlockP 6 ((E_bytes_IndexAny m0).cutb 6) (kBlockP 5 ((E_bytes_IndexAny m0).cutb 5) (kSeq (evCP (E_bytes_IndexAny m0) (evLP (E_bytes_IndexAny m0) n) (sub C_bytes_IndexAny [1, 1, 1, 1, 1, 1, 0, 1, 0, 0, 1, 1])) (kSeq (fun K fr => evLP (E_bytes_IndexAny m0) n (sub C_bytes_IndexAny [1, 1, 1, 1, 1, 1, 0, 1, 0, 0]) K (cutFP ((E_bytes_IndexAny m0).cuts 32) fr)) K)))) (frOf [(0, (.dat (.sl .byte) s0 none)), (1, (.dat .str chars1 none)), (11, (.dat (.int .i64) width11 none)), (12, (.dat (.int .i64) i12 none)), (13, (.dat (.int .i32) r13 none)), (121, (.itr s121 s121p))])) from by
    funext s0 chars1 width11 i12 r13 s121 s121p
    refine Eq.trans ?_ ((bytes_IndexAny_l48_ok m0) (kBlockP 6 ((E_bytes_IndexAny m0).cutb 6) (kBlockP 5 ((E_bytes_IndexAny m0).cutb 5) (kSeq (evCP (E_bytes_IndexAny m0) (evLP (E_bytes_IndexAny m0) n) (sub C_bytes_IndexAny [1, 1, 1, 1, 1, 1, 0, 1, 0, 0, 1, 1])) (kSeq (fun K fr => evLP (E_bytes_IndexAny m0) n (sub C_bytes_IndexAny [1, 1, 1, 1, 1, 1, 0, 1, 0, 0]) K (cutFP ((E_bytes_IndexAny m0).cuts 32) fr)) K)))) n s0 chars1 width11 i12 r13 s121 s121p).symm
    rw [show (fun s0 chars1 width11 i12 => (kBlockP 6 ((E_bytes_IndexAny m0).cutb 6) (kBlockP 5 ((E_bytes_IndexAny m0).cutb 5) (kSeq (evCP (E_bytes_IndexAny m0) (evLP (E_bytes_IndexAny m0) n) (sub C_bytes_IndexAny [1, 1, 1, 1, 1, 1, 0, 1, 0, 0, 1, 1])) (kSeq (fun K fr => evLP (E_bytes_IndexAny m0) n (sub C_bytes_IndexAny [1, 1, 1, 1, 1, 1, 0, 1, 0, 0]) K (cutFP ((E_bytes_IndexAny m0).cuts 32) fr)) K)))) (.exit 6) (frOf [(0, (.dat (.sl .byte) s0 none)), (1, (.dat .str chars1 none)), (11, (.dat (.int .i64) width11 none)), (12, (.dat (.int .i64) i12 none))])) = ((bytes_IndexAny_k48_6 m0) (fun s4 => K .ret (frOf [(4, (.dat (.int .i64) s4 none))])) (K (.exit 4) (frOf [])) (fun s0 chars1 i12 => evLP (E_bytes_IndexAny m0) n (sub C_bytes_IndexAny [1, 1, 1, 1, 1, 1, 0, 1, 0, 0]) K (frOf [(0, (.dat (.sl .byte) s0 none)), (1, (.dat .str chars1 none)), (12, (.dat (.int .i64) i12 none))])) n) from by
      funext s0 chars1 width11 i12
      exact (bytes_IndexAny_k48_6_ok m0) K n s0 chars1 width11 i12]
    all_goals kernel_rfl]
  kernel_rfl
theorem bytes_IndexAny_k32_4_ok (m0 : Int) (n : Nat)  : (kBlockP 4 ((E_bytes_IndexAny m0).cutb 4) (kSeq (evCP (E_bytes_IndexAny m0) (evLP (E_bytes_IndexAny m0) n) (sub C_bytes_IndexAny [1, 1, 1, 1, 1, 1, 1])) (kFnP (E_bytes_IndexAny m0) R_bytes_IndexAny))) (.exit 4) (frOf []) = (bytes_IndexAny_k32_4 m0) n  := by
  kernel_rfl
theorem bytes_IndexAny_ev (m0 : Int) (n : Nat) (s0 : List UInt8) (o0 : Lab) (chars1 : List UInt8) (o1 : Lab) : evFnP (E_bytes_IndexAny m0) n C_bytes_IndexAny R_bytes_IndexAny [.dat (.sl .byte) s0 o0, .dat .str chars1 o1] = (bytes_IndexAny_sh m0) n s0 chars1 := by
  unfold bytes_IndexAny_sh
  rw [show (bytes_IndexAny_l7 m0) bytes_IndexAny_ret ((bytes_IndexAny_k7_0 m0) n) n = (fun s28 s28p => evLP (E_bytes_IndexAny m0) n (sub C_bytes_IndexAny [1, 1, 0, 1, 0, 1, 0, 1, 0, 0, 1, 0, 0]) (kBlockP 0 ((E_bytes_IndexAny m0).cutb 0) (kSeq (evCP (E_bytes_IndexAny m0) (evLP (E_bytes_IndexAny m0) n) (sub C_bytes_IndexAny [1, 1, 0, 1, 0, 1, 0, 1, 0, 1])) (kSeq (evCP (E_bytes_IndexAny m0) (evLP (E_bytes_IndexAny m0) n) (sub C_bytes_IndexAny [1, 1, 0, 1, 0, 1, 1])) (kSeq (evCP (E_bytes_IndexAny m0) (evLP (E_bytes_IndexAny m0) n) (sub C_bytes_IndexAny [1, 1, 1])) (kFnP (E_bytes_IndexAny m0) R_bytes_IndexAny))))) (frOf [(28, (.itr s28 s28p))])) from by
    funext s28 s28p
    refine Eq.trans ?_ ((bytes_IndexAny_l7_ok m0) (kBlockP 0 ((E_bytes_IndexAny m0).cutb 0) (kSeq (evCP (E_bytes_IndexAny m0) (evLP (E_bytes_IndexAny m0) n) (sub C_bytes_IndexAny [1, 1, 0, 1, 0, 1, 0, 1, 0, 1])) (kSeq (evCP (E_bytes_IndexAny m0) (evLP (E_bytes_IndexAny m0) n) (sub C_bytes_IndexAny [1, 1, 0, 1, 0, 1, 1])) (kSeq (evCP (E_bytes_IndexAny m0) (evLP (E_bytes_IndexAny m0) n) (sub C_bytes_IndexAny [1, 1, 1])) (kFnP (E_bytes_IndexAny m0) R_bytes_IndexAny))))) n s28 s28p).symm
    rw [show ((kBlockP 0 ((E_bytes_IndexAny m0).cutb 0) (kSeq (evCP (E_bytes_IndexAny m0) (evLP (E_bytes_IndexAny m0) n) (sub C_bytes_IndexAny [1, 1, 0, 1, 0, 1, 0, 1, 0, 1])) (kSeq (evCP (E_bytes_IndexAny m0) (evLP (E_bytes_IndexAny m0) n) (sub C_bytes_IndexAny [1, 1, 0, 1, 0, 1, 1])) (kSeq (evCP (E_bytes_IndexAny m0) (evLP (E_bytes_IndexAny m0) n) (sub C_bytes_IndexAny [1, 1, 1])) (kFnP (E_bytes_IndexAny m0) R_bytes_IndexAny))))) (.exit 0) (frOf [])) = ((bytes_IndexAny_k7_0 m0) n) from by
      exact (bytes_IndexAny_k7_0_ok m0) n ]
    all_goals kernel_rfl]
  rw [show (bytes_IndexAny_l24 m0) bytes_IndexAny_ret ((bytes_IndexAny_k24_2 m0) n) n = (fun as7 s60 s61 s62 => evLP (E_bytes_IndexAny m0) n (sub C_bytes_IndexAny [1, 1, 1, 1, 0, 1, 0, 1, 1, 0, 0, 1, 0, 0]) (kBlockP 2 ((E_bytes_IndexAny m0).cutb 2) (kSeq (evCP (E_bytes_IndexAny m0) (evLP (E_bytes_IndexAny m0) n) (sub C_bytes_IndexAny [1, 1, 1, 1, 0, 1, 0, 1, 1, 0, 1])) (kSeq (evCP (E_bytes_IndexAny m0) (evLP (E_bytes_IndexAny m0) n) (sub C_bytes_IndexAny [1, 1, 1, 1, 1])) (kFnP (E_bytes_IndexAny m0) R_bytes_IndexAny)))) (frOf [(7, (.adr (.arr 256 .bool) as7)), (60, (.dat (.sl .byte) s60 none)), (61, (.dat (.int .i64) s61 none)), (62, (.dat (.int .i64) s62 none))])) from by
    funext as7 s60 s61 s62
    refine Eq.trans ?_ ((bytes_IndexAny_l24_ok m0) (kBlockP 2 ((E_bytes_IndexAny m0).cutb 2) (kSeq (evCP (E_bytes_IndexAny m0) (evLP (E_bytes_IndexAny m0) n) (sub C_bytes_IndexAny [1, 1, 1, 1, 0, 1, 0, 1, 1, 0, 1])) (kSeq (evCP (E_bytes_IndexAny m0) (evLP (E_bytes_IndexAny m0) n) (sub C_bytes_IndexAny [1, 1, 1, 1, 1])) (kFnP (E_bytes_IndexAny m0) R_bytes_IndexAny)))) n as7 s60 s61 s62).symm
    rw [show ((kBlockP 2 ((E_bytes_IndexAny m0).cutb 2) (kSeq (evCP (E_bytes_IndexAny m0) (evLP (E_bytes_IndexAny m0) n) (sub C_bytes_IndexAny [1, 1, 1, 1, 0, 1, 0, 1, 1, 0, 1])) (kSeq (evCP (E_bytes_IndexAny m0) (evLP (E_bytes_IndexAny m0) n) (sub C_bytes_IndexAny [1, 1, 1, 1, 1])) (kFnP (E_bytes_IndexAny m0) R_bytes_IndexAny)))) (.exit 2) (frOf [])) = ((bytes_IndexAny_k24_2 m0) n) from by
      exact (bytes_IndexAny_k24_2_ok m0) n ]
    all_goals kernel_rfl]
  rw [show (bytes_IndexAny_l32 m0) bytes_IndexAny_ret ((bytes_IndexAny_k32_4 m0) n) n = (fun s0 chars1 i12 => evLP (E_bytes_IndexAny m0) n (sub C_bytes_IndexAny [1, 1, 1, 1, 1, 1, 0, 1, 0, 0]) (kBlockP 4 ((E_bytes_IndexAny m0).cutb 4) (kSeq (evCP (E_bytes_IndexAny m0) (evLP (E_bytes_IndexAny m0) n) (sub C_bytes_IndexAny [1, 1, 1, 1, 1, 1, 1])) (kFnP (E_bytes_IndexAny m0) R_bytes_IndexAny))) (frOf [(0, (.dat (.sl .byte) s0 none)), (1, (.dat .str chars1 none)), (12, (.dat (.int .i64) i12 none))])) from by
    funext s0 chars1 i12
    refine Eq.trans ?_ ((bytes_IndexAny_l32_ok m0) (kBlockP 4 ((E_bytes_IndexAny m0).cutb 4) (kSeq (evCP (E_bytes_IndexAny m0) (evLP (E_bytes_IndexAny m0) n) (sub C_bytes_IndexAny [1, 1, 1, 1, 1, 1, 1])) (kFnP (E_bytes_IndexAny m0) R_bytes_IndexAny))) n s0 chars1 i12).symm
    rw [show ((kBlockP 4 ((E_bytes_IndexAny m0).cutb 4) (kSeq (evCP (E_bytes_IndexAny m0) (evLP (E_bytes_IndexAny m0) n) (sub C_bytes_IndexAny [1, 1, 1, 1, 1, 1, 1])) (kFnP (E_bytes_IndexAny m0) R_bytes_IndexAny))) (.exit 4) (frOf [])) = ((bytes_IndexAny_k32_4 m0) n) from by
      exact (bytes_IndexAny_k32_4_ok m0) n ]
    all_goals kernel_rfl]
  kernel_rfl
theorem bytes_IndexAny_soundm (m0 : Int) : SoundG (Gm m0) Tryd.prog 27 s_bytes_IndexAny := by
  refine sound_of_evP' (Gm_stays m0) (E := E_bytes_IndexAny m0) (fn := Tryd.f27) (c := C_bytes_IndexAny) (tyOk_of_table rfl tis_ok) (fun w S hg => ⟨⟨(fns_cons (bytes_makeASCIISet_sound w S (G_of m0 hg)) (fns_cons (internal_bytealg_IndexByteString_sound w S (G_of m0 hg)) (fns_cons (bytes_IndexRune_sound w S (G_of m0 hg)) (fns_cons (bytes_shouldUseASCIISet_sound w S (G_of m0 hg)) (fns_cons (__bytes_asciiSet__contains_sound w S (G_of m0 hg)) (fns_cons (unicode_utf8_DecodeRune_sound w S (G_of m0 hg)) (fns_cons (internal_bytealg_IndexString_sound m0 w S hg) fns_nil))))))), fun f sp h => cns_nil f sp h w S⟩, hg.2⟩) follows Tryd.func27 (by kernel_rfl) (by kernel_rfl) (by kernel_rfl) ?_
  intro avs r h
  unfold s_bytes_IndexAny at h
  split at h
  · simp only [Prod.mk.injEq] at h
    obtain ⟨hp, rfl⟩ := h
    obtain ⟨n, hn⟩ := bytes_IndexAny_math m0 _ _ hp
    exact ⟨n, _, (bytes_IndexAny_ev m0 n _ _ _ _).trans hn, .inl rfl⟩
  · cases h
theorem bytes_IndexAny_sound : SoundG G Tryd.prog 27 s_bytes_IndexAny := fun w S hg => by obtain ⟨m, h⟩ := G_to hg; exact bytes_IndexAny_soundm m w S h

end Go.Av
