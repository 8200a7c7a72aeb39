import Derived.Test.YtejhjmmdachijaaDoorQpEvB
import Derived.Test.YtejhjmmdachijaaDoorQpN
import Derived.Test.YtejhjmmdachijaaDoorProg
import Derived.KernelRfl
namespace Go.Av
open Go.Proofs
set_option maxRecDepth 100000
set_option linter.unusedVariables false
/-! (*bytes.asciiSet).contains -/

noncomputable def E___bytes_asciiSet__contains : EnvP := ⟨⟨tiOf tis, fnsOf [], cnsOf [], [], 10, (fun _ => none), (fun _ => none), some [4]⟩, fun _ => none, fun _ => none, fun _ => [], fun _ => none⟩
noncomputable def C___bytes_asciiSet__contains : Code := Tryd.f85.body.getD .skip
noncomputable def R___bytes_asciiSet__contains : Array ResultVar := Tryd.f85.results
theorem __bytes_asciiSet__contains_ev (n : Nat) (as0 : List Bool) (c1 : UInt8) (o1 : Lab) : evFnP E___bytes_asciiSet__contains n C___bytes_asciiSet__contains R___bytes_asciiSet__contains [.adr (.arr 256 .bool) as0, .dat .byte c1 o1] = __bytes_asciiSet__contains_sh n as0 c1 := by
  kernel_rfl
theorem __bytes_asciiSet__contains_sound : SoundG G Tryd.prog 85 s___bytes_asciiSet__contains := by
  refine sound_of_evP' G_stays (E := E___bytes_asciiSet__contains) (fn := Tryd.f85) (c := C___bytes_asciiSet__contains) (tyOk_of_table rfl tis_ok) (fun w S hg => ⟨⟨fns_nil, fun f sp h => cns_nil f sp h w S⟩, gl_none w S hg, fun _ _ h => by cases h⟩) follows Tryd.func85 (by kernel_rfl) (by kernel_rfl) (by kernel_rfl) ?_
  intro avs r h
  unfold s___bytes_asciiSet__contains at h
  split at h
  · simp only [Prod.mk.injEq, true_and] at h
    subst h
    obtain ⟨n, hn⟩ := __bytes_asciiSet__contains_math _ _
    exact ⟨n, _, (__bytes_asciiSet__contains_ev n _ _ _).trans hn, .inl rfl⟩
  · cases h

/-! bytes.IndexAny -/

noncomputable def E_bytes_IndexAny (m0 : Int) : EnvP := ⟨⟨tiOf tis, fnsOf [(78, s_bytes_makeASCIISet), (82, s_internal_bytealg_IndexByteString), (83, s_bytes_IndexRune), (84, s_bytes_shouldUseASCIISet), (85, s___bytes_asciiSet__contains), (86, s_unicode_utf8_DecodeRune), (87, (s_internal_bytealg_IndexString m0))], cnsOf [], [], 129, (fun x => if x = 7 then some [28] else if x = 24 then some [7, 60, 61, 62] else if x = 32 then some [0, 1, 12] else if x = 48 then some [0, 1, 11, 12, 13, 121] else none), (fun x => if x = 0 then some [] else if x = 1 then some [28] else if x = 2 then some [] else if x = 3 then some [7, 60, 61, 62] else if x = 4 then some [] else if x = 5 then some [0, 1, 11, 12] else if x = 6 then some [0, 1, 11, 12] else if x = 7 then some [0, 1, 11, 12, 13, 121] else none), some [4]⟩, fun _ => none, glm m0, (fun x => if x = 24 then [7] else []), fun _ => none⟩
noncomputable def C_bytes_IndexAny : Code := Tryd.f63.body.getD .skip
noncomputable def R_bytes_IndexAny : Array ResultVar := Tryd.f63.results
theorem bytes_IndexAny_l7_ok (m0 : Int) (K : Ex → Fr → Option AV) : ∀ (n : Nat) (s28 : List UInt8) (s28p : Nat), evLP (E_bytes_IndexAny m0) n (sub C_bytes_IndexAny [1, 1, 0, 1, 0, 1, 0, 1, 0, 0, 1, 0, 0]) K (frOf [(28, (.itr s28 s28p))]) = (bytes_IndexAny_l7 m0) (fun s4 => K .ret (frOf [(4, (.dat (.int .i64) s4 none))])) (K (.exit 0) (frOf [])) n s28 s28p := by
  intro n
  induction n with
  | zero => intros; rfl
  | succ n IH =>
  intro s28 s28p
  have ih : (fun s28 s28p => evLP (E_bytes_IndexAny m0) n (sub C_bytes_IndexAny [1, 1, 0, 1, 0, 1, 0, 1, 0, 0, 1, 0, 0]) K (frOf [(28, (.itr s28 s28p))])) = (bytes_IndexAny_l7 m0) (fun s4 => K .ret (frOf [(4, (.dat (.int .i64) s4 none))])) (K (.exit 0) (frOf [])) n := by
    funext s28 s28p
    exact IH s28 s28p
  show _ = (bytes_IndexAny_l7_b m0) (fun s4 => K .ret (frOf [(4, (.dat (.int .i64) s4 none))])) (K (.exit 0) (frOf [])) ((bytes_IndexAny_l7 m0) (fun s4 => K .ret (frOf [(4, (.dat (.int .i64) s4 none))])) (K (.exit 0) (frOf [])) n) n s28 s28p
  rw [← ih]
  kernel_rfl
theorem bytes_IndexAny_k7_0_ok (m0 : Int) (n : Nat)  : (kBlockP 0 ((E_bytes_IndexAny m0).cutb 0) (kSeq (evCP (E_bytes_IndexAny m0) (evLP (E_bytes_IndexAny m0) n) (sub C_bytes_IndexAny [1, 1, 0, 1, 0, 1, 0, 1, 0, 1])) (kSeq (evCP (E_bytes_IndexAny m0) (evLP (E_bytes_IndexAny m0) n) (sub C_bytes_IndexAny [1, 1, 0, 1, 0, 1, 1])) (kSeq (evCP (E_bytes_IndexAny m0) (evLP (E_bytes_IndexAny m0) n) (sub C_bytes_IndexAny [1, 1, 1])) (kFnP (E_bytes_IndexAny m0) R_bytes_IndexAny))))) (.exit 0) (frOf []) = (bytes_IndexAny_k7_0 m0) n  := by
  kernel_rfl
theorem bytes_IndexAny_l24_ok (m0 : Int) (K : Ex → Fr → Option AV) : ∀ (n : Nat) (as7 : List Bool) (s60 : List UInt8) (s61 : Int) (s62 : Int), evLP (E_bytes_IndexAny m0) n (sub C_bytes_IndexAny [1, 1, 1, 1, 0, 1, 0, 1, 1, 0, 0, 1, 0, 0]) K (frOf [(7, (.adr (.arr 256 .bool) as7)), (60, (.dat (.sl .byte) s60 none)), (61, (.dat (.int .i64) s61 none)), (62, (.dat (.int .i64) s62 none))]) = (bytes_IndexAny_l24 m0) (fun s4 => K .ret (frOf [(4, (.dat (.int .i64) s4 none))])) (K (.exit 2) (frOf [])) n as7 s60 s61 s62 := by
  intro n
  induction n with
  | zero => intros; rfl
  | succ n IH =>
  intro as7 s60 s61 s62
  have ih : (fun as7 s60 s61 s62 => evLP (E_bytes_IndexAny m0) n (sub C_bytes_IndexAny [1, 1, 1, 1, 0, 1, 0, 1, 1, 0, 0, 1, 0, 0]) K (frOf [(7, (.adr (.arr 256 .bool) as7)), (60, (.dat (.sl .byte) s60 none)), (61, (.dat (.int .i64) s61 none)), (62, (.dat (.int .i64) s62 none))])) = (bytes_IndexAny_l24 m0) (fun s4 => K .ret (frOf [(4, (.dat (.int .i64) s4 none))])) (K (.exit 2) (frOf [])) n := by
    funext as7 s60 s61 s62
    exact IH as7 s60 s61 s62
  show _ = (bytes_IndexAny_l24_b m0) (fun s4 => K .ret (frOf [(4, (.dat (.int .i64) s4 none))])) (K (.exit 2) (frOf [])) ((bytes_IndexAny_l24 m0) (fun s4 => K .ret (frOf [(4, (.dat (.int .i64) s4 none))])) (K (.exit 2) (frOf [])) n) n as7 s60 s61 s62
  rw [← ih]
  kernel_rfl
theorem bytes_IndexAny_k24_2_ok (m0 : Int) (n : Nat)  : (kBlockP 2 ((E_bytes_IndexAny m0).cutb 2) (kSeq (evCP (E_bytes_IndexAny m0) (evLP (E_bytes_IndexAny m0) n) (sub C_bytes_IndexAny [1, 1, 1, 1, 0, 1, 0, 1, 1, 0, 1])) (kSeq (evCP (E_bytes_IndexAny m0) (evLP (E_bytes_IndexAny m0) n) (sub C_bytes_IndexAny [1, 1, 1, 1, 1])) (kFnP (E_bytes_IndexAny m0) R_bytes_IndexAny)))) (.exit 2) (frOf []) = (bytes_IndexAny_k24_2 m0) n  := by
  kernel_rfl
theorem bytes_IndexAny_l48_ok (m0 : Int) (K : Ex → Fr → Option AV) : ∀ (n : Nat) (s0 : List UInt8) (chars1 : List UInt8) (width11 : Int) (i12 : Int) (r13 : Int) (s121 : List UInt8) (s121p : Nat), evLP (E_bytes_IndexAny m0) n (sub C_bytes_IndexAny [1, 1, 1, 1, 1, 1, 0, 1, 0, 0, 1, 0, 0, 1, 1, 1, 1, 1, 0, 0]) K (frOf [(0, (.dat (.sl .byte) s0 none)), (1, (.dat .str chars1 none)), (11, (.dat (.int .i64) width11 none)), (12, (.dat (.int .i64) i12 none)), (13, (.dat (.int .i32) r13 none)), (121, (.itr s121 s121p))]) = (bytes_IndexAny_l48 m0) (fun s4 => K .ret (frOf [(4, (.dat (.int .i64) s4 none))])) (fun s0 chars1 width11 i12 => K (.exit 6) (frOf [(0, (.dat (.sl .byte) s0 none)), (1, (.dat .str chars1 none)), (11, (.dat (.int .i64) width11 none)), (12, (.dat (.int .i64) i12 none))])) n s0 chars1 width11 i12 r13 s121 s121p := by
  intro n
  induction n with
  | zero => intros; rfl
  | succ n IH =>
  intro s0 chars1 width11 i12 r13 s121 s121p
  have ih : (fun s0 chars1 width11 i12 r13 s121 s121p => evLP (E_bytes_IndexAny m0) n (sub C_bytes_IndexAny [1, 1, 1, 1, 1, 1, 0, 1, 0, 0, 1, 0, 0, 1, 1, 1, 1, 1, 0, 0]) K (frOf [(0, (.dat (.sl .byte) s0 none)), (1, (.dat .str chars1 none)), (11, (.dat (.int .i64) width11 none)), (12, (.dat (.int .i64) i12 none)), (13, (.dat (.int .i32) r13 none)), (121, (.itr s121 s121p))])) = (bytes_IndexAny_l48 m0) (fun s4 => K .ret (frOf [(4, (.dat (.int .i64) s4 none))])) (fun s0 chars1 width11 i12 => K (.exit 6) (frOf [(0, (.dat (.sl .byte) s0 none)), (1, (.dat .str chars1 none)), (11, (.dat (.int .i64) width11 none)), (12, (.dat (.int .i64) i12 none))])) n := by
    funext s0 chars1 width11 i12 r13 s121 s121p
    exact IH s0 chars1 width11 i12 r13 s121 s121p
  show _ = (bytes_IndexAny_l48_b m0) (fun s4 => K .ret (frOf [(4, (.dat (.int .i64) s4 none))])) (fun s0 chars1 width11 i12 => K (.exit 6) (frOf [(0, (.dat (.sl .byte) s0 none)), (1, (.dat .str chars1 none)), (11, (.dat (.int .i64) width11 none)), (12, (.dat (.int .i64) i12 none))])) ((bytes_IndexAny_l48 m0) (fun s4 => K .ret (frOf [(4, (.dat (.int .i64) s4 none))])) (fun s0 chars1 width11 i12 => K (.exit 6) (frOf [(0, (.dat (.sl .byte) s0 none)), (1, (.dat .str chars1 none)), (11, (.dat (.int .i64) width11 none)), (12, (.dat (.int .i64) i12 none))])) n) n s0 chars1 width11 i12 r13 s121 s121p
  rw [← ih]
  kernel_rfl
theorem bytes_IndexAny_k48_6_ok (m0 : Int) (K : Ex → Fr → Option AV) (n : Nat) (s0 : List UInt8) (chars1 : List UInt8) (width11 : Int) (i12 : Int) : (kBlockP 6 ((E_bytes_IndexAny m0).cutb 6) (kBlockP 5 ((E_bytes_IndexAny m0).cutb 5) (kSeq (evCP (E_bytes_IndexAny m0) (evLP (E_bytes_IndexAny m0) n) (sub C_bytes_IndexAny [1, 1, 1, 1, 1, 1, 0, 1, 0, 0, 1, 1])) (kSeq (fun K fr => evLP (E_bytes_IndexAny m0) n (sub C_bytes_IndexAny [1, 1, 1, 1, 1, 1, 0, 1, 0, 0]) K (cutFP ((E_bytes_IndexAny m0).cuts 32) fr)) K)))) (.exit 6) (frOf [(0, (.dat (.sl .byte) s0 none)), (1, (.dat .str chars1 none)), (11, (.dat (.int .i64) width11 none)), (12, (.dat (.int .i64) i12 none))]) = (bytes_IndexAny_k48_6 m0) (fun s4 => K .ret (frOf [(4, (.dat (.int .i64) s4 none))])) (K (.exit 4) (frOf [])) (fun s0 chars1 i12 => evLP (E_bytes_IndexAny m0) n (sub C_bytes_IndexAny [1, 1, 1, 1, 1, 1, 0, 1, 0, 0]) K (frOf [(0, (.dat (.sl .byte) s0 none)), (1, (.dat .str chars1 none)), (12, (.dat (.int .i64) i12 none))])) n s0 chars1 width11 i12 := by
  kernel_rfl
theorem bytes_IndexAny_l32_ok (m0 : Int) (K : Ex → Fr → Option AV) : ∀ (n : Nat) (s0 : List UInt8) (chars1 : List UInt8) (i12 : Int), evLP (E_bytes_IndexAny m0) n (sub C_bytes_IndexAny [1, 1, 1, 1, 1, 1, 0, 1, 0, 0]) K (frOf [(0, (.dat (.sl .byte) s0 none)), (1, (.dat .str chars1 none)), (12, (.dat (.int .i64) i12 none))]) = (bytes_IndexAny_l32 m0) (fun s4 => K .ret (frOf [(4, (.dat (.int .i64) s4 none))])) (K (.exit 4) (frOf [])) n s0 chars1 i12 := by
  intro n
  induction n with
  | zero => intros; rfl
  | succ n IH =>
  intro s0 chars1 i12
  have ih : (fun s0 chars1 i12 => evLP (E_bytes_IndexAny m0) n (sub C_bytes_IndexAny [1, 1, 1, 1, 1, 1, 0, 1, 0, 0]) K (frOf [(0, (.dat (.sl .byte) s0 none)), (1, (.dat .str chars1 none)), (12, (.dat (.int .i64) i12 none))])) = (bytes_IndexAny_l32 m0) (fun s4 => K .ret (frOf [(4, (.dat (.int .i64) s4 none))])) (K (.exit 4) (frOf [])) n := by
    funext s0 chars1 i12
    exact IH s0 chars1 i12
  show _ = (bytes_IndexAny_l32_b m0) (fun s4 => K .ret (frOf [(4, (.dat (.int .i64) s4 none))])) (K (.exit 4) (frOf [])) ((bytes_IndexAny_l32 m0) (fun s4 => K .ret (frOf [(4, (.dat (.int .i64) s4 none))])) (K (.exit 4) (frOf [])) n) n s0 chars1 i12
  rw [← ih]
  unfold bytes_IndexAny_l32_b
  rw [show (bytes_IndexAny_l48 m0) (fun s4 => K .ret (frOf [(4, (.dat (.int .i64) s4 none))])) ((bytes_IndexAny_k48_6 m0) (fun s4 => K .ret (frOf [(4, (.dat (.int .i64) s4 none))])) (K (.exit 4) (frOf [])) (fun s0 chars1 i12 => evLP (E_bytes_IndexAny m0) n (sub C_bytes_IndexAny [1, 1, 1, 1, 1, 1, 0, 1, 0, 0]) K (frOf [(0, (.dat (.sl .byte) s0 none)), (1, (.dat .str chars1 none)), (12, (.dat (.int .i64) i12 none))])) n) n = (fun s0 chars1 width11 i12 r13 s121 s121p => evLP (E_bytes_IndexAny m0) n (sub C_bytes_IndexAny [1, 1, 1, 1, 1, 1, 0, 1, 0, 0, 1, 0, 0, 1, 1, 1, 1, 1, 0, 0]) (kBlockP 6 ((E_bytes_IndexAny m0).cutb 6) (kBlockP 5 ((E_bytes_IndexAny m0).cutb 5) (kSeq (evCP (E_bytes_IndexAny m0) (evLP (E_bytes_IndexAny m0) n) (sub C_bytes_IndexAny [1, 1, 1, 1, 1, 1, 0, 1, 0, 0, 1, 1])) (kSeq (fun K fr => evLP (E_bytes_IndexAny m0) n (sub C_bytes_IndexAny [1, 1, 1, 1, 1, 1, 0, 1, 0, 0]) K (cutFP ((E_bytes_IndexAny m0).cuts 32) fr)) K)))) (frOf [(0, (.dat (.sl .byte) s0 none)), (1, (.dat .str chars1 none)), (11, (.dat (.int .i64) width11 none)), (12, (.dat (.int .i64) i12 none)), (13, (.dat (.int .i32) r13 none)), (121, (.itr s121 s121p))])) from by
    funext s0 chars1 width11 i12 r13 s121 s121p
    refine Eq.trans ?_ ((bytes_IndexAny_l48_ok m0) (kBlockP 6 ((E_bytes_IndexAny m0).cutb 6) (kBlockP 5 ((E_bytes_IndexAny m0).cutb 5) (kSeq (evCP (E_bytes_IndexAny m0) (evLP (E_bytes_IndexAny m0) n) (sub C_bytes_IndexAny [1, 1, 1, 1, 1, 1, 0, 1, 0, 0, 1, 1])) (kSeq (fun K fr => evLP (E_bytes_IndexAny m0) n (sub C_bytes_IndexAny [1, 1, 1, 1, 1, 1, 0, 1, 0, 0]) K (cutFP ((E_bytes_IndexAny m0).cuts 32) fr)) K)))) n s0 chars1 width11 i12 r13 s121 s121p).symm
    rw [show (fun s0 chars1 width11 i12 => (kBlockP 6 ((E_bytes_IndexAny m0).cutb 6) (kBlockP 5 ((E_bytes_IndexAny m0).cutb 5) (kSeq (evCP (E_bytes_IndexAny m0) (evLP (E_bytes_IndexAny m0) n) (sub C_bytes_IndexAny [1, 1, 1, 1, 1, 1, 0, 1, 0, 0, 1, 1])) (kSeq (fun K fr => evLP (E_bytes_IndexAny m0) n (sub C_bytes_IndexAny [1, 1, 1, 1, 1, 1, 0, 1, 0, 0]) K (cutFP ((E_bytes_IndexAny m0).cuts 32) fr)) K)))) (.exit 6) (frOf [(0, (.dat (.sl .byte) s0 none)), (1, (.dat .str chars1 none)), (11, (.dat (.int .i64) width11 none)), (12, (.dat (.int .i64) i12 none))])) = ((bytes_IndexAny_k48_6 m0) (fun s4 => K .ret (frOf [(4, (.dat (.int .i64) s4 none))])) (K (.exit 4) (frOf [])) (fun s0 chars1 i12 => evLP (E_bytes_IndexAny m0) n (sub C_bytes_IndexAny [1, 1, 1, 1, 1, 1, 0, 1, 0, 0]) K (frOf [(0, (.dat (.sl .byte) s0 none)), (1, (.dat .str chars1 none)), (12, (.dat (.int .i64) i12 none))])) n) from by
      funext s0 chars1 width11 i12
      exact (bytes_IndexAny_k48_6_ok m0) K n s0 chars1 width11 i12]
    all_goals kernel_rfl]
  kernel_rfl
theorem bytes_IndexAny_k32_4_ok (m0 : Int) (n : Nat)  : (kBlockP 4 ((E_bytes_IndexAny m0).cutb 4) (kSeq (evCP (E_bytes_IndexAny m0) (evLP (E_bytes_IndexAny m0) n) (sub C_bytes_IndexAny [1, 1, 1, 1, 1, 1, 1])) (kFnP (E_bytes_IndexAny m0) R_bytes_IndexAny))) (.exit 4) (frOf []) = (bytes_IndexAny_k32_4 m0) n  := by
  kernel_rfl
theorem bytes_IndexAny_ev (m0 : Int) (n : Nat) (s0 : List UInt8) (o0 : Lab) (chars1 : List UInt8) (o1 : Lab) : evFnP (E_bytes_IndexAny m0) n C_bytes_IndexAny R_bytes_IndexAny [.dat (.sl .byte) s0 o0, .dat .str chars1 o1] = (bytes_IndexAny_sh m0) n s0 chars1 := by
  unfold bytes_IndexAny_sh
  rw [show (bytes_IndexAny_l7 m0) bytes_IndexAny_ret ((bytes_IndexAny_k7_0 m0) n) n = (fun s28 s28p => evLP (E_bytes_IndexAny m0) n (sub C_bytes_IndexAny [1, 1, 0, 1, 0, 1, 0, 1, 0, 0, 1, 0, 0]) (kBlockP 0 ((E_bytes_IndexAny m0).cutb 0) (kSeq (evCP (E_bytes_IndexAny m0) (evLP (E_bytes_IndexAny m0) n) (sub C_bytes_IndexAny [1, 1, 0, 1, 0, 1, 0, 1, 0, 1])) (kSeq (evCP (E_bytes_IndexAny m0) (evLP (E_bytes_IndexAny m0) n) (sub C_bytes_IndexAny [1, 1, 0, 1, 0, 1, 1])) (kSeq (evCP (E_bytes_IndexAny m0) (evLP (E_bytes_IndexAny m0) n) (sub C_bytes_IndexAny [1, 1, 1])) (kFnP (E_bytes_IndexAny m0) R_bytes_IndexAny))))) (frOf [(28, (.itr s28 s28p))])) from by
    funext s28 s28p
    refine Eq.trans ?_ ((bytes_IndexAny_l7_ok m0) (kBlockP 0 ((E_bytes_IndexAny m0).cutb 0) (kSeq (evCP (E_bytes_IndexAny m0) (evLP (E_bytes_IndexAny m0) n) (sub C_bytes_IndexAny [1, 1, 0, 1, 0, 1, 0, 1, 0, 1])) (kSeq (evCP (E_bytes_IndexAny m0) (evLP (E_bytes_IndexAny m0) n) (sub C_bytes_IndexAny [1, 1, 0, 1, 0, 1, 1])) (kSeq (evCP (E_bytes_IndexAny m0) (evLP (E_bytes_IndexAny m0) n) (sub C_bytes_IndexAny [1, 1, 1])) (kFnP (E_bytes_IndexAny m0) R_bytes_IndexAny))))) n s28 s28p).symm
    rw [show ((kBlockP 0 ((E_bytes_IndexAny m0).cutb 0) (kSeq (evCP (E_bytes_IndexAny m0) (evLP (E_bytes_IndexAny m0) n) (sub C_bytes_IndexAny [1, 1, 0, 1, 0, 1, 0, 1, 0, 1])) (kSeq (evCP (E_bytes_IndexAny m0) (evLP (E_bytes_IndexAny m0) n) (sub C_bytes_IndexAny [1, 1, 0, 1, 0, 1, 1])) (kSeq (evCP (E_bytes_IndexAny m0) (evLP (E_bytes_IndexAny m0) n) (sub C_bytes_IndexAny [1, 1, 1])) (kFnP (E_bytes_IndexAny m0) R_bytes_IndexAny))))) (.exit 0) (frOf [])) = ((bytes_IndexAny_k7_0 m0) n) from by
      exact (bytes_IndexAny_k7_0_ok m0) n ]
    all_goals kernel_rfl]
  rw [show (bytes_IndexAny_l24 m0) bytes_IndexAny_ret ((bytes_IndexAny_k24_2 m0) n) n = (fun as7 s60 s61 s62 => evLP (E_bytes_IndexAny m0) n (sub C_bytes_IndexAny [1, 1, 1, 1, 0, 1, 0, 1, 1, 0, 0, 1, 0, 0]) (kBlockP 2 ((E_bytes_IndexAny m0).cutb 2) (kSeq (evCP (E_bytes_IndexAny m0) (evLP (E_bytes_IndexAny m0) n) (sub C_bytes_IndexAny [1, 1, 1, 1, 0, 1, 0, 1, 1, 0, 1])) (kSeq (evCP (E_bytes_IndexAny m0) (evLP (E_bytes_IndexAny m0) n) (sub C_bytes_IndexAny [1, 1, 1, 1, 1])) (kFnP (E_bytes_IndexAny m0) R_bytes_IndexAny)))) (frOf [(7, (.adr (.arr 256 .bool) as7)), (60, (.dat (.sl .byte) s60 none)), (61, (.dat (.int .i64) s61 none)), (62, (.dat (.int .i64) s62 none))])) from by
    funext as7 s60 s61 s62
    refine Eq.trans ?_ ((bytes_IndexAny_l24_ok m0) (kBlockP 2 ((E_bytes_IndexAny m0).cutb 2) (kSeq (evCP (E_bytes_IndexAny m0) (evLP (E_bytes_IndexAny m0) n) (sub C_bytes_IndexAny [1, 1, 1, 1, 0, 1, 0, 1, 1, 0, 1])) (kSeq (evCP (E_bytes_IndexAny m0) (evLP (E_bytes_IndexAny m0) n) (sub C_bytes_IndexAny [1, 1, 1, 1, 1])) (kFnP (E_bytes_IndexAny m0) R_bytes_IndexAny)))) n as7 s60 s61 s62).symm
    rw [show ((kBlockP 2 ((E_bytes_IndexAny m0).cutb 2) (kSeq (evCP (E_bytes_IndexAny m0) (evLP (E_bytes_IndexAny m0) n) (sub C_bytes_IndexAny [1, 1, 1, 1, 0, 1, 0, 1, 1, 0, 1])) (kSeq (evCP (E_bytes_IndexAny m0) (evLP (E_bytes_IndexAny m0) n) (sub C_bytes_IndexAny [1, 1, 1, 1, 1])) (kFnP (E_bytes_IndexAny m0) R_bytes_IndexAny)))) (.exit 2) (frOf [])) = ((bytes_IndexAny_k24_2 m0) n) from by
      exact (bytes_IndexAny_k24_2_ok m0) n ]
    all_goals kernel_rfl]
  rw [show (bytes_IndexAny_l32 m0) bytes_IndexAny_ret ((bytes_IndexAny_k32_4 m0) n) n = (fun s0 chars1 i12 => evLP (E_bytes_IndexAny m0) n (sub C_bytes_IndexAny [1, 1, 1, 1, 1, 1, 0, 1, 0, 0]) (kBlockP 4 ((E_bytes_IndexAny m0).cutb 4) (kSeq (evCP (E_bytes_IndexAny m0) (evLP (E_bytes_IndexAny m0) n) (sub C_bytes_IndexAny [1, 1, 1, 1, 1, 1, 1])) (kFnP (E_bytes_IndexAny m0) R_bytes_IndexAny))) (frOf [(0, (.dat (.sl .byte) s0 none)), (1, (.dat .str chars1 none)), (12, (.dat (.int .i64) i12 none))])) from by
    funext s0 chars1 i12
    refine Eq.trans ?_ ((bytes_IndexAny_l32_ok m0) (kBlockP 4 ((E_bytes_IndexAny m0).cutb 4) (kSeq (evCP (E_bytes_IndexAny m0) (evLP (E_bytes_IndexAny m0) n) (sub C_bytes_IndexAny [1, 1, 1, 1, 1, 1, 1])) (kFnP (E_bytes_IndexAny m0) R_bytes_IndexAny))) n s0 chars1 i12).symm
    rw [show ((kBlockP 4 ((E_bytes_IndexAny m0).cutb 4) (kSeq (evCP (E_bytes_IndexAny m0) (evLP (E_bytes_IndexAny m0) n) (sub C_bytes_IndexAny [1, 1, 1, 1, 1, 1, 1])) (kFnP (E_bytes_IndexAny m0) R_bytes_IndexAny))) (.exit 4) (frOf [])) = ((bytes_IndexAny_k32_4 m0) n) from by
      exact (bytes_IndexAny_k32_4_ok m0) n ]
    all_goals kernel_rfl]
  kernel_rfl
theorem bytes_IndexAny_soundm (m0 : Int) : SoundG (Gm m0) Tryd.prog 63 s_bytes_IndexAny := by
  refine sound_of_evP' (Gm_stays m0) (E := E_bytes_IndexAny m0) (fn := Tryd.f63) (c := C_bytes_IndexAny) (tyOk_of_table rfl tis_ok) (fun w S hg => ⟨⟨(fns_cons (bytes_makeASCIISet_sound w S (G_of m0 hg)) (fns_cons (internal_bytealg_IndexByteString_sound w S (G_of m0 hg)) (fns_cons (bytes_IndexRune_sound w S (G_of m0 hg)) (fns_cons (bytes_shouldUseASCIISet_sound w S (G_of m0 hg)) (fns_cons (__bytes_asciiSet__contains_sound w S (G_of m0 hg)) (fns_cons (unicode_utf8_DecodeRune_sound w S (G_of m0 hg)) (fns_cons (internal_bytealg_IndexString_sound m0 w S hg) fns_nil))))))), fun f sp h => cns_nil f sp h w S⟩, hg.2, fun _ _ h => by cases h⟩) follows Tryd.func63 (by kernel_rfl) (by kernel_rfl) (by kernel_rfl) ?_
  intro avs r h
  unfold s_bytes_IndexAny at h
  split at h
  · simp only [Prod.mk.injEq] at h
    obtain ⟨hp, rfl⟩ := h
    obtain ⟨n, hn⟩ := bytes_IndexAny_math m0 _ _ hp
    exact ⟨n, _, (bytes_IndexAny_ev m0 n _ _ _ _).trans hn, .inl rfl⟩
  · cases h
theorem bytes_IndexAny_sound : SoundG G Tryd.prog 63 s_bytes_IndexAny := fun w S hg => by obtain ⟨m, h⟩ := G_to hg; exact bytes_IndexAny_soundm m w S h

/-! bytes.ContainsAny -/

noncomputable def E_bytes_ContainsAny : EnvP := ⟨⟨tiOf tis, fnsOf [(63, s_bytes_IndexAny)], cnsOf [], [], 9, (fun _ => none), (fun _ => none), some [4]⟩, fun _ => none, fun _ => none, fun _ => [], fun _ => none⟩
noncomputable def C_bytes_ContainsAny : Code := Tryd.f71.body.getD .skip
noncomputable def R_bytes_ContainsAny : Array ResultVar := Tryd.f71.results
theorem bytes_ContainsAny_ev (n : Nat) (b0 : List UInt8) (o0 : Lab) (chars1 : List UInt8) (o1 : Lab) : evFnP E_bytes_ContainsAny n C_bytes_ContainsAny R_bytes_ContainsAny [.dat (.sl .byte) b0 o0, .dat .str chars1 o1] = bytes_ContainsAny_sh n b0 chars1 := by
  kernel_rfl
theorem bytes_ContainsAny_sound : SoundG G Tryd.prog 71 s_bytes_ContainsAny := by
  refine sound_of_evP' G_stays (E := E_bytes_ContainsAny) (fn := Tryd.f71) (c := C_bytes_ContainsAny) (tyOk_of_table rfl tis_ok) (fun w S hg => ⟨⟨(fns_cons (bytes_IndexAny_sound w S hg) fns_nil), fun f sp h => cns_nil f sp h w S⟩, gl_none w S hg, fun _ _ h => by cases h⟩) follows Tryd.func71 (by kernel_rfl) (by kernel_rfl) (by kernel_rfl) ?_
  intro avs r h
  unfold s_bytes_ContainsAny at h
  split at h
  · simp only [Prod.mk.injEq] at h
    obtain ⟨hp, rfl⟩ := h
    obtain ⟨n, hn⟩ := bytes_ContainsAny_math _ _ hp
    exact ⟨n, _, (bytes_ContainsAny_ev n _ _ _ _).trans hn, .inl rfl⟩
  · cases h

/-! sheave/hexa.Capital -/

noncomputable def E_hexa_Capital : EnvP := ⟨⟨tiOf tis, fnsOf [(71, s_bytes_ContainsAny)], cnsOf [], [], 6, (fun _ => none), (fun _ => none), some [2]⟩, fun _ => none, fun _ => none, fun _ => [], fun _ => none⟩
noncomputable def C_hexa_Capital : Code := Tryd.f51.body.getD .skip
noncomputable def R_hexa_Capital : Array ResultVar := Tryd.f51.results
theorem hexa_Capital_ev (n : Nat) (s0 : List UInt8) (o0 : Lab) : evFnP E_hexa_Capital n C_hexa_Capital R_hexa_Capital [.dat (.sl .byte) s0 o0] = hexa_Capital_sh n s0 := by
  kernel_rfl
theorem hexa_Capital_sound : SoundG G Tryd.prog 51 s_hexa_Capital := by
  refine sound_of_evP' G_stays (E := E_hexa_Capital) (fn := Tryd.f51) (c := C_hexa_Capital) (tyOk_of_table rfl tis_ok) (fun w S hg => ⟨⟨(fns_cons (bytes_ContainsAny_sound w S hg) fns_nil), fun f sp h => cns_nil f sp h w S⟩, gl_none w S hg, fun _ _ h => by cases h⟩) follows Tryd.func51 (by kernel_rfl) (by kernel_rfl) (by kernel_rfl) ?_
  intro avs r h
  unfold s_hexa_Capital at h
  split at h
  · simp only [Prod.mk.injEq] at h
    obtain ⟨hp, rfl⟩ := h
    obtain ⟨n, hn⟩ := hexa_Capital_math _ hp
    exact ⟨n, _, (hexa_Capital_ev n _ _).trans hn, .inl rfl⟩
  · cases h

/-! sheave/qpage.right -/

noncomputable def E_qpage_right : EnvP := ⟨⟨tiOf tis, fnsOf [(41, s_octet_Is), (50, s_hexa_Take), (51, s_hexa_Capital)], cnsOf [], [], 60, (fun x => if x = 2 then some [0, 7, 8, 9] else none), (fun x => if x = 0 then some [0] else if x = 1 then some [0, 7, 8, 9] else if x = 2 then some [0, 3, 7, 8, 9] else none), some [2]⟩, fun _ => none, fun _ => none, fun _ => [], fun _ => none⟩
noncomputable def C_qpage_right : Code := Tryd.f34.body.getD .skip
noncomputable def R_qpage_right : Array ResultVar := Tryd.f34.results
theorem qpage_right_l2_ok (K : Ex → Fr → Option AV) : ∀ (n : Nat) (l0 : List UInt8) (s7 : List UInt8) (s8 : Int) (s9 : Int), evLP E_qpage_right n (sub C_qpage_right [1, 0, 1, 0, 0]) K (frOf [(0, (.dat (.sl .byte) l0 none)), (7, (.dat (.sl .byte) s7 none)), (8, (.dat (.int .i64) s8 none)), (9, (.dat (.int .i64) s9 none))]) = qpage_right_l2 (fun s2 => K .ret (frOf [(2, (.dat .bool s2 none))])) (fun l0 => K (.exit 0) (frOf [(0, (.dat (.sl .byte) l0 none))])) n l0 s7 s8 s9 := by
  intro n
  induction n with
  | zero => intros; rfl
  | succ n IH =>
  intro l0 s7 s8 s9
  have ih : (fun l0 s7 s8 s9 => evLP E_qpage_right n (sub C_qpage_right [1, 0, 1, 0, 0]) K (frOf [(0, (.dat (.sl .byte) l0 none)), (7, (.dat (.sl .byte) s7 none)), (8, (.dat (.int .i64) s8 none)), (9, (.dat (.int .i64) s9 none))])) = qpage_right_l2 (fun s2 => K .ret (frOf [(2, (.dat .bool s2 none))])) (fun l0 => K (.exit 0) (frOf [(0, (.dat (.sl .byte) l0 none))])) n := by
    funext l0 s7 s8 s9
    exact IH l0 s7 s8 s9
  show _ = qpage_right_l2_b (fun s2 => K .ret (frOf [(2, (.dat .bool s2 none))])) (fun l0 => K (.exit 0) (frOf [(0, (.dat (.sl .byte) l0 none))])) (qpage_right_l2 (fun s2 => K .ret (frOf [(2, (.dat .bool s2 none))])) (fun l0 => K (.exit 0) (frOf [(0, (.dat (.sl .byte) l0 none))])) n) n l0 s7 s8 s9
  rw [← ih]
  kernel_rfl
theorem qpage_right_k2_0_ok (n : Nat) (l0 : List UInt8) : (kBlockP 0 (E_qpage_right.cutb 0) (kSeq (evCP E_qpage_right (evLP E_qpage_right n) (sub C_qpage_right [1, 1])) (kFnP E_qpage_right R_qpage_right))) (.exit 0) (frOf [(0, (.dat (.sl .byte) l0 none))]) = qpage_right_k2_0 n l0 := by
  kernel_rfl
theorem qpage_right_ev (n : Nat) (l0 : List UInt8) (o0 : Lab) : evFnP E_qpage_right n C_qpage_right R_qpage_right [.dat (.sl .byte) l0 o0] = qpage_right_sh n l0 := by
  unfold qpage_right_sh
  rw [show qpage_right_l2 qpage_right_ret (qpage_right_k2_0 n) n = (fun l0 s7 s8 s9 => evLP E_qpage_right n (sub C_qpage_right [1, 0, 1, 0, 0]) (kBlockP 0 (E_qpage_right.cutb 0) (kSeq (evCP E_qpage_right (evLP E_qpage_right n) (sub C_qpage_right [1, 1])) (kFnP E_qpage_right R_qpage_right))) (frOf [(0, (.dat (.sl .byte) l0 none)), (7, (.dat (.sl .byte) s7 none)), (8, (.dat (.int .i64) s8 none)), (9, (.dat (.int .i64) s9 none))])) from by
    funext l0 s7 s8 s9
    refine Eq.trans ?_ (qpage_right_l2_ok (kBlockP 0 (E_qpage_right.cutb 0) (kSeq (evCP E_qpage_right (evLP E_qpage_right n) (sub C_qpage_right [1, 1])) (kFnP E_qpage_right R_qpage_right))) n l0 s7 s8 s9).symm
    rw [show (fun l0 => (kBlockP 0 (E_qpage_right.cutb 0) (kSeq (evCP E_qpage_right (evLP E_qpage_right n) (sub C_qpage_right [1, 1])) (kFnP E_qpage_right R_qpage_right))) (.exit 0) (frOf [(0, (.dat (.sl .byte) l0 none))])) = (qpage_right_k2_0 n) from by
      funext l0
      exact qpage_right_k2_0_ok n l0]
    all_goals kernel_rfl]
  kernel_rfl
theorem qpage_right_sound : SoundG G Tryd.prog 34 s_qpage_right := by
  refine sound_of_evP' G_stays (E := E_qpage_right) (fn := Tryd.f34) (c := C_qpage_right) (tyOk_of_table rfl tis_ok) (fun w S hg => ⟨⟨(fns_cons (octet_Is_sound w S hg) (fns_cons (hexa_Take_sound w S hg) (fns_cons (hexa_Capital_sound w S hg) fns_nil))), fun f sp h => cns_nil f sp h w S⟩, gl_none w S hg, fun _ _ h => by cases h⟩) follows Tryd.func34 (by kernel_rfl) (by kernel_rfl) (by kernel_rfl) ?_
  intro avs r h
  unfold s_qpage_right at h
  split at h
  · simp only [Prod.mk.injEq] at h
    obtain ⟨hp, rfl⟩ := h
    obtain ⟨n, hn⟩ := qpage_right_math _ hp
    exact ⟨n, _, (qpage_right_ev n _ _).trans hn, .inl rfl⟩
  · cases h

end Go.Av
