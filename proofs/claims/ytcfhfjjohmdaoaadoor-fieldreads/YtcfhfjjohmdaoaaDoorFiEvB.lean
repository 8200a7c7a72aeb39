import Derived.Test.YtcfhfjjohmdaoaaDoorFiEvA
import Derived.Test.YtcfhfjjohmdaoaaDoorFiN
import Derived.Test.YtcfhfjjohmdaoaaDoorProg
import Derived.KernelRfl
namespace Go.Av
open Go.Proofs
set_option maxRecDepth 100000
/-! bytes.IndexAny -/

noncomputable def E_bytes_IndexAny (m0 : Int) : EnvP := ⟨⟨tiOf tis, fnsOf [(92, s_bytes_makeASCIISet), (105, s_internal_bytealg_IndexByteString), (106, s_bytes_IndexRune), (107, s_bytes_shouldUseASCIISet), (108, s___bytes_asciiSet__contains), (109, s_unicode_utf8_DecodeRune), (110, (s_internal_bytealg_IndexString m0))], cnsOf [], [], 129, (fun x => if x = 7 then some [28] else if x = 24 then some [7, 60, 61, 62] else if x = 32 then some [0, 1, 12] else if x = 48 then some [0, 1, 11, 12, 13, 121] else none), (fun x => if x = 0 then some [] else if x = 1 then some [28] else if x = 2 then some [] else if x = 3 then some [7, 60, 61, 62] else if x = 4 then some [] else if x = 5 then some [0, 1, 11, 12] else if x = 6 then some [0, 1, 11, 12] else if x = 7 then some [0, 1, 11, 12, 13, 121] else none), some [4]⟩, fun _ => none, glm m0, (fun x => if x = 24 then [7] else [])⟩
noncomputable def C_bytes_IndexAny : Code := Tryd.f83.body.getD .skip
noncomputable def R_bytes_IndexAny : Array ResultVar := Tryd.f83.results
theorem bytes_IndexAny_l7_ok (m0 : Int) (K : Ex → Fr → Option AV) : ∀ (n : Nat) (s28 : List UInt8) (s28p : Nat), evLP (E_bytes_IndexAny m0) n (sub C_bytes_IndexAny [1, 1, 0, 1, 0, 1, 0, 1, 0, 0, 1, 0, 0]) K (frOf [(28, (.itr s28 s28p))]) = (bytes_IndexAny_l7 m0) (fun s4 => K .ret (frOf [(4, (.dat (.int .i64) s4 none))])) (K (.exit 0) (frOf [])) n s28 s28p := by
  intro n
  induction n with
  | zero => intros; rfl
  | succ n IH =>
  intro s28 s28p
  have ih : (fun s28 s28p => evLP (E_bytes_IndexAny m0) n (sub C_bytes_IndexAny [1, 1, 0, 1, 0, 1, 0, 1, 0, 0, 1, 0, 0]) K (frOf [(28, (.itr s28 s28p))])) = (bytes_IndexAny_l7 m0) (fun s4 => K .ret (frOf [(4, (.dat (.int .i64) s4 none))])) (K (.exit 0) (frOf [])) n := by
    funext s28 s28p
    exact IH s28 s28p
  show _ = (bytes_IndexAny_l7_b m0) (fun s4 => K .ret (frOf [(4, (.dat (.int .i64) s4 none))])) (K (.exit 0) (frOf [])) ((bytes_IndexAny_l7 m0) (fun s4 => K .ret (frOf [(4, (.dat (.int .i64) s4 none))])) (K (.exit 0) (frOf [])) n) n s28 s28p
  rw [← ih]
  kernel_rfl
theorem bytes_IndexAny_k7_0_ok (m0 : Int) (n : Nat)  : (kBlockP 0 ((E_bytes_IndexAny m0).cutb 0) (kSeq (evCP (E_bytes_IndexAny m0) (evLP (E_bytes_IndexAny m0) n) (sub C_bytes_IndexAny [1, 1, 0, 1, 0, 1, 0, 1, 0, 1])) (kSeq (evCP (E_bytes_IndexAny m0) (evLP (E_bytes_IndexAny m0) n) (sub C_bytes_IndexAny [1, 1, 0, 1, 0, 1, 1])) (kSeq (evCP (E_bytes_IndexAny m0) (evLP (E_bytes_IndexAny m0) n) (sub C_bytes_IndexAny [1, 1, 1])) (kFnP (E_bytes_IndexAny m0) R_bytes_IndexAny))))) (.exit 0) (frOf []) = (bytes_IndexAny_k7_0 m0) n  := by
  kernel_rfl
theorem bytes_IndexAny_l24_ok (m0 : Int) (K : Ex → Fr → Option AV) : ∀ (n : Nat) (as7 : List Bool) (s60 : List UInt8) (s61 : Int) (s62 : Int), evLP (E_bytes_IndexAny m0) n (sub C_bytes_IndexAny [1, 1, 1, 1, 0, 1, 0, 1, 1, 0, 0, 1, 0, 0]) K (frOf [(7, (.adr (.arr 256 .bool) as7)), (60, (.dat (.sl .byte) s60 none)), (61, (.dat (.int .i64) s61 none)), (62, (.dat (.int .i64) s62 none))]) = (bytes_IndexAny_l24 m0) (fun s4 => K .ret (frOf [(4, (.dat (.int .i64) s4 none))])) (K (.exit 2) (frOf [])) n as7 s60 s61 s62 := by
  intro n
  induction n with
  | zero => intros; rfl
  | succ n IH =>
  intro as7 s60 s61 s62
  have ih : (fun as7 s60 s61 s62 => evLP (E_bytes_IndexAny m0) n (sub C_bytes_IndexAny [1, 1, 1, 1, 0, 1, 0, 1, 1, 0, 0, 1, 0, 0]) K (frOf [(7, (.adr (.arr 256 .bool) as7)), (60, (.dat (.sl .byte) s60 none)), (61, (.dat (.int .i64) s61 none)), (62, (.dat (.int .i64) s62 none))])) = (bytes_IndexAny_l24 m0) (fun s4 => K .ret (frOf [(4, (.dat (.int .i64) s4 none))])) (K (.exit 2) (frOf [])) n := by
    funext as7 s60 s61 s62
    exact IH as7 s60 s61 s62
  show _ = (bytes_IndexAny_l24_b m0) (fun s4 => K .ret (frOf [(4, (.dat (.int .i64) s4 none))])) (K (.exit 2) (frOf [])) ((bytes_IndexAny_l24 m0) (fun s4 => K .ret (frOf [(4, (.dat (.int .i64) s4 none))])) (K (.exit 2) (frOf [])) n) n as7 s60 s61 s62
  rw [← ih]
  kernel_rfl
theorem bytes_IndexAny_k24_2_ok (m0 : Int) (n : Nat)  : (kBlockP 2 ((E_bytes_IndexAny m0).cutb 2) (kSeq (evCP (E_bytes_IndexAny m0) (evLP (E_bytes_IndexAny m0) n) (sub C_bytes_IndexAny [1, 1, 1, 1, 0, 1, 0, 1, 1, 0, 1])) (kSeq (evCP (E_bytes_IndexAny m0) (evLP (E_bytes_IndexAny m0) n) (sub C_bytes_IndexAny [1, 1, 1, 1, 1])) (kFnP (E_bytes_IndexAny m0) R_bytes_IndexAny)))) (.exit 2) (frOf []) = (bytes_IndexAny_k24_2 m0) n  := by
  kernel_rfl
theorem bytes_IndexAny_l48_ok (m0 : Int) (K : Ex → Fr → Option AV) : ∀ (n : Nat) (s0 : List UInt8) (chars1 : List UInt8) (width11 : Int) (i12 : Int) (r13 : Int) (s121 : List UInt8) (s121p : Nat), evLP (E_bytes_IndexAny m0) n (sub C_bytes_IndexAny [1, 1, 1, 1, 1, 1, 0, 1, 0, 0, 1, 0, 0, 1, 1, 1, 1, 1, 0, 0]) K (frOf [(0, (.dat (.sl .byte) s0 none)), (1, (.dat .str chars1 none)), (11, (.dat (.int .i64) width11 none)), (12, (.dat (.int .i64) i12 none)), (13, (.dat (.int .i32) r13 none)), (121, (.itr s121 s121p))]) = (bytes_IndexAny_l48 m0) (fun s4 => K .ret (frOf [(4, (.dat (.int .i64) s4 none))])) (fun s0 chars1 width11 i12 => K (.exit 6) (frOf [(0, (.dat (.sl .byte) s0 none)), (1, (.dat .str chars1 none)), (11, (.dat (.int .i64) width11 none)), (12, (.dat (.int .i64) i12 none))])) n s0 chars1 width11 i12 r13 s121 s121p := by
  intro n
  induction n with
  | zero => intros; rfl
  | succ n IH =>
  intro s0 chars1 width11 i12 r13 s121 s121p
  have ih : (fun s0 chars1 width11 i12 r13 s121 s121p => evLP (E_bytes_IndexAny m0) n (sub C_bytes_IndexAny [1, 1, 1, 1, 1, 1, 0, 1, 0, 0, 1, 0, 0, 1, 1, 1, 1, 1, 0, 0]) K (frOf [(0, (.dat (.sl .byte) s0 none)), (1, (.dat .str chars1 none)), (11, (.dat (.int .i64) width11 none)), (12, (.dat (.int .i64) i12 none)), (13, (.dat (.int .i32) r13 none)), (121, (.itr s121 s121p))])) = (bytes_IndexAny_l48 m0) (fun s4 => K .ret (frOf [(4, (.dat (.int .i64) s4 none))])) (fun s0 chars1 width11 i12 => K (.exit 6) (frOf [(0, (.dat (.sl .byte) s0 none)), (1, (.dat .str chars1 none)), (11, (.dat (.int .i64) width11 none)), (12, (.dat (.int .i64) i12 none))])) n := by
    funext s0 chars1 width11 i12 r13 s121 s121p
    exact IH s0 chars1 width11 i12 r13 s121 s121p
  show _ = (bytes_IndexAny_l48_b m0) (fun s4 => K .ret (frOf [(4, (.dat (.int .i64) s4 none))])) (fun s0 chars1 width11 i12 => K (.exit 6) (frOf [(0, (.dat (.sl .byte) s0 none)), (1, (.dat .str chars1 none)), (11, (.dat (.int .i64) width11 none)), (12, (.dat (.int .i64) i12 none))])) ((bytes_IndexAny_l48 m0) (fun s4 => K .ret (frOf [(4, (.dat (.int .i64) s4 none))])) (fun s0 chars1 width11 i12 => K (.exit 6) (frOf [(0, (.dat (.sl .byte) s0 none)), (1, (.dat .str chars1 none)), (11, (.dat (.int .i64) width11 none)), (12, (.dat (.int .i64) i12 none))])) n) n s0 chars1 width11 i12 r13 s121 s121p
  rw [← ih]
  kernel_rfl
theorem bytes_IndexAny_k48_6_ok (m0 : Int) (K : Ex → Fr → Option AV) (n : Nat) (s0 : List UInt8) (chars1 : List UInt8) (width11 : Int) (i12 : Int) : (kBlockP 6 ((E_bytes_IndexAny m0).cutb 6) (kBlockP 5 ((E_bytes_IndexAny m0).cutb 5) (kSeq (evCP (E_bytes_IndexAny m0) (evLP (E_bytes_IndexAny m0) n) (sub C_bytes_IndexAny [1, 1, 1, 1, 1, 1, 0, 1, 0, 0, 1, 1])) (kSeq (fun K fr => evLP (E_bytes_IndexAny m0) n (sub C_bytes_IndexAny [1, 1, 1, 1, 1, 1, 0, 1, 0, 0]) K (cutFP ((E_bytes_IndexAny m0).cuts 32) fr)) K)))) (.exit 6) (frOf [(0, (.dat (.sl .byte) s0 none)), (1, (.dat .str chars1 none)), (11, (.dat (.int .i64) width11 none)), (12, (.dat (.int .i64) i12 none))]) = (bytes_IndexAny_k48_6 m0) (fun s4 => K .ret (frOf [(4, (.dat (.int .i64) s4 none))])) (K (.exit 4) (frOf [])) (fun s0 chars1 i12 => evLP (E_bytes_IndexAny m0) n (sub C_bytes_IndexAny [1, 1, 1, 1, 1, 1, 0, 1, 0, 0]) K (frOf [(0, (.dat (.sl .byte) s0 none)), (1, (.dat .str chars1 none)), (12, (.dat (.int .i64) i12 none))])) n s0 chars1 width11 i12 := by
  kernel_rfl
theorem bytes_IndexAny_l32_ok (m0 : Int) (K : Ex → Fr → Option AV) : ∀ (n : Nat) (s0 : List UInt8) (chars1 : List UInt8) (i12 : Int), evLP (E_bytes_IndexAny m0) n (sub C_bytes_IndexAny [1, 1, 1, 1, 1, 1, 0, 1, 0, 0]) K (frOf [(0, (.dat (.sl .byte) s0 none)), (1, (.dat .str chars1 none)), (12, (.dat (.int .i64) i12 none))]) = (bytes_IndexAny_l32 m0) (fun s4 => K .ret (frOf [(4, (.dat (.int .i64) s4 none))])) (K (.exit 4) (frOf [])) n s0 chars1 i12 := by
  intro n
  induction n with
  | zero => intros; rfl
  | succ n IH =>
  intro s0 chars1 i12
  have ih : (fun s0 chars1 i12 => evLP (E_bytes_IndexAny m0) n (sub C_bytes_IndexAny [1, 1, 1, 1, 1, 1, 0, 1, 0, 0]) K (frOf [(0, (.dat (.sl .byte) s0 none)), (1, (.dat .str chars1 none)), (12, (.dat (.int .i64) i12 none))])) = (bytes_IndexAny_l32 m0) (fun s4 => K .ret (frOf [(4, (.dat (.int .i64) s4 none))])) (K (.exit 4) (frOf [])) n := by
    funext s0 chars1 i12
    exact IH s0 chars1 i12
  show _ = (bytes_IndexAny_l32_b m0) (fun s4 => K .ret (frOf [(4, (.dat (.int .i64) s4 none))])) (K (.exit 4) (frOf [])) ((bytes_IndexAny_l32 m0) (fun s4 => K .ret (frOf [(4, (.dat (.int .i64) s4 none))])) (K (.exit 4) (frOf [])) n) n s0 chars1 i12
  rw [← ih]
  unfold bytes_IndexAny_l32_b
  rw [show (bytes_IndexAny_l48 m0) (fun s4 => K .ret (frOf [(4, (.dat (.int .i64) s4 none))])) ((bytes_IndexAny_k48_6 m0) (fun s4 => K .ret (frOf [(4, (.dat (.int .i64) s4 none))])) (K (.exit 4) (frOf [])) (fun s0 chars1 i12 => evLP (E_bytes_IndexAny m0) n (sub C_bytes_IndexAny [1, 1, 1, 1, 1, 1, 0, 1, 0, 0]) K (frOf [(0, (.dat (.sl .byte) s0 none)), (1, (.dat .str chars1 none)), (12, (.dat (.int .i64) i12 none))])) n) n = (fun s0 chars1 width11 i12 r13 s121 s121p => evLP (E_bytes_IndexAny m0) n (sub C_bytes_IndexAny [1, 1, 1, 1, 1, 1, 0, 1, 0, 0, 1, 0, 0, 1, 1, 1, 1, 1, 0, 0]) (kBlockP 6 ((E_bytes_IndexAny m0).cutb 6) (kBlockP 5 ((E_bytes_IndexAny m0).cutb 5) (kSeq (evCP (E_bytes_IndexAny m0) (evLP (E_bytes_IndexAny m0) n) (sub C_bytes_IndexAny [1, 1, 1, 1, 1, 1, 0, 1, 0, 0, 1, 1])) (kSeq (fun K fr => evLP (E_bytes_IndexAny m0) n (sub C_bytes_IndexAny [1, 1, 1, 1, 1, 1, 0, 1, 0, 0]) K (cutFP ((E_bytes_IndexAny m0).cuts 32) fr)) K)))) (frOf [(0, (.dat (.sl .byte) s0 none)), (1, (.dat .str chars1 none)), (11, (.dat (.int .i64) width11 none)), (12, (.dat (.int .i64) i12 none)), (13, (.dat (.int .i32) r13 none)), (121, (.itr s121 s121p))])) from by
    funext s0 chars1 width11 i12 r13 s121 s121p
    refine Eq.trans ?_ ((bytes_IndexAny_l48_ok m0) (kBlockP 6 ((E_bytes_IndexAny m0).cutb 6) (kBlockP 5 ((E_bytes_IndexAny m0).cutb 5) (kSeq (evCP (E_bytes_IndexAny m0) (evLP (E_bytes_IndexAny m0) n) (sub C_bytes_IndexAny [1, 1, 1, 1, 1, 1, 0, 1, 0, 0, 1, 1])) (kSeq (fun K fr => evLP (E_bytes_IndexAny m0) n (sub C_bytes_IndexAny [1, 1, 1, 1, 1, 1, 0, 1, 0, 0]) K (cutFP ((E_bytes_IndexAny m0).cuts 32) fr)) K)))) n s0 chars1 width11 i12 r13 s121 s121p).symm
    rw [show (fun s0 chars1 width11 i12 => (kBlockP 6 ((E_bytes_IndexAny m0).cutb 6) (kBlockP 5 ((E_bytes_IndexAny m0).cutb 5) (kSeq (evCP (E_bytes_IndexAny m0) (evLP (E_bytes_IndexAny m0) n) (sub C_bytes_IndexAny [1, 1, 1, 1, 1, 1, 0, 1, 0, 0, 1, 1])) (kSeq (fun K fr => evLP (E_bytes_IndexAny m0) n (sub C_bytes_IndexAny [1, 1, 1, 1, 1, 1, 0, 1, 0, 0]) K (cutFP ((E_bytes_IndexAny m0).cuts 32) fr)) K)))) (.exit 6) (frOf [(0, (.dat (.sl .byte) s0 none)), (1, (.dat .str chars1 none)), (11, (.dat (.int .i64) width11 none)), (12, (.dat (.int .i64) i12 none))])) = ((bytes_IndexAny_k48_6 m0) (fun s4 => K .ret (frOf [(4, (.dat (.int .i64) s4 none))])) (K (.exit 4) (frOf [])) (fun s0 chars1 i12 => evLP (E_bytes_IndexAny m0) n (sub C_bytes_IndexAny [1, 1, 1, 1, 1, 1, 0, 1, 0, 0]) K (frOf [(0, (.dat (.sl .byte) s0 none)), (1, (.dat .str chars1 none)), (12, (.dat (.int .i64) i12 none))])) n) from by
      funext s0 chars1 width11 i12
      exact (bytes_IndexAny_k48_6_ok m0) K n s0 chars1 width11 i12]
    all_goals kernel_rfl]
  kernel_rfl
theorem bytes_IndexAny_k32_4_ok (m0 : Int) (n : Nat)  : (kBlockP 4 ((E_bytes_IndexAny m0).cutb 4) (kSeq (evCP (E_bytes_IndexAny m0) (evLP (E_bytes_IndexAny m0) n) (sub C_bytes_IndexAny [1, 1, 1, 1, 1, 1, 1])) (kFnP (E_bytes_IndexAny m0) R_bytes_IndexAny))) (.exit 4) (frOf []) = (bytes_IndexAny_k32_4 m0) n  := by
  kernel_rfl
theorem bytes_IndexAny_ev (m0 : Int) (n : Nat) (s0 : List UInt8) (o0 : Lab) (chars1 : List UInt8) (o1 : Lab) : evFnP (E_bytes_IndexAny m0) n C_bytes_IndexAny R_bytes_IndexAny [.dat (.sl .byte) s0 o0, .dat .str chars1 o1] = (bytes_IndexAny_sh m0) n s0 chars1 := by
  unfold bytes_IndexAny_sh
  rw [show (bytes_IndexAny_l7 m0) bytes_IndexAny_ret ((bytes_IndexAny_k7_0 m0) n) n = (fun s28 s28p => evLP (E_bytes_IndexAny m0) n (sub C_bytes_IndexAny [1, 1, 0, 1, 0, 1, 0, 1, 0, 0, 1, 0, 0]) (kBlockP 0 ((E_bytes_IndexAny m0).cutb 0) (kSeq (evCP (E_bytes_IndexAny m0) (evLP (E_bytes_IndexAny m0) n) (sub C_bytes_IndexAny [1, 1, 0, 1, 0, 1, 0, 1, 0, 1])) (kSeq (evCP (E_bytes_IndexAny m0) (evLP (E_bytes_IndexAny m0) n) (sub C_bytes_IndexAny [1, 1, 0, 1, 0, 1, 1])) (kSeq (evCP (E_bytes_IndexAny m0) (evLP (E_bytes_IndexAny m0) n) (sub C_bytes_IndexAny [1, 1, 1])) (kFnP (E_bytes_IndexAny m0) R_bytes_IndexAny))))) (frOf [(28, (.itr s28 s28p))])) from by
    funext s28 s28p
    refine Eq.trans ?_ ((bytes_IndexAny_l7_ok m0) (kBlockP 0 ((E_bytes_IndexAny m0).cutb 0) (kSeq (evCP (E_bytes_IndexAny m0) (evLP (E_bytes_IndexAny m0) n) (sub C_bytes_IndexAny [1, 1, 0, 1, 0, 1, 0, 1, 0, 1])) (kSeq (evCP (E_bytes_IndexAny m0) (evLP (E_bytes_IndexAny m0) n) (sub C_bytes_IndexAny [1, 1, 0, 1, 0, 1, 1])) (kSeq (evCP (E_bytes_IndexAny m0) (evLP (E_bytes_IndexAny m0) n) (sub C_bytes_IndexAny [1, 1, 1])) (kFnP (E_bytes_IndexAny m0) R_bytes_IndexAny))))) n s28 s28p).symm
    rw [show ((kBlockP 0 ((E_bytes_IndexAny m0).cutb 0) (kSeq (evCP (E_bytes_IndexAny m0) (evLP (E_bytes_IndexAny m0) n) (sub C_bytes_IndexAny [1, 1, 0, 1, 0, 1, 0, 1, 0, 1])) (kSeq (evCP (E_bytes_IndexAny m0) (evLP (E_bytes_IndexAny m0) n) (sub C_bytes_IndexAny [1, 1, 0, 1, 0, 1, 1])) (kSeq (evCP (E_bytes_IndexAny m0) (evLP (E_bytes_IndexAny m0) n) (sub C_bytes_IndexAny [1, 1, 1])) (kFnP (E_bytes_IndexAny m0) R_bytes_IndexAny))))) (.exit 0) (frOf [])) = ((bytes_IndexAny_k7_0 m0) n) from by
      exact (bytes_IndexAny_k7_0_ok m0) n ]
    all_goals kernel_rfl]
  rw [show (bytes_IndexAny_l24 m0) bytes_IndexAny_ret ((bytes_IndexAny_k24_2 m0) n) n = (fun as7 s60 s61 s62 => evLP (E_bytes_IndexAny m0) n (sub C_bytes_IndexAny [1, 1, 1, 1, 0, 1, 0, 1, 1, 0, 0, 1, 0, 0]) (kBlockP 2 ((E_bytes_IndexAny m0).cutb 2) (kSeq (evCP (E_bytes_IndexAny m0) (evLP (E_bytes_IndexAny m0) n) (sub C_bytes_IndexAny [1, 1, 1, 1, 0, 1, 0, 1, 1, 0, 1])) (kSeq (evCP (E_bytes_IndexAny m0) (evLP (E_bytes_IndexAny m0) n) (sub C_bytes_IndexAny [1, 1, 1, 1, 1])) (kFnP (E_bytes_IndexAny m0) R_bytes_IndexAny)))) (frOf [(7, (.adr (.arr 256 .bool) as7)), (60, (.dat (.sl .byte) s60 none)), (61, (.dat (.int .i64) s61 none)), (62, (.dat (.int .i64) s62 none))])) from by
    funext as7 s60 s61 s62
    refine Eq.trans ?_ ((bytes_IndexAny_l24_ok m0) (kBlockP 2 ((E_bytes_IndexAny m0).cutb 2) (kSeq (evCP (E_bytes_IndexAny m0) (evLP (E_bytes_IndexAny m0) n) (sub C_bytes_IndexAny [1, 1, 1, 1, 0, 1, 0, 1, 1, 0, 1])) (kSeq (evCP (E_bytes_IndexAny m0) (evLP (E_bytes_IndexAny m0) n) (sub C_bytes_IndexAny [1, 1, 1, 1, 1])) (kFnP (E_bytes_IndexAny m0) R_bytes_IndexAny)))) n as7 s60 s61 s62).symm
    rw [show ((kBlockP 2 ((E_bytes_IndexAny m0).cutb 2) (kSeq (evCP (E_bytes_IndexAny m0) (evLP (E_bytes_IndexAny m0) n) (sub C_bytes_IndexAny [1, 1, 1, 1, 0, 1, 0, 1, 1, 0, 1])) (kSeq (evCP (E_bytes_IndexAny m0) (evLP (E_bytes_IndexAny m0) n) (sub C_bytes_IndexAny [1, 1, 1, 1, 1])) (kFnP (E_bytes_IndexAny m0) R_bytes_IndexAny)))) (.exit 2) (frOf [])) = ((bytes_IndexAny_k24_2 m0) n) from by
      exact (bytes_IndexAny_k24_2_ok m0) n ]
    all_goals kernel_rfl]
  rw [show (bytes_IndexAny_l32 m0) bytes_IndexAny_ret ((bytes_IndexAny_k32_4 m0) n) n = (fun s0 chars1 i12 => evLP (E_bytes_IndexAny m0) n (sub C_bytes_IndexAny [1, 1, 1, 1, 1, 1, 0, 1, 0, 0]) (kBlockP 4 ((E_bytes_IndexAny m0).cutb 4) (kSeq (evCP (E_bytes_IndexAny m0) (evLP (E_bytes_IndexAny m0) n) (sub C_bytes_IndexAny [1, 1, 1, 1, 1, 1, 1])) (kFnP (E_bytes_IndexAny m0) R_bytes_IndexAny))) (frOf [(0, (.dat (.sl .byte) s0 none)), (1, (.dat .str chars1 none)), (12, (.dat (.int .i64) i12 none))])) from by
    funext s0 chars1 i12
    refine Eq.trans ?_ ((bytes_IndexAny_l32_ok m0) (kBlockP 4 ((E_bytes_IndexAny m0).cutb 4) (kSeq (evCP (E_bytes_IndexAny m0) (evLP (E_bytes_IndexAny m0) n) (sub C_bytes_IndexAny [1, 1, 1, 1, 1, 1, 1])) (kFnP (E_bytes_IndexAny m0) R_bytes_IndexAny))) n s0 chars1 i12).symm
    rw [show ((kBlockP 4 ((E_bytes_IndexAny m0).cutb 4) (kSeq (evCP (E_bytes_IndexAny m0) (evLP (E_bytes_IndexAny m0) n) (sub C_bytes_IndexAny [1, 1, 1, 1, 1, 1, 1])) (kFnP (E_bytes_IndexAny m0) R_bytes_IndexAny))) (.exit 4) (frOf [])) = ((bytes_IndexAny_k32_4 m0) n) from by
      exact (bytes_IndexAny_k32_4_ok m0) n ]
    all_goals kernel_rfl]
  kernel_rfl
theorem bytes_IndexAny_soundm (m0 : Int) : SoundG (Gm m0) Tryd.prog 83 s_bytes_IndexAny := by
  refine sound_of_evP' (Gm_stays m0) (E := E_bytes_IndexAny m0) (fn := Tryd.f83) (c := C_bytes_IndexAny) (tyOk_of_table rfl tis_ok) (fun w S hg => ⟨⟨(fns_cons (bytes_makeASCIISet_sound w S (G_of m0 hg)) (fns_cons (internal_bytealg_IndexByteString_sound w S (G_of m0 hg)) (fns_cons (bytes_IndexRune_sound w S (G_of m0 hg)) (fns_cons (bytes_shouldUseASCIISet_sound w S (G_of m0 hg)) (fns_cons (__bytes_asciiSet__contains_sound w S (G_of m0 hg)) (fns_cons (unicode_utf8_DecodeRune_sound w S (G_of m0 hg)) (fns_cons (internal_bytealg_IndexString_sound m0 w S hg) fns_nil))))))), fun f sp h => cns_nil f sp h w S⟩, hg.2⟩) follows Tryd.func83 (by kernel_rfl) (by kernel_rfl) (by kernel_rfl) ?_
  intro avs r h
  unfold s_bytes_IndexAny at h
  split at h
  · simp only [Prod.mk.injEq] at h
    obtain ⟨hp, rfl⟩ := h
    obtain ⟨n, hn⟩ := bytes_IndexAny_math m0 _ _ hp
    exact ⟨n, _, (bytes_IndexAny_ev m0 n _ _ _ _).trans hn, .inl rfl⟩
  · cases h
theorem bytes_IndexAny_sound : SoundG G Tryd.prog 83 s_bytes_IndexAny := fun w S hg => by obtain ⟨m, h⟩ := G_to hg; exact bytes_IndexAny_soundm m w S h

/-! bytes.ContainsAny -/

noncomputable def E_bytes_ContainsAny : EnvP := ⟨⟨tiOf tis, fnsOf [(83, s_bytes_IndexAny)], cnsOf [], [], 9, (fun _ => none), (fun _ => none), some [4]⟩, fun _ => none, fun _ => none, fun _ => []⟩
noncomputable def C_bytes_ContainsAny : Code := Tryd.f53.body.getD .skip
noncomputable def R_bytes_ContainsAny : Array ResultVar := Tryd.f53.results
theorem bytes_ContainsAny_ev (n : Nat) (b0 : List UInt8) (o0 : Lab) (chars1 : List UInt8) (o1 : Lab) : evFnP E_bytes_ContainsAny n C_bytes_ContainsAny R_bytes_ContainsAny [.dat (.sl .byte) b0 o0, .dat .str chars1 o1] = bytes_ContainsAny_sh n b0 chars1 := by
  kernel_rfl
theorem bytes_ContainsAny_sound : SoundG G Tryd.prog 53 s_bytes_ContainsAny := by
  refine sound_of_evP' G_stays (E := E_bytes_ContainsAny) (fn := Tryd.f53) (c := C_bytes_ContainsAny) (tyOk_of_table rfl tis_ok) (fun w S hg => ⟨⟨(fns_cons (bytes_IndexAny_sound w S hg) fns_nil), fun f sp h => cns_nil f sp h w S⟩, gl_none w S hg⟩) follows Tryd.func53 (by kernel_rfl) (by kernel_rfl) (by kernel_rfl) ?_
  intro avs r h
  unfold s_bytes_ContainsAny at h
  split at h
  · simp only [Prod.mk.injEq] at h
    obtain ⟨hp, rfl⟩ := h
    obtain ⟨n, hn⟩ := bytes_ContainsAny_math _ _ hp
    exact ⟨n, _, (bytes_ContainsAny_ev n _ _ _ _).trans hn, .inl rfl⟩
  · cases h

/-! sheave/fold.Right -/

noncomputable def E_fold_Right : EnvP := ⟨⟨tiOf tis, fnsOf [(16, s_fold_Unfold), (53, s_bytes_ContainsAny)], cnsOf [], [], 7, (fun _ => none), (fun _ => none), some [2]⟩, fun _ => none, fun _ => none, fun _ => []⟩
noncomputable def C_fold_Right : Code := Tryd.f18.body.getD .skip
noncomputable def R_fold_Right : Array ResultVar := Tryd.f18.results
theorem fold_Right_ev (n : Nat) (s0 : List UInt8) (o0 : Lab) : evFnP E_fold_Right n C_fold_Right R_fold_Right [.dat (.sl .byte) s0 o0] = fold_Right_sh n s0 := by
  kernel_rfl
theorem fold_Right_sound : SoundG G Tryd.prog 18 s_fold_Right := by
  refine sound_of_evP' G_stays (E := E_fold_Right) (fn := Tryd.f18) (c := C_fold_Right) (tyOk_of_table rfl tis_ok) (fun w S hg => ⟨⟨(fns_cons (fold_Unfold_sound w S hg) (fns_cons (bytes_ContainsAny_sound w S hg) fns_nil)), fun f sp h => cns_nil f sp h w S⟩, gl_none w S hg⟩) follows Tryd.func18 (by kernel_rfl) (by kernel_rfl) (by kernel_rfl) ?_
  intro avs r h
  unfold s_fold_Right at h
  split at h
  · simp only [Prod.mk.injEq] at h
    obtain ⟨hp, rfl⟩ := h
    obtain ⟨n, hn⟩ := fold_Right_math _ hp
    exact ⟨n, _, (fold_Right_ev n _ _).trans hn, .inl rfl⟩
  · cases h

/-! sheave/fold.check -/

noncomputable def E_fold_check : EnvP := ⟨⟨tiOf tis, fnsOf [], cnsOf [], [], 37, (fun x => if x = 4 then some [24, 25, 26] else none), (fun x => if x = 0 then some [] else if x = 1 then some [24, 25, 26] else none), some [6]⟩, fun _ => none, fun _ => none, fun _ => []⟩
noncomputable def C_fold_check : Code := Tryd.f54.body.getD .skip
noncomputable def R_fold_check : Array ResultVar := Tryd.f54.results
theorem fold_check_l4_ok (K : Ex → Fr → Option AV) : ∀ (n : Nat) (s24 : List UInt8) (s25 : Int) (s26 : Int), evLP E_fold_check n (sub C_fold_check [1, 1, 0, 1, 0, 0]) K (frOf [(24, (.dat (.sl .byte) s24 none)), (25, (.dat (.int .i64) s25 none)), (26, (.dat (.int .i64) s26 none))]) = fold_check_l4 (fun s6 => K .ret (frOf [(6, (.dat (.int .i64) s6 none))])) (K (.exit 0) (frOf [])) n s24 s25 s26 := by
  intro n
  induction n with
  | zero => intros; rfl
  | succ n IH =>
  intro s24 s25 s26
  have ih : (fun s24 s25 s26 => evLP E_fold_check n (sub C_fold_check [1, 1, 0, 1, 0, 0]) K (frOf [(24, (.dat (.sl .byte) s24 none)), (25, (.dat (.int .i64) s25 none)), (26, (.dat (.int .i64) s26 none))])) = fold_check_l4 (fun s6 => K .ret (frOf [(6, (.dat (.int .i64) s6 none))])) (K (.exit 0) (frOf [])) n := by
    funext s24 s25 s26
    exact IH s24 s25 s26
  show _ = fold_check_l4_b (fun s6 => K .ret (frOf [(6, (.dat (.int .i64) s6 none))])) (K (.exit 0) (frOf [])) (fold_check_l4 (fun s6 => K .ret (frOf [(6, (.dat (.int .i64) s6 none))])) (K (.exit 0) (frOf [])) n) n s24 s25 s26
  rw [← ih]
  kernel_rfl
theorem fold_check_k4_0_ok (n : Nat)  : (kBlockP 0 (E_fold_check.cutb 0) (kSeq (evCP E_fold_check (evLP E_fold_check n) (sub C_fold_check [1, 1, 1])) (kFnP E_fold_check R_fold_check))) (.exit 0) (frOf []) = fold_check_k4_0 n  := by
  kernel_rfl
theorem fold_check_ev (n : Nat) (s0 : List UInt8) (o0 : Lab) (first1 : Int) (o1 : Lab) (most2 : Int) (o2 : Lab) : evFnP E_fold_check n C_fold_check R_fold_check [.dat (.sl .byte) s0 o0, .dat (.int .i64) first1 o1, .dat (.int .i64) most2 o2] = fold_check_sh n s0 first1 most2 := by
  unfold fold_check_sh
  rw [show fold_check_l4 fold_check_ret (fold_check_k4_0 n) n = (fun s24 s25 s26 => evLP E_fold_check n (sub C_fold_check [1, 1, 0, 1, 0, 0]) (kBlockP 0 (E_fold_check.cutb 0) (kSeq (evCP E_fold_check (evLP E_fold_check n) (sub C_fold_check [1, 1, 1])) (kFnP E_fold_check R_fold_check))) (frOf [(24, (.dat (.sl .byte) s24 none)), (25, (.dat (.int .i64) s25 none)), (26, (.dat (.int .i64) s26 none))])) from by
    funext s24 s25 s26
    refine Eq.trans ?_ (fold_check_l4_ok (kBlockP 0 (E_fold_check.cutb 0) (kSeq (evCP E_fold_check (evLP E_fold_check n) (sub C_fold_check [1, 1, 1])) (kFnP E_fold_check R_fold_check))) n s24 s25 s26).symm
    rw [show ((kBlockP 0 (E_fold_check.cutb 0) (kSeq (evCP E_fold_check (evLP E_fold_check n) (sub C_fold_check [1, 1, 1])) (kFnP E_fold_check R_fold_check))) (.exit 0) (frOf [])) = (fold_check_k4_0 n) from by
      exact fold_check_k4_0_ok n ]
    all_goals kernel_rfl]
  kernel_rfl
theorem fold_check_sound : SoundG G Tryd.prog 54 s_fold_check := by
  refine sound_of_evP' G_stays (E := E_fold_check) (fn := Tryd.f54) (c := C_fold_check) (tyOk_of_table rfl tis_ok) (fun w S hg => ⟨⟨fns_nil, fun f sp h => cns_nil f sp h w S⟩, gl_none w S hg⟩) follows Tryd.func54 (by kernel_rfl) (by kernel_rfl) (by kernel_rfl) ?_
  intro avs r h
  unfold s_fold_check at h
  split at h
  · simp only [Prod.mk.injEq] at h
    obtain ⟨hp, rfl⟩ := h
    obtain ⟨n, hn⟩ := fold_check_math _ _ _ hp
    exact ⟨n, _, (fold_check_ev n _ _ _ _ _ _).trans hn, .inl rfl⟩
  · cases h

/-! sheave/lines.Join -/

noncomputable def E_lines_Join : EnvP := ⟨⟨tiOf tis, fnsOf [], cnsOf [], [], 18, (fun x => if x = 3 then some [3, 6, 7, 8] else none), (fun x => if x = 0 then some [3] else if x = 1 then some [3, 6, 7, 8] else none), some [2]⟩, fun _ => none, fun _ => none, fun _ => []⟩
noncomputable def C_lines_Join : Code := Tryd.f55.body.getD .skip
noncomputable def R_lines_Join : Array ResultVar := Tryd.f55.results
theorem lines_Join_l3_ok (K : Ex → Fr → Option AV) : ∀ (n : Nat) (out3 : List UInt8) (s6 : List (List UInt8)) (s7 : Int) (s8 : Int), evLP E_lines_Join n (sub C_lines_Join [1, 1, 0, 1, 0, 0]) K (frOf [(3, (.dat (.sl .byte) out3 (some (3, 5)))), (6, (.dat (.sl (.sl .byte)) s6 none)), (7, (.dat (.int .i64) s7 none)), (8, (.dat (.int .i64) s8 none))]) = lines_Join_l3 (fun out3 => K (.exit 0) (frOf [(3, (.dat (.sl .byte) out3 (some (3, 5))))])) n out3 s6 s7 s8 := by
  intro n
  induction n with
  | zero => intros; rfl
  | succ n IH =>
  intro out3 s6 s7 s8
  have ih : (fun out3 s6 s7 s8 => evLP E_lines_Join n (sub C_lines_Join [1, 1, 0, 1, 0, 0]) K (frOf [(3, (.dat (.sl .byte) out3 (some (3, 5)))), (6, (.dat (.sl (.sl .byte)) s6 none)), (7, (.dat (.int .i64) s7 none)), (8, (.dat (.int .i64) s8 none))])) = lines_Join_l3 (fun out3 => K (.exit 0) (frOf [(3, (.dat (.sl .byte) out3 (some (3, 5))))])) n := by
    funext out3 s6 s7 s8
    exact IH out3 s6 s7 s8
  show _ = lines_Join_l3_b (fun out3 => K (.exit 0) (frOf [(3, (.dat (.sl .byte) out3 (some (3, 5))))])) (lines_Join_l3 (fun out3 => K (.exit 0) (frOf [(3, (.dat (.sl .byte) out3 (some (3, 5))))])) n) n out3 s6 s7 s8
  rw [← ih]
  kernel_rfl
theorem lines_Join_k3_0_ok (n : Nat) (out3 : List UInt8) : (kBlockP 0 (E_lines_Join.cutb 0) (kSeq (evCP E_lines_Join (evLP E_lines_Join n) (sub C_lines_Join [1, 1, 1])) (kFnP E_lines_Join R_lines_Join))) (.exit 0) (frOf [(3, (.dat (.sl .byte) out3 (some (3, 5))))]) = lines_Join_k3_0 n out3 := by
  kernel_rfl
theorem lines_Join_ev (n : Nat) (l0 : List (List UInt8)) (o0 : Lab) : evFnP E_lines_Join n C_lines_Join R_lines_Join [.dat (.sl (.sl .byte)) l0 o0] = lines_Join_sh n l0 := by
  unfold lines_Join_sh
  rw [show lines_Join_l3 (lines_Join_k3_0 n) n = (fun out3 s6 s7 s8 => evLP E_lines_Join n (sub C_lines_Join [1, 1, 0, 1, 0, 0]) (kBlockP 0 (E_lines_Join.cutb 0) (kSeq (evCP E_lines_Join (evLP E_lines_Join n) (sub C_lines_Join [1, 1, 1])) (kFnP E_lines_Join R_lines_Join))) (frOf [(3, (.dat (.sl .byte) out3 (some (3, 5)))), (6, (.dat (.sl (.sl .byte)) s6 none)), (7, (.dat (.int .i64) s7 none)), (8, (.dat (.int .i64) s8 none))])) from by
    funext out3 s6 s7 s8
    refine Eq.trans ?_ (lines_Join_l3_ok (kBlockP 0 (E_lines_Join.cutb 0) (kSeq (evCP E_lines_Join (evLP E_lines_Join n) (sub C_lines_Join [1, 1, 1])) (kFnP E_lines_Join R_lines_Join))) n out3 s6 s7 s8).symm
    rw [show (fun out3 => (kBlockP 0 (E_lines_Join.cutb 0) (kSeq (evCP E_lines_Join (evLP E_lines_Join n) (sub C_lines_Join [1, 1, 1])) (kFnP E_lines_Join R_lines_Join))) (.exit 0) (frOf [(3, (.dat (.sl .byte) out3 (some (3, 5))))])) = (lines_Join_k3_0 n) from by
      funext out3
      exact lines_Join_k3_0_ok n out3]
    all_goals kernel_rfl]
  kernel_rfl
theorem lines_Join_sound : SoundG G Tryd.prog 55 s_lines_Join := by
  refine sound_of_evP' G_stays (E := E_lines_Join) (fn := Tryd.f55) (c := C_lines_Join) (tyOk_of_table rfl tis_ok) (fun w S hg => ⟨⟨fns_nil, fun f sp h => cns_nil f sp h w S⟩, gl_none w S hg⟩) follows Tryd.func55 (by kernel_rfl) (by kernel_rfl) (by kernel_rfl) ?_
  intro avs r h
  unfold s_lines_Join at h
  split at h
  · simp only [Prod.mk.injEq] at h
    obtain ⟨hp, rfl⟩ := h
    obtain ⟨n, hn⟩ := lines_Join_math _ hp
    exact ⟨n, _, (lines_Join_ev n _ _).trans hn, .inl rfl⟩
  · cases h

/-! sheave/sheaveref27.folds -/

noncomputable def E_ref27_folds : EnvP := ⟨⟨tiOf tis, fnsOf [], cnsOf [], [], 41, (fun _ => none), (fun _ => none), some [4]⟩, fun _ => none, fun _ => none, fun _ => []⟩
noncomputable def C_ref27_folds : Code := Tryd.f50.body.getD .skip
noncomputable def R_ref27_folds : Array ResultVar := Tryd.f50.results
theorem ref27_folds_ev (n : Nat) (s0 : List UInt8) (o0 : Lab) (i1 : Int) (o1 : Lab) : evFnP E_ref27_folds n C_ref27_folds R_ref27_folds [.dat (.sl .byte) s0 o0, .dat (.int .i64) i1 o1] = ref27_folds_sh n s0 i1 := by
  kernel_rfl
theorem ref27_folds_sound : SoundG G Tryd.prog 50 s_ref27_folds := by
  refine sound_of_evP' G_stays (E := E_ref27_folds) (fn := Tryd.f50) (c := C_ref27_folds) (tyOk_of_table rfl tis_ok) (fun w S hg => ⟨⟨fns_nil, fun f sp h => cns_nil f sp h w S⟩, gl_none w S hg⟩) follows Tryd.func50 (by kernel_rfl) (by kernel_rfl) (by kernel_rfl) ?_
  intro avs r h
  unfold s_ref27_folds at h
  split at h
  · simp only [Prod.mk.injEq] at h
    obtain ⟨hp, rfl⟩ := h
    obtain ⟨n, hn⟩ := ref27_folds_math _ _ hp
    exact ⟨n, _, (ref27_folds_ev n _ _ _ _).trans hn, .inl rfl⟩
  · cases h

/-! sheave/sheaveref27.Unfold -/

noncomputable def E_ref27_Unfold : EnvP := ⟨⟨tiOf tis, fnsOf [(50, s_ref27_folds)], cnsOf [], [], 29, (fun x => if x = 4 then some [0, 4, 5, 6] else none), (fun x => if x = 0 then some [4, 5] else if x = 1 then some [0, 4, 5, 6] else none), some [2, 3]⟩, fun _ => none, fun _ => none, fun _ => []⟩
noncomputable def C_ref27_Unfold : Code := Tryd.f14.body.getD .skip
noncomputable def R_ref27_Unfold : Array ResultVar := Tryd.f14.results
theorem ref27_Unfold_l4_ok (K : Ex → Fr → Option AV) : ∀ (n : Nat) (s0 : List UInt8) (out4 : List UInt8) (n5 : Int) (i6 : Int), evLP E_ref27_Unfold n (sub C_ref27_Unfold [1, 1, 1, 0, 1, 0, 0]) K (frOf [(0, (.dat (.sl .byte) s0 none)), (4, (.dat (.sl .byte) out4 (some (4, 5)))), (5, (.dat (.int .i64) n5 none)), (6, (.dat (.int .i64) i6 none))]) = ref27_Unfold_l4 (fun out4 n5 => K (.exit 0) (frOf [(4, (.dat (.sl .byte) out4 (some (4, 5)))), (5, (.dat (.int .i64) n5 none))])) n s0 out4 n5 i6 := by
  intro n
  induction n with
  | zero => intros; rfl
  | succ n IH =>
  intro s0 out4 n5 i6
  have ih : (fun s0 out4 n5 i6 => evLP E_ref27_Unfold n (sub C_ref27_Unfold [1, 1, 1, 0, 1, 0, 0]) K (frOf [(0, (.dat (.sl .byte) s0 none)), (4, (.dat (.sl .byte) out4 (some (4, 5)))), (5, (.dat (.int .i64) n5 none)), (6, (.dat (.int .i64) i6 none))])) = ref27_Unfold_l4 (fun out4 n5 => K (.exit 0) (frOf [(4, (.dat (.sl .byte) out4 (some (4, 5)))), (5, (.dat (.int .i64) n5 none))])) n := by
    funext s0 out4 n5 i6
    exact IH s0 out4 n5 i6
  show _ = ref27_Unfold_l4_b (fun out4 n5 => K (.exit 0) (frOf [(4, (.dat (.sl .byte) out4 (some (4, 5)))), (5, (.dat (.int .i64) n5 none))])) (ref27_Unfold_l4 (fun out4 n5 => K (.exit 0) (frOf [(4, (.dat (.sl .byte) out4 (some (4, 5)))), (5, (.dat (.int .i64) n5 none))])) n) n s0 out4 n5 i6
  rw [← ih]
  kernel_rfl
theorem ref27_Unfold_k4_0_ok (n : Nat) (out4 : List UInt8) (n5 : Int) : (kBlockP 0 (E_ref27_Unfold.cutb 0) (kSeq (evCP E_ref27_Unfold (evLP E_ref27_Unfold n) (sub C_ref27_Unfold [1, 1, 1, 1])) (kFnP E_ref27_Unfold R_ref27_Unfold))) (.exit 0) (frOf [(4, (.dat (.sl .byte) out4 (some (4, 5)))), (5, (.dat (.int .i64) n5 none))]) = ref27_Unfold_k4_0 n out4 n5 := by
  kernel_rfl
theorem ref27_Unfold_ev (n : Nat) (s0 : List UInt8) (o0 : Lab) : evFnP E_ref27_Unfold n C_ref27_Unfold R_ref27_Unfold [.dat (.sl .byte) s0 o0] = ref27_Unfold_sh n s0 := by
  unfold ref27_Unfold_sh
  rw [show ref27_Unfold_l4 (ref27_Unfold_k4_0 n) n = (fun s0 out4 n5 i6 => evLP E_ref27_Unfold n (sub C_ref27_Unfold [1, 1, 1, 0, 1, 0, 0]) (kBlockP 0 (E_ref27_Unfold.cutb 0) (kSeq (evCP E_ref27_Unfold (evLP E_ref27_Unfold n) (sub C_ref27_Unfold [1, 1, 1, 1])) (kFnP E_ref27_Unfold R_ref27_Unfold))) (frOf [(0, (.dat (.sl .byte) s0 none)), (4, (.dat (.sl .byte) out4 (some (4, 5)))), (5, (.dat (.int .i64) n5 none)), (6, (.dat (.int .i64) i6 none))])) from by
    funext s0 out4 n5 i6
    refine Eq.trans ?_ (ref27_Unfold_l4_ok (kBlockP 0 (E_ref27_Unfold.cutb 0) (kSeq (evCP E_ref27_Unfold (evLP E_ref27_Unfold n) (sub C_ref27_Unfold [1, 1, 1, 1])) (kFnP E_ref27_Unfold R_ref27_Unfold))) n s0 out4 n5 i6).symm
    rw [show (fun out4 n5 => (kBlockP 0 (E_ref27_Unfold.cutb 0) (kSeq (evCP E_ref27_Unfold (evLP E_ref27_Unfold n) (sub C_ref27_Unfold [1, 1, 1, 1])) (kFnP E_ref27_Unfold R_ref27_Unfold))) (.exit 0) (frOf [(4, (.dat (.sl .byte) out4 (some (4, 5)))), (5, (.dat (.int .i64) n5 none))])) = (ref27_Unfold_k4_0 n) from by
      funext out4 n5
      exact ref27_Unfold_k4_0_ok n out4 n5]
    all_goals kernel_rfl]
  kernel_rfl
theorem ref27_Unfold_sound : SoundG G Tryd.prog 14 s_ref27_Unfold := by
  refine sound_of_evP' G_stays (E := E_ref27_Unfold) (fn := Tryd.f14) (c := C_ref27_Unfold) (tyOk_of_table rfl tis_ok) (fun w S hg => ⟨⟨(fns_cons (ref27_folds_sound w S hg) fns_nil), fun f sp h => cns_nil f sp h w S⟩, gl_none w S hg⟩) follows Tryd.func14 (by kernel_rfl) (by kernel_rfl) (by kernel_rfl) ?_
  intro avs r h
  unfold s_ref27_Unfold at h
  split at h
  · simp only [Prod.mk.injEq] at h
    obtain ⟨hp, rfl⟩ := h
    obtain ⟨n, hn⟩ := ref27_Unfold_math _ hp
    exact ⟨n, _, (ref27_Unfold_ev n _ _).trans hn, .inl rfl⟩
  · cases h

/-! sheave/sheaveref01.Like -/

noncomputable def E_ref01_Like : EnvP := ⟨⟨tiOf tis, fnsOf [], cnsOf [], [], 26, (fun x => if x = 4 then some [0, 1, 5] else none), (fun x => if x = 0 then some [] else if x = 1 then some [0, 1, 5] else none), some [4]⟩, fun _ => none, fun _ => none, fun _ => []⟩
noncomputable def C_ref01_Like : Code := Tryd.f15.body.getD .skip
noncomputable def R_ref01_Like : Array ResultVar := Tryd.f15.results
theorem ref01_Like_l4_ok (K : Ex → Fr → Option AV) : ∀ (n : Nat) (a0 : List UInt8) (b1 : List UInt8) (i5 : Int), evLP E_ref01_Like n (sub C_ref01_Like [1, 1, 0, 1, 0, 0]) K (frOf [(0, (.dat (.sl .byte) a0 none)), (1, (.dat (.sl .byte) b1 none)), (5, (.dat (.int .i64) i5 none))]) = ref01_Like_l4 (fun s4 => K .ret (frOf [(4, (.dat .bool s4 none))])) (K (.exit 0) (frOf [])) n a0 b1 i5 := by
  intro n
  induction n with
  | zero => intros; rfl
  | succ n IH =>
  intro a0 b1 i5
  have ih : (fun a0 b1 i5 => evLP E_ref01_Like n (sub C_ref01_Like [1, 1, 0, 1, 0, 0]) K (frOf [(0, (.dat (.sl .byte) a0 none)), (1, (.dat (.sl .byte) b1 none)), (5, (.dat (.int .i64) i5 none))])) = ref01_Like_l4 (fun s4 => K .ret (frOf [(4, (.dat .bool s4 none))])) (K (.exit 0) (frOf [])) n := by
    funext a0 b1 i5
    exact IH a0 b1 i5
  show _ = ref01_Like_l4_b (fun s4 => K .ret (frOf [(4, (.dat .bool s4 none))])) (K (.exit 0) (frOf [])) (ref01_Like_l4 (fun s4 => K .ret (frOf [(4, (.dat .bool s4 none))])) (K (.exit 0) (frOf [])) n) n a0 b1 i5
  rw [← ih]
  kernel_rfl
theorem ref01_Like_k4_0_ok (n : Nat)  : (kBlockP 0 (E_ref01_Like.cutb 0) (kSeq (evCP E_ref01_Like (evLP E_ref01_Like n) (sub C_ref01_Like [1, 1, 1])) (kFnP E_ref01_Like R_ref01_Like))) (.exit 0) (frOf []) = ref01_Like_k4_0 n  := by
  kernel_rfl
theorem ref01_Like_ev (n : Nat) (a0 : List UInt8) (o0 : Lab) (b1 : List UInt8) (o1 : Lab) : evFnP E_ref01_Like n C_ref01_Like R_ref01_Like [.dat (.sl .byte) a0 o0, .dat (.sl .byte) b1 o1] = ref01_Like_sh n a0 b1 := by
  unfold ref01_Like_sh
  rw [show ref01_Like_l4 ref01_Like_ret (ref01_Like_k4_0 n) n = (fun a0 b1 i5 => evLP E_ref01_Like n (sub C_ref01_Like [1, 1, 0, 1, 0, 0]) (kBlockP 0 (E_ref01_Like.cutb 0) (kSeq (evCP E_ref01_Like (evLP E_ref01_Like n) (sub C_ref01_Like [1, 1, 1])) (kFnP E_ref01_Like R_ref01_Like))) (frOf [(0, (.dat (.sl .byte) a0 none)), (1, (.dat (.sl .byte) b1 none)), (5, (.dat (.int .i64) i5 none))])) from by
    funext a0 b1 i5
    refine Eq.trans ?_ (ref01_Like_l4_ok (kBlockP 0 (E_ref01_Like.cutb 0) (kSeq (evCP E_ref01_Like (evLP E_ref01_Like n) (sub C_ref01_Like [1, 1, 1])) (kFnP E_ref01_Like R_ref01_Like))) n a0 b1 i5).symm
    rw [show ((kBlockP 0 (E_ref01_Like.cutb 0) (kSeq (evCP E_ref01_Like (evLP E_ref01_Like n) (sub C_ref01_Like [1, 1, 1])) (kFnP E_ref01_Like R_ref01_Like))) (.exit 0) (frOf [])) = (ref01_Like_k4_0 n) from by
      exact ref01_Like_k4_0_ok n ]
    all_goals kernel_rfl]
  kernel_rfl
theorem ref01_Like_sound : SoundG G Tryd.prog 15 s_ref01_Like := by
  refine sound_of_evP' G_stays (E := E_ref01_Like) (fn := Tryd.f15) (c := C_ref01_Like) (tyOk_of_table rfl tis_ok) (fun w S hg => ⟨⟨fns_nil, fun f sp h => cns_nil f sp h w S⟩, gl_none w S hg⟩) follows Tryd.func15 (by kernel_rfl) (by kernel_rfl) (by kernel_rfl) ?_
  intro avs r h
  unfold s_ref01_Like at h
  split at h
  · simp only [Prod.mk.injEq] at h
    obtain ⟨hp, rfl⟩ := h
    obtain ⟨n, hn⟩ := ref01_Like_math _ _ hp
    exact ⟨n, _, (ref01_Like_ev n _ _ _ _).trans hn, .inl rfl⟩
  · cases h

/-! sheave/sheaveref27.Right -/

noncomputable def E_ref27_Right : EnvP := ⟨⟨tiOf tis, fnsOf [(14, s_ref27_Unfold)], cnsOf [], [], 29, (fun x => if x = 3 then some [3, 5] else none), (fun x => if x = 0 then some [] else if x = 1 then some [3, 5] else none), some [2]⟩, fun _ => none, fun _ => none, fun _ => []⟩
noncomputable def C_ref27_Right : Code := Tryd.f19.body.getD .skip
noncomputable def R_ref27_Right : Array ResultVar := Tryd.f19.results
theorem ref27_Right_l3_ok (K : Ex → Fr → Option AV) : ∀ (n : Nat) (out3 : List UInt8) (i5 : Int), evLP E_ref27_Right n (sub C_ref27_Right [1, 1, 0, 1, 0, 0]) K (frOf [(3, (.dat (.sl .byte) out3 none)), (5, (.dat (.int .i64) i5 none))]) = ref27_Right_l3 (fun s2 => K .ret (frOf [(2, (.dat .bool s2 none))])) (K (.exit 0) (frOf [])) n out3 i5 := by
  intro n
  induction n with
  | zero => intros; rfl
  | succ n IH =>
  intro out3 i5
  have ih : (fun out3 i5 => evLP E_ref27_Right n (sub C_ref27_Right [1, 1, 0, 1, 0, 0]) K (frOf [(3, (.dat (.sl .byte) out3 none)), (5, (.dat (.int .i64) i5 none))])) = ref27_Right_l3 (fun s2 => K .ret (frOf [(2, (.dat .bool s2 none))])) (K (.exit 0) (frOf [])) n := by
    funext out3 i5
    exact IH out3 i5
  show _ = ref27_Right_l3_b (fun s2 => K .ret (frOf [(2, (.dat .bool s2 none))])) (K (.exit 0) (frOf [])) (ref27_Right_l3 (fun s2 => K .ret (frOf [(2, (.dat .bool s2 none))])) (K (.exit 0) (frOf [])) n) n out3 i5
  rw [← ih]
  kernel_rfl
theorem ref27_Right_k3_0_ok (n : Nat)  : (kBlockP 0 (E_ref27_Right.cutb 0) (kSeq (evCP E_ref27_Right (evLP E_ref27_Right n) (sub C_ref27_Right [1, 1, 1])) (kFnP E_ref27_Right R_ref27_Right))) (.exit 0) (frOf []) = ref27_Right_k3_0 n  := by
  kernel_rfl
theorem ref27_Right_ev (n : Nat) (s0 : List UInt8) (o0 : Lab) : evFnP E_ref27_Right n C_ref27_Right R_ref27_Right [.dat (.sl .byte) s0 o0] = ref27_Right_sh n s0 := by
  unfold ref27_Right_sh
  rw [show ref27_Right_l3 ref27_Right_ret (ref27_Right_k3_0 n) n = (fun out3 i5 => evLP E_ref27_Right n (sub C_ref27_Right [1, 1, 0, 1, 0, 0]) (kBlockP 0 (E_ref27_Right.cutb 0) (kSeq (evCP E_ref27_Right (evLP E_ref27_Right n) (sub C_ref27_Right [1, 1, 1])) (kFnP E_ref27_Right R_ref27_Right))) (frOf [(3, (.dat (.sl .byte) out3 none)), (5, (.dat (.int .i64) i5 none))])) from by
    funext out3 i5
    refine Eq.trans ?_ (ref27_Right_l3_ok (kBlockP 0 (E_ref27_Right.cutb 0) (kSeq (evCP E_ref27_Right (evLP E_ref27_Right n) (sub C_ref27_Right [1, 1, 1])) (kFnP E_ref27_Right R_ref27_Right))) n out3 i5).symm
    rw [show ((kBlockP 0 (E_ref27_Right.cutb 0) (kSeq (evCP E_ref27_Right (evLP E_ref27_Right n) (sub C_ref27_Right [1, 1, 1])) (kFnP E_ref27_Right R_ref27_Right))) (.exit 0) (frOf [])) = (ref27_Right_k3_0 n) from by
      exact ref27_Right_k3_0_ok n ]
    all_goals kernel_rfl]
  kernel_rfl
theorem ref27_Right_sound : SoundG G Tryd.prog 19 s_ref27_Right := by
  refine sound_of_evP' G_stays (E := E_ref27_Right) (fn := Tryd.f19) (c := C_ref27_Right) (tyOk_of_table rfl tis_ok) (fun w S hg => ⟨⟨(fns_cons (ref27_Unfold_sound w S hg) fns_nil), fun f sp h => cns_nil f sp h w S⟩, gl_none w S hg⟩) follows Tryd.func19 (by kernel_rfl) (by kernel_rfl) (by kernel_rfl) ?_
  intro avs r h
  unfold s_ref27_Right at h
  split at h
  · simp only [Prod.mk.injEq] at h
    obtain ⟨hp, rfl⟩ := h
    obtain ⟨n, hn⟩ := ref27_Right_math _ hp
    exact ⟨n, _, (ref27_Right_ev n _ _).trans hn, .inl rfl⟩
  · cases h

end Go.Av
