import Derived.Test.YtmbakokcfihafaaDoorHxP
import Derived.Test.YtmbakokcfihafaaDoorHxN
import Derived.Test.YtmbakokcfihafaaDoorProg
import Derived.KernelRfl
namespace Go.Av
open Go.Proofs
set_option maxRecDepth 100000
def tis : List (TypeId × TI) := [(2, ⟨some (.int .i64), 8, 0⟩),
  (3, ⟨some (.int .i64), 8, 0⟩),
  (4, ⟨some .bool, 1, 0⟩),
  (5, ⟨some .byte, 1, 0⟩),
  (6, ⟨some .byte, 1, 0⟩),
  (7, ⟨some (.pair (.int .i64) (.pair (.int .i64) (.pair .bool (.pair .byte .unit)))), 24, 0⟩),
  (8, ⟨some (.pair (.int .i64) (.pair (.int .i64) (.pair .bool (.pair .byte .unit)))), 24, 0⟩),
  (9, ⟨some .str, 16, 0⟩),
  (10, ⟨some .str, 16, 0⟩),
  (11, ⟨some .str, 16, 0⟩),
  (12, ⟨some (.int .u64), 8, 0⟩),
  (13, ⟨some (.pair .str (.pair (.int .u64) .unit)), 24, 0⟩),
  (14, ⟨some (.pair .str (.pair (.int .u64) .unit)), 24, 0⟩),
  (21, ⟨some (.int .i32), 4, 0⟩),
  (27, ⟨some (.sl .byte), 24, 5⟩),
  (28, ⟨some (.arr 2 .byte), 2, 5⟩),
  (34, ⟨some (.int .i64), 8, 0⟩),
  (47, ⟨some (.int .u64), 8, 0⟩),
  (53, ⟨some (.arr 256 .bool), 256, 4⟩),
  (54, ⟨some (.arr 256 .bool), 256, 4⟩),
  (63, ⟨some (.arr 4 .byte), 4, 5⟩),
  (67, ⟨some (.int .u32), 4, 0⟩),
  (68, ⟨some (.arr 256 .byte), 256, 5⟩),
  (69, ⟨some (.pair .byte (.pair .byte .unit)), 2, 0⟩),
  (70, ⟨some (.pair .byte (.pair .byte .unit)), 2, 0⟩),
  (71, ⟨some (.arr 16 (.pair .byte (.pair .byte .unit))), 32, 70⟩),
  (79, ⟨some .byte, 1, 0⟩),
  (80, ⟨some .byte, 1, 0⟩),
  (83, ⟨some (.int .i32), 4, 0⟩),
  (84, ⟨some (.int .i32), 4, 0⟩)]
theorem tis_ok : (tis.all fun p => tyB Tryd.prog (tiOf tis) p.1) = true := by kernel_rfl
theorem follows : Tryd.prog.follows .mixedOrders = true := by kernel_rfl
def s_hexa_Digit : List AV → Bool × AV
  | [.dat (.int .i64) a0 _] => (hexa_Digit_ok a0, (.dat .byte (hexa_Digit a0) none))
  | _ => (false, .bad)
def s_ref02_Digit : List AV → Bool × AV
  | [.dat (.int .i64) a0 _] => (ref02_Digit_ok a0, (.dat .byte (ref02_Digit a0) none))
  | _ => (false, .bad)
def s_octet_Lower : List AV → Bool × AV
  | [.dat .byte a0 _] => (true, (.dat .byte (octet_Lower a0) none))
  | _ => (false, .bad)
def s_ref01_Lower : List AV → Bool × AV
  | [.dat .byte a0 _] => (true, (.dat .byte (ref01_Lower a0) none))
  | _ => (false, .bad)
def s_ref01_Like : List AV → Bool × AV
  | [.dat (.sl .byte) a0 _, .dat (.sl .byte) a1 _] => (ref01_Like_ok a0 a1, (.dat .bool (ref01_Like a0 a1) none))
  | _ => (false, .bad)
def s_bytes_Clone : List AV → Bool × AV
  | [.dat (.sl .byte) a0 _] => (bytes_Clone_ok a0, (.dat (.sl .byte) (bytes_Clone a0) (some (0, 5))))
  | _ => (false, .bad)
def s_bytes_shouldUseASCIISet : List AV → Bool × AV
  | [.dat (.int .i64) a0 _] => (true, (.dat .bool (bytes_shouldUseASCIISet a0) none))
  | _ => (false, .bad)
def s_bytes_makeASCIISet : List AV → Bool × AV
  | [.dat .str a0 _] => (bytes_makeASCIISet_ok a0, (.tup [(.dat (.arr 256 .bool) ((bytes_makeASCIISet a0).1) none), (.dat .bool ((bytes_makeASCIISet a0).2) none)]))
  | _ => (false, .bad)
def s___bytes_asciiSet__contains : List AV → Bool × AV
  | [.adr (.arr 256 .bool) a0, .dat .byte a1 _] => (true, (.dat .bool (__bytes_asciiSet__contains a0 a1) none))
  | _ => (false, .bad)
def s_octet_plain : List AV → Bool × AV
  | [.dat .byte a0 _] => (true, (.dat (.int .i64) (octet_plain a0) none))
  | _ => (false, .bad)
def s_internal_bytealg_IndexByteString : List AV → Bool × AV
  | [.dat .str a0 _, .dat .byte a1 _] => (true, (.dat (.int .i64) (internal_bytealg_IndexByteString a0 a1) none))
  | _ => (false, .bad)
def s_internal_stringslite_IndexByte : List AV → Bool × AV
  | [.dat .str a0 _, .dat .byte a1 _] => (true, (.dat (.int .i64) (internal_stringslite_IndexByte a0 a1) none))
  | _ => (false, .bad)
def s_strings_IndexByte : List AV → Bool × AV
  | [.dat .str a0 _, .dat .byte a1 _] => (true, (.dat (.int .i64) (strings_IndexByte a0 a1) none))
  | _ => (false, .bad)
def s_octet_in : List AV → Bool × AV
  | [.dat .str a0 _, .dat .byte a1 _] => (true, (.dat .bool (octet_in a0 a1) none))
  | _ => (false, .bad)
def s_octet_Kinds : List AV → Bool × AV
  | [.dat .byte a0 _] => (true, (.dat (.int .i64) (octet_Kinds a0) none))
  | _ => (false, .bad)
def s_octet_Is : List AV → Bool × AV
  | [.dat .byte a0 _, .dat (.int .i64) a1 _] => (true, (.dat .bool (octet_Is a0 a1) none))
  | _ => (false, .bad)
def s_hexa_Value : List AV → Bool × AV
  | [.dat .byte a0 _] => (true, (.tup [(.dat (.int .i64) ((hexa_Value a0).1) none), (.dat .bool ((hexa_Value a0).2) none)]))
  | _ => (false, .bad)
def s_ref02_Value : List AV → Bool × AV
  | [.dat .byte a0 _] => (true, (.tup [(.dat (.int .i64) ((ref02_Value a0).1) none), (.dat .bool ((ref02_Value a0).2) none)]))
  | _ => (false, .bad)
def s_hexa_pair : List AV → Bool × AV
  | [.dat .byte a0 _, .dat .byte a1 _] => (true, (.tup [(.dat .byte ((hexa_pair a0 a1).1) none), (.dat .bool ((hexa_pair a0 a1).2) none)]))
  | _ => (false, .bad)
def s_hexa_Take : List AV → Bool × AV
  | [.dat (.sl .byte) a0 _, .dat (.int .i64) a1 _, .dat .byte a2 _] => (hexa_Take_ok a0 a1 a2, (.tup [(.dat .byte ((hexa_Take a0 a1 a2).1) none), (.dat .bool ((hexa_Take a0 a1 a2).2) none)]))
  | _ => (false, .bad)
def s_ref02_Take : List AV → Bool × AV
  | [.dat (.sl .byte) a0 _, .dat (.int .i64) a1 _, .dat .byte a2 _] => (ref02_Take_ok a0 a1 a2, (.tup [(.dat .byte ((ref02_Take a0 a1 a2).1) none), (.dat .bool ((ref02_Take a0 a1 a2).2) none)]))
  | _ => (false, .bad)
def s_hexa_both : List AV → Bool × AV
  | [.dat .byte a0 _] => (true, (.dat (.sl .byte) (hexa_both a0) (some (2, 5))))
  | _ => (false, .bad)
def s_hexa_Put : List AV → Bool × AV
  | [.dat (.sl .byte) a0 _, .dat .byte a1 _, .dat .byte a2 _] => (hexa_Put_ok a0 a1 a2, (.dat (.sl .byte) (hexa_Put a0 a1 a2) (some (6, 5))))
  | _ => (false, .bad)
def s_ref02_Put : List AV → Bool × AV
  | [.dat (.sl .byte) a0 _, .dat .byte a1 _, .dat .byte a2 _] => (ref02_Put_ok a0 a1 a2, (.dat (.sl .byte) (ref02_Put a0 a1 a2) (some (6, 5))))
  | _ => (false, .bad)
def s_hexa_Read : List AV → Bool × AV
  | [.dat (.sl .byte) a0 _] => (hexa_Read_ok a0, (.tup [(.dat (.sl .byte) ((hexa_Read a0).1) none), (.dat (.int .i64) ((hexa_Read a0).2) none)]))
  | _ => (false, .bad)
def s_ref02_Read : List AV → Bool × AV
  | [.dat (.sl .byte) a0 _] => (ref02_Read_ok a0, (.tup [(.dat (.sl .byte) ((ref02_Read a0).1) none), (.dat (.int .i64) ((ref02_Read a0).2) none)]))
  | _ => (false, .bad)
def s_hexa_Lay : List AV → Bool × AV
  | [.dat (.sl .byte) a0 _] => (hexa_Lay_ok a0, (.dat (.sl .byte) (hexa_Lay a0) (some (2, 5))))
  | _ => (false, .bad)
def s_ref02_Lay : List AV → Bool × AV
  | [.dat (.sl .byte) a0 _] => (ref02_Lay_ok a0, (.dat (.sl .byte) (ref02_Lay a0) (some (2, 5))))
  | _ => (false, .bad)
def s_bytes_IndexRune : List AV → Bool × AV
  | [.dat (.sl .byte) a0 _, .dat (.int .i32) a1 _] => (bytes_IndexRune_ok a0 a1, (.dat (.int .i64) (bytes_IndexRune a0 a1) none))
  | _ => (false, .bad)
def s_unicode_utf8_DecodeRune : List AV → Bool × AV
  | [.dat (.sl .byte) a0 _] => (unicode_utf8_DecodeRune_ok a0, (.tup [(.dat (.int .i32) ((unicode_utf8_DecodeRune a0).1) none), (.dat (.int .i64) ((unicode_utf8_DecodeRune a0).2) none)]))
  | _ => (false, .bad)
def s_bytes_IndexAny : List AV → Bool × AV
  | [.dat (.sl .byte) a0 _, .dat .str a1 _] => (bytes_IndexAny_ok a0 a1, (.dat (.int .i64) (bytes_IndexAny a0 a1) none))
  | _ => (false, .bad)
def s_bytes_ContainsAny : List AV → Bool × AV
  | [.dat (.sl .byte) a0 _, .dat .str a1 _] => (bytes_ContainsAny_ok a0 a1, (.dat .bool (bytes_ContainsAny a0 a1) none))
  | _ => (false, .bad)
def s_hexa_Capital : List AV → Bool × AV
  | [.dat (.sl .byte) a0 _] => (hexa_Capital_ok a0, (.dat .bool (hexa_Capital a0) none))
  | _ => (false, .bad)
def s_ref01_Fold : List AV → Bool × AV
  | [.dat (.sl .byte) a0 _] => (ref01_Fold_ok a0, (.dat (.sl .byte) (ref01_Fold a0) (some (2, 5))))
  | _ => (false, .bad)
def s_law02_alive : List AV → Bool × AV
  | [] => (true, (.dat .bool law02_alive none))
  | _ => (false, .bad)
def s_law02_HexaDigits : List AV → Bool × AV
  | [.dat (.int .i64) a0 _, .dat .byte a1 _] => (law02_HexaDigits_ok a0 a1, (.dat .bool (law02_HexaDigits a0 a1) none))
  | _ => (false, .bad)
def s_law02_HexaEscapes : List AV → Bool × AV
  | [.dat (.sl .byte) a0 _, .dat (.int .i64) a1 _, .dat (.arr 2 .byte) a2 _] => (true, (.dat .bool (law02_HexaEscapes a0 a1 a2) none))
  | _ => (false, .bad)
def s_law02_HexaReads : List AV → Bool × AV
  | [.dat (.sl .byte) a0 _] => (true, (.dat .bool (law02_HexaReads a0) none))
  | _ => (false, .bad)
def s_law02_HexaBack : List AV → Bool × AV
  | [.dat (.sl .byte) a0 _] => (true, (.dat .bool (law02_HexaBack a0) none))
  | _ => (false, .bad)

/-! what has no body -/

theorem internal_bytealg_IndexByteString_sound : SoundG G Tryd.prog 34 s_internal_bytealg_IndexByteString := fun w S hg vals avs r h hS ha => by
  unfold s_internal_bytealg_IndexByteString at h
  split at h
  · simp only [Prod.mk.injEq, true_and] at h
    subst h
    exact internal_bytealg_IndexByteString_sound' Tryd.func34 (by kernel_rfl) (by kernel_rfl) (by kernel_rfl) (by kernel_rfl) hS ha
  · cases h
def s_internal_bytealg_IndexString (m0 : Int) : List AV → Bool × AV
  | [.dat .str a0 _, .dat .str a1 _] => (internal_bytealg_IndexString_ok m0 a0 a1, (.dat (.int .i64) (internal_bytealg_IndexString a0 a1) none))
  | _ => (false, .bad)
theorem internal_bytealg_IndexString_sound (m0 : Int) : SoundG (Gm m0) Tryd.prog 40 (s_internal_bytealg_IndexString m0) := fun w S hg vals avs r h hS ha => by
  unfold s_internal_bytealg_IndexString at h
  split at h
  · simp only [Prod.mk.injEq] at h
    obtain ⟨hp, rfl⟩ := h
    simp only [internal_bytealg_IndexString_ok, Bool.and_eq_true, decide_eq_true_eq] at hp
    have hm : w.cell? ⟨0, 0, none⟩ = some (.int .i64 m0) := by
      cases hg.2 0 (.int .i64) m0 rfl with
      | adr _ _ ad cs h1 h2 =>
        have e : cs = [.int .i64 m0] := h1
        subst e
        exact ((h2.2 (by simp)).2 0 _ rfl).2
    exact internal_bytealg_IndexString_sound' Tryd.func40 (by kernel_rfl) (by kernel_rfl) (by kernel_rfl) (by kernel_rfl) (g := 0) (by kernel_rfl) hm hS ha hp.1.1 hp.1.2 hp.2
  · cases h
theorem bytes_IndexRune_sound : SoundG G Tryd.prog 35 s_bytes_IndexRune := fun w S hg vals avs r h hS ha => by
  unfold s_bytes_IndexRune at h
  split at h
  · simp only [Prod.mk.injEq] at h
    cases h.1
  · cases h
theorem unicode_utf8_DecodeRune_sound : SoundG G Tryd.prog 39 s_unicode_utf8_DecodeRune := fun w S hg vals avs r h hS ha => by
  unfold s_unicode_utf8_DecodeRune at h
  split at h
  · simp only [Prod.mk.injEq] at h
    obtain ⟨hp, rfl⟩ := h
    obtain ⟨m, hm⟩ := hg
    exact unicode_utf8_DecodeRune_sound' hm.1 hS ha (by simpa [unicode_utf8_DecodeRune_ok] using hp)
  · cases h
theorem bytes_Clone_sound : SoundG G Tryd.prog 26 s_bytes_Clone := fun w S hg vals avs r h hS ha => by
  unfold s_bytes_Clone at h
  split at h
  · simp only [Prod.mk.injEq] at h
    obtain ⟨hp, rfl⟩ := h
    exact bytes_Clone_sound' hS ha (lenOk_le hp)
  · cases h


/-! sheave/hexa.Digit -/

noncomputable def E_hexa_Digit : EnvP := ⟨⟨tiOf tis, fnsOf [], cnsOf [], [], 6, (fun _ => none), (fun _ => none), some [2]⟩, fun _ => none, fun _ => none, fun _ => []⟩
noncomputable def C_hexa_Digit : Code := Tryd.f9.body.getD .skip
noncomputable def R_hexa_Digit : Array ResultVar := Tryd.f9.results
theorem hexa_Digit_ev (n : Nat) (n0 : Int) (o0 : Lab) : evFnP E_hexa_Digit n C_hexa_Digit R_hexa_Digit [.dat (.int .i64) n0 o0] = hexa_Digit_sh n n0 := by
  kernel_rfl
theorem hexa_Digit_sound : SoundG G Tryd.prog 9 s_hexa_Digit := by
  refine sound_of_evP' G_stays (E := E_hexa_Digit) (fn := Tryd.f9) (c := C_hexa_Digit) (tyOk_of_table rfl tis_ok) (fun w S hg => ⟨⟨fns_nil, fun f sp h => cns_nil f sp h w S⟩, gl_none w S hg⟩) follows Tryd.func9 (by kernel_rfl) (by kernel_rfl) (by kernel_rfl) ?_
  intro avs r h
  unfold s_hexa_Digit at h
  split at h
  · simp only [Prod.mk.injEq] at h
    obtain ⟨hp, rfl⟩ := h
    obtain ⟨n, hn⟩ := hexa_Digit_math _ hp
    exact ⟨n, _, (hexa_Digit_ev n _ _).trans hn, .inl rfl⟩
  · cases h

/-! sheave/sheaveref02.Digit -/

noncomputable def E_ref02_Digit : EnvP := ⟨⟨tiOf tis, fnsOf [], cnsOf [], [], 17, (fun _ => none), (fun _ => none), some [2]⟩, fun _ => none, fun _ => none, fun _ => []⟩
noncomputable def C_ref02_Digit : Code := Tryd.f10.body.getD .skip
noncomputable def R_ref02_Digit : Array ResultVar := Tryd.f10.results
theorem ref02_Digit_ev (n : Nat) (n0 : Int) (o0 : Lab) : evFnP E_ref02_Digit n C_ref02_Digit R_ref02_Digit [.dat (.int .i64) n0 o0] = ref02_Digit_sh n n0 := by
  kernel_rfl
theorem ref02_Digit_sound : SoundG G Tryd.prog 10 s_ref02_Digit := by
  refine sound_of_evP' G_stays (E := E_ref02_Digit) (fn := Tryd.f10) (c := C_ref02_Digit) (tyOk_of_table rfl tis_ok) (fun w S hg => ⟨⟨fns_nil, fun f sp h => cns_nil f sp h w S⟩, gl_none w S hg⟩) follows Tryd.func10 (by kernel_rfl) (by kernel_rfl) (by kernel_rfl) ?_
  intro avs r h
  unfold s_ref02_Digit at h
  split at h
  · simp only [Prod.mk.injEq] at h
    obtain ⟨hp, rfl⟩ := h
    obtain ⟨n, hn⟩ := ref02_Digit_math _ hp
    exact ⟨n, _, (ref02_Digit_ev n _ _).trans hn, .inl rfl⟩
  · cases h

/-! sheave/octet.Lower -/

noncomputable def E_octet_Lower : EnvP := ⟨⟨tiOf tis, fnsOf [], cnsOf [], [], 12, (fun _ => none), (fun _ => none), some [2]⟩, fun _ => none, fun _ => none, fun _ => []⟩
noncomputable def C_octet_Lower : Code := Tryd.f23.body.getD .skip
noncomputable def R_octet_Lower : Array ResultVar := Tryd.f23.results
theorem octet_Lower_ev (n : Nat) (c0 : UInt8) (o0 : Lab) : evFnP E_octet_Lower n C_octet_Lower R_octet_Lower [.dat .byte c0 o0] = octet_Lower_sh n c0 := by
  kernel_rfl
theorem octet_Lower_sound : SoundG G Tryd.prog 23 s_octet_Lower := by
  refine sound_of_evP' G_stays (E := E_octet_Lower) (fn := Tryd.f23) (c := C_octet_Lower) (tyOk_of_table rfl tis_ok) (fun w S hg => ⟨⟨fns_nil, fun f sp h => cns_nil f sp h w S⟩, gl_none w S hg⟩) follows Tryd.func23 (by kernel_rfl) (by kernel_rfl) (by kernel_rfl) ?_
  intro avs r h
  unfold s_octet_Lower at h
  split at h
  · simp only [Prod.mk.injEq, true_and] at h
    subst h
    obtain ⟨n, hn⟩ := octet_Lower_math _
    exact ⟨n, _, (octet_Lower_ev n _ _).trans hn, .inl rfl⟩
  · cases h

/-! sheave/sheaveref01.Lower -/

noncomputable def E_ref01_Lower : EnvP := ⟨⟨tiOf tis, fnsOf [], cnsOf [], [], 12, (fun _ => none), (fun _ => none), some [2]⟩, fun _ => none, fun _ => none, fun _ => []⟩
noncomputable def C_ref01_Lower : Code := Tryd.f29.body.getD .skip
noncomputable def R_ref01_Lower : Array ResultVar := Tryd.f29.results
theorem ref01_Lower_ev (n : Nat) (c0 : UInt8) (o0 : Lab) : evFnP E_ref01_Lower n C_ref01_Lower R_ref01_Lower [.dat .byte c0 o0] = ref01_Lower_sh n c0 := by
  kernel_rfl
theorem ref01_Lower_sound : SoundG G Tryd.prog 29 s_ref01_Lower := by
  refine sound_of_evP' G_stays (E := E_ref01_Lower) (fn := Tryd.f29) (c := C_ref01_Lower) (tyOk_of_table rfl tis_ok) (fun w S hg => ⟨⟨fns_nil, fun f sp h => cns_nil f sp h w S⟩, gl_none w S hg⟩) follows Tryd.func29 (by kernel_rfl) (by kernel_rfl) (by kernel_rfl) ?_
  intro avs r h
  unfold s_ref01_Lower at h
  split at h
  · simp only [Prod.mk.injEq, true_and] at h
    subst h
    obtain ⟨n, hn⟩ := ref01_Lower_math _
    exact ⟨n, _, (ref01_Lower_ev n _ _).trans hn, .inl rfl⟩
  · cases h

/-! sheave/sheaveref01.Like -/

noncomputable def E_ref01_Like : EnvP := ⟨⟨tiOf tis, fnsOf [], cnsOf [], [], 26, (fun x => if x = 4 then some [0, 1, 5] else none), (fun x => if x = 0 then some [] else if x = 1 then some [0, 1, 5] else none), some [4]⟩, fun _ => none, fun _ => none, fun _ => []⟩
noncomputable def C_ref01_Like : Code := Tryd.f15.body.getD .skip
noncomputable def R_ref01_Like : Array ResultVar := Tryd.f15.results
theorem ref01_Like_l4_ok (K : Ex → Fr → Option AV) : ∀ (n : Nat) (a0 : List UInt8) (b1 : List UInt8) (i5 : Int), evLP E_ref01_Like n (sub C_ref01_Like [1, 1, 0, 1, 0, 0]) K (frOf [(0, (.dat (.sl .byte) a0 none)), (1, (.dat (.sl .byte) b1 none)), (5, (.dat (.int .i64) i5 none))]) = ref01_Like_l4 (fun s4 => K .ret (frOf [(4, (.dat .bool s4 none))])) (K (.exit 0) (frOf [])) n a0 b1 i5 := by
  intro n
  induction n with
  | zero => intros; rfl
  | succ n IH =>
  intro a0 b1 i5
  have ih : (fun a0 b1 i5 => evLP E_ref01_Like n (sub C_ref01_Like [1, 1, 0, 1, 0, 0]) K (frOf [(0, (.dat (.sl .byte) a0 none)), (1, (.dat (.sl .byte) b1 none)), (5, (.dat (.int .i64) i5 none))])) = ref01_Like_l4 (fun s4 => K .ret (frOf [(4, (.dat .bool s4 none))])) (K (.exit 0) (frOf [])) n := by
    funext a0 b1 i5
    exact IH a0 b1 i5
  show _ = ref01_Like_l4_b (fun s4 => K .ret (frOf [(4, (.dat .bool s4 none))])) (K (.exit 0) (frOf [])) (ref01_Like_l4 (fun s4 => K .ret (frOf [(4, (.dat .bool s4 none))])) (K (.exit 0) (frOf [])) n) n a0 b1 i5
  rw [← ih]
  kernel_rfl
theorem ref01_Like_k4_0_ok (n : Nat)  : (kBlockP 0 (E_ref01_Like.cutb 0) (kSeq (evCP E_ref01_Like (evLP E_ref01_Like n) (sub C_ref01_Like [1, 1, 1])) (kFnP E_ref01_Like R_ref01_Like))) (.exit 0) (frOf []) = ref01_Like_k4_0 n  := by
  kernel_rfl
theorem ref01_Like_ev (n : Nat) (a0 : List UInt8) (o0 : Lab) (b1 : List UInt8) (o1 : Lab) : evFnP E_ref01_Like n C_ref01_Like R_ref01_Like [.dat (.sl .byte) a0 o0, .dat (.sl .byte) b1 o1] = ref01_Like_sh n a0 b1 := by
  unfold ref01_Like_sh
  rw [show ref01_Like_l4 ref01_Like_ret (ref01_Like_k4_0 n) n = (fun a0 b1 i5 => evLP E_ref01_Like n (sub C_ref01_Like [1, 1, 0, 1, 0, 0]) (kBlockP 0 (E_ref01_Like.cutb 0) (kSeq (evCP E_ref01_Like (evLP E_ref01_Like n) (sub C_ref01_Like [1, 1, 1])) (kFnP E_ref01_Like R_ref01_Like))) (frOf [(0, (.dat (.sl .byte) a0 none)), (1, (.dat (.sl .byte) b1 none)), (5, (.dat (.int .i64) i5 none))])) from by
    funext a0 b1 i5
    refine Eq.trans ?_ (ref01_Like_l4_ok (kBlockP 0 (E_ref01_Like.cutb 0) (kSeq (evCP E_ref01_Like (evLP E_ref01_Like n) (sub C_ref01_Like [1, 1, 1])) (kFnP E_ref01_Like R_ref01_Like))) n a0 b1 i5).symm
    rw [show ((kBlockP 0 (E_ref01_Like.cutb 0) (kSeq (evCP E_ref01_Like (evLP E_ref01_Like n) (sub C_ref01_Like [1, 1, 1])) (kFnP E_ref01_Like R_ref01_Like))) (.exit 0) (frOf [])) = (ref01_Like_k4_0 n) from by
      exact ref01_Like_k4_0_ok n ]
    all_goals kernel_rfl]
  kernel_rfl
theorem ref01_Like_sound : SoundG G Tryd.prog 15 s_ref01_Like := by
  refine sound_of_evP' G_stays (E := E_ref01_Like) (fn := Tryd.f15) (c := C_ref01_Like) (tyOk_of_table rfl tis_ok) (fun w S hg => ⟨⟨fns_nil, fun f sp h => cns_nil f sp h w S⟩, gl_none w S hg⟩) follows Tryd.func15 (by kernel_rfl) (by kernel_rfl) (by kernel_rfl) ?_
  intro avs r h
  unfold s_ref01_Like at h
  split at h
  · simp only [Prod.mk.injEq] at h
    obtain ⟨hp, rfl⟩ := h
    obtain ⟨n, hn⟩ := ref01_Like_math _ _ hp
    exact ⟨n, _, (ref01_Like_ev n _ _ _ _).trans hn, .inl rfl⟩
  · cases h

/-! bytes.shouldUseASCIISet -/

noncomputable def E_bytes_shouldUseASCIISet : EnvP := ⟨⟨tiOf tis, fnsOf [], cnsOf [], [], 5, (fun _ => none), (fun _ => none), some [2]⟩, fun _ => none, fun _ => none, fun _ => []⟩
noncomputable def C_bytes_shouldUseASCIISet : Code := Tryd.f36.body.getD .skip
noncomputable def R_bytes_shouldUseASCIISet : Array ResultVar := Tryd.f36.results
theorem bytes_shouldUseASCIISet_ev (n : Nat) (bufLen0 : Int) (o0 : Lab) : evFnP E_bytes_shouldUseASCIISet n C_bytes_shouldUseASCIISet R_bytes_shouldUseASCIISet [.dat (.int .i64) bufLen0 o0] = bytes_shouldUseASCIISet_sh n bufLen0 := by
  kernel_rfl
theorem bytes_shouldUseASCIISet_sound : SoundG G Tryd.prog 36 s_bytes_shouldUseASCIISet := by
  refine sound_of_evP' G_stays (E := E_bytes_shouldUseASCIISet) (fn := Tryd.f36) (c := C_bytes_shouldUseASCIISet) (tyOk_of_table rfl tis_ok) (fun w S hg => ⟨⟨fns_nil, fun f sp h => cns_nil f sp h w S⟩, gl_none w S hg⟩) follows Tryd.func36 (by kernel_rfl) (by kernel_rfl) (by kernel_rfl) ?_
  intro avs r h
  unfold s_bytes_shouldUseASCIISet at h
  split at h
  · simp only [Prod.mk.injEq, true_and] at h
    subst h
    obtain ⟨n, hn⟩ := bytes_shouldUseASCIISet_math _
    exact ⟨n, _, (bytes_shouldUseASCIISet_ev n _ _).trans hn, .inl rfl⟩
  · cases h

/-! bytes.makeASCIISet -/

noncomputable def E_bytes_makeASCIISet : EnvP := ⟨⟨tiOf tis, fnsOf [], cnsOf [], [], 21, (fun x => if x = 2 then some [0, 2, 4] else none), (fun x => if x = 0 then some [2] else if x = 1 then some [0, 2, 4] else none), some [2, 3]⟩, fun _ => none, fun _ => none, fun _ => []⟩
noncomputable def C_bytes_makeASCIISet : Code := Tryd.f37.body.getD .skip
noncomputable def R_bytes_makeASCIISet : Array ResultVar := Tryd.f37.results
theorem bytes_makeASCIISet_l2_ok (K : Ex → Fr → Option AV) : ∀ (n : Nat) (chars0 : List UInt8) (as2 : List Bool) (i4 : Int), evLP E_bytes_makeASCIISet n (sub C_bytes_makeASCIISet [1, 0, 1, 0, 0]) K (frOf [(0, (.dat .str chars0 none)), (2, (.box (.arr 256 .bool) as2)), (4, (.dat (.int .i64) i4 none))]) = bytes_makeASCIISet_l2 (fun as2 ok3 => K .ret (frOf [(2, (.box (.arr 256 .bool) as2)), (3, (.dat .bool ok3 none))])) (fun as2 => K (.exit 0) (frOf [(2, (.box (.arr 256 .bool) as2))])) n chars0 as2 i4 := by
  intro n
  induction n with
  | zero => intros; rfl
  | succ n IH =>
  intro chars0 as2 i4
  have ih : (fun chars0 as2 i4 => evLP E_bytes_makeASCIISet n (sub C_bytes_makeASCIISet [1, 0, 1, 0, 0]) K (frOf [(0, (.dat .str chars0 none)), (2, (.box (.arr 256 .bool) as2)), (4, (.dat (.int .i64) i4 none))])) = bytes_makeASCIISet_l2 (fun as2 ok3 => K .ret (frOf [(2, (.box (.arr 256 .bool) as2)), (3, (.dat .bool ok3 none))])) (fun as2 => K (.exit 0) (frOf [(2, (.box (.arr 256 .bool) as2))])) n := by
    funext chars0 as2 i4
    exact IH chars0 as2 i4
  show _ = bytes_makeASCIISet_l2_b (fun as2 ok3 => K .ret (frOf [(2, (.box (.arr 256 .bool) as2)), (3, (.dat .bool ok3 none))])) (fun as2 => K (.exit 0) (frOf [(2, (.box (.arr 256 .bool) as2))])) (bytes_makeASCIISet_l2 (fun as2 ok3 => K .ret (frOf [(2, (.box (.arr 256 .bool) as2)), (3, (.dat .bool ok3 none))])) (fun as2 => K (.exit 0) (frOf [(2, (.box (.arr 256 .bool) as2))])) n) n chars0 as2 i4
  rw [← ih]
  kernel_rfl
theorem bytes_makeASCIISet_k2_0_ok (n : Nat) (as2 : List Bool) : (kBlockP 0 (E_bytes_makeASCIISet.cutb 0) (kSeq (evCP E_bytes_makeASCIISet (evLP E_bytes_makeASCIISet n) (sub C_bytes_makeASCIISet [1, 1])) (kFnP E_bytes_makeASCIISet R_bytes_makeASCIISet))) (.exit 0) (frOf [(2, (.box (.arr 256 .bool) as2))]) = bytes_makeASCIISet_k2_0 n as2 := by
  kernel_rfl
theorem bytes_makeASCIISet_ev (n : Nat) (chars0 : List UInt8) (o0 : Lab) : evFnP E_bytes_makeASCIISet n C_bytes_makeASCIISet R_bytes_makeASCIISet [.dat .str chars0 o0] = bytes_makeASCIISet_sh n chars0 := by
  unfold bytes_makeASCIISet_sh
  rw [show bytes_makeASCIISet_l2 bytes_makeASCIISet_ret (bytes_makeASCIISet_k2_0 n) n = (fun chars0 as2 i4 => evLP E_bytes_makeASCIISet n (sub C_bytes_makeASCIISet [1, 0, 1, 0, 0]) (kBlockP 0 (E_bytes_makeASCIISet.cutb 0) (kSeq (evCP E_bytes_makeASCIISet (evLP E_bytes_makeASCIISet n) (sub C_bytes_makeASCIISet [1, 1])) (kFnP E_bytes_makeASCIISet R_bytes_makeASCIISet))) (frOf [(0, (.dat .str chars0 none)), (2, (.box (.arr 256 .bool) as2)), (4, (.dat (.int .i64) i4 none))])) from by
    funext chars0 as2 i4
    refine Eq.trans ?_ (bytes_makeASCIISet_l2_ok (kBlockP 0 (E_bytes_makeASCIISet.cutb 0) (kSeq (evCP E_bytes_makeASCIISet (evLP E_bytes_makeASCIISet n) (sub C_bytes_makeASCIISet [1, 1])) (kFnP E_bytes_makeASCIISet R_bytes_makeASCIISet))) n chars0 as2 i4).symm
    rw [show (fun as2 => (kBlockP 0 (E_bytes_makeASCIISet.cutb 0) (kSeq (evCP E_bytes_makeASCIISet (evLP E_bytes_makeASCIISet n) (sub C_bytes_makeASCIISet [1, 1])) (kFnP E_bytes_makeASCIISet R_bytes_makeASCIISet))) (.exit 0) (frOf [(2, (.box (.arr 256 .bool) as2))])) = (bytes_makeASCIISet_k2_0 n) from by
      funext as2
      exact bytes_makeASCIISet_k2_0_ok n as2]
    all_goals kernel_rfl]
  kernel_rfl
theorem bytes_makeASCIISet_sound : SoundG G Tryd.prog 37 s_bytes_makeASCIISet := by
  refine sound_of_evP' G_stays (E := E_bytes_makeASCIISet) (fn := Tryd.f37) (c := C_bytes_makeASCIISet) (tyOk_of_table rfl tis_ok) (fun w S hg => ⟨⟨fns_nil, fun f sp h => cns_nil f sp h w S⟩, gl_none w S hg⟩) follows Tryd.func37 (by kernel_rfl) (by kernel_rfl) (by kernel_rfl) ?_
  intro avs r h
  unfold s_bytes_makeASCIISet at h
  split at h
  · simp only [Prod.mk.injEq] at h
    obtain ⟨hp, rfl⟩ := h
    obtain ⟨n, hn⟩ := bytes_makeASCIISet_math _ hp
    exact ⟨n, _, (bytes_makeASCIISet_ev n _ _).trans hn, .inl rfl⟩
  · cases h

/-! (*bytes.asciiSet).contains -/

noncomputable def E___bytes_asciiSet__contains : EnvP := ⟨⟨tiOf tis, fnsOf [], cnsOf [], [], 10, (fun _ => none), (fun _ => none), some [4]⟩, fun _ => none, fun _ => none, fun _ => []⟩
noncomputable def C___bytes_asciiSet__contains : Code := Tryd.f38.body.getD .skip
noncomputable def R___bytes_asciiSet__contains : Array ResultVar := Tryd.f38.results
theorem __bytes_asciiSet__contains_ev (n : Nat) (as0 : List Bool) (c1 : UInt8) (o1 : Lab) : evFnP E___bytes_asciiSet__contains n C___bytes_asciiSet__contains R___bytes_asciiSet__contains [.adr (.arr 256 .bool) as0, .dat .byte c1 o1] = __bytes_asciiSet__contains_sh n as0 c1 := by
  kernel_rfl
theorem __bytes_asciiSet__contains_sound : SoundG G Tryd.prog 38 s___bytes_asciiSet__contains := by
  refine sound_of_evP' G_stays (E := E___bytes_asciiSet__contains) (fn := Tryd.f38) (c := C___bytes_asciiSet__contains) (tyOk_of_table rfl tis_ok) (fun w S hg => ⟨⟨fns_nil, fun f sp h => cns_nil f sp h w S⟩, gl_none w S hg⟩) follows Tryd.func38 (by kernel_rfl) (by kernel_rfl) (by kernel_rfl) ?_
  intro avs r h
  unfold s___bytes_asciiSet__contains at h
  split at h
  · simp only [Prod.mk.injEq, true_and] at h
    subst h
    obtain ⟨n, hn⟩ := __bytes_asciiSet__contains_math _ _
    exact ⟨n, _, (__bytes_asciiSet__contains_ev n _ _ _).trans hn, .inl rfl⟩
  · cases h

/-! sheave/octet.plain -/

noncomputable def E_octet_plain : EnvP := ⟨⟨tiOf tis, fnsOf [], cnsOf [], [], 46, (fun _ => none), (fun x => if x = 0 then some [3] else none), some [2]⟩, fun _ => none, fun _ => none, fun _ => []⟩
noncomputable def C_octet_plain : Code := Tryd.f32.body.getD .skip
noncomputable def R_octet_plain : Array ResultVar := Tryd.f32.results
theorem octet_plain_ev (n : Nat) (c0 : UInt8) (o0 : Lab) : evFnP E_octet_plain n C_octet_plain R_octet_plain [.dat .byte c0 o0] = octet_plain_sh n c0 := by
  kernel_rfl
theorem octet_plain_sound : SoundG G Tryd.prog 32 s_octet_plain := by
  refine sound_of_evP' G_stays (E := E_octet_plain) (fn := Tryd.f32) (c := C_octet_plain) (tyOk_of_table rfl tis_ok) (fun w S hg => ⟨⟨fns_nil, fun f sp h => cns_nil f sp h w S⟩, gl_none w S hg⟩) follows Tryd.func32 (by kernel_rfl) (by kernel_rfl) (by kernel_rfl) ?_
  intro avs r h
  unfold s_octet_plain at h
  split at h
  · simp only [Prod.mk.injEq, true_and] at h
    subst h
    obtain ⟨n, hn⟩ := octet_plain_math _
    exact ⟨n, _, (octet_plain_ev n _ _).trans hn, .inl rfl⟩
  · cases h

/-! internal/stringslite.IndexByte -/

noncomputable def E_internal_stringslite_IndexByte : EnvP := ⟨⟨tiOf tis, fnsOf [(34, s_internal_bytealg_IndexByteString)], cnsOf [], [], 8, (fun _ => none), (fun _ => none), some [4]⟩, fun _ => none, fun _ => none, fun _ => []⟩
noncomputable def C_internal_stringslite_IndexByte : Code := Tryd.f48.body.getD .skip
noncomputable def R_internal_stringslite_IndexByte : Array ResultVar := Tryd.f48.results
theorem internal_stringslite_IndexByte_ev (n : Nat) (s0 : List UInt8) (o0 : Lab) (c1 : UInt8) (o1 : Lab) : evFnP E_internal_stringslite_IndexByte n C_internal_stringslite_IndexByte R_internal_stringslite_IndexByte [.dat .str s0 o0, .dat .byte c1 o1] = internal_stringslite_IndexByte_sh n s0 c1 := by
  kernel_rfl
theorem internal_stringslite_IndexByte_sound : SoundG G Tryd.prog 48 s_internal_stringslite_IndexByte := by
  refine sound_of_evP' G_stays (E := E_internal_stringslite_IndexByte) (fn := Tryd.f48) (c := C_internal_stringslite_IndexByte) (tyOk_of_table rfl tis_ok) (fun w S hg => ⟨⟨(fns_cons (internal_bytealg_IndexByteString_sound w S hg) fns_nil), fun f sp h => cns_nil f sp h w S⟩, gl_none w S hg⟩) follows Tryd.func48 (by kernel_rfl) (by kernel_rfl) (by kernel_rfl) ?_
  intro avs r h
  unfold s_internal_stringslite_IndexByte at h
  split at h
  · simp only [Prod.mk.injEq, true_and] at h
    subst h
    obtain ⟨n, hn⟩ := internal_stringslite_IndexByte_math _ _
    exact ⟨n, _, (internal_stringslite_IndexByte_ev n _ _ _ _).trans hn, .inl rfl⟩
  · cases h

/-! strings.IndexByte -/

noncomputable def E_strings_IndexByte : EnvP := ⟨⟨tiOf tis, fnsOf [(48, s_internal_stringslite_IndexByte)], cnsOf [], [], 8, (fun _ => none), (fun _ => none), some [4]⟩, fun _ => none, fun _ => none, fun _ => []⟩
noncomputable def C_strings_IndexByte : Code := Tryd.f41.body.getD .skip
noncomputable def R_strings_IndexByte : Array ResultVar := Tryd.f41.results
theorem strings_IndexByte_ev (n : Nat) (s0 : List UInt8) (o0 : Lab) (c1 : UInt8) (o1 : Lab) : evFnP E_strings_IndexByte n C_strings_IndexByte R_strings_IndexByte [.dat .str s0 o0, .dat .byte c1 o1] = strings_IndexByte_sh n s0 c1 := by
  kernel_rfl
theorem strings_IndexByte_sound : SoundG G Tryd.prog 41 s_strings_IndexByte := by
  refine sound_of_evP' G_stays (E := E_strings_IndexByte) (fn := Tryd.f41) (c := C_strings_IndexByte) (tyOk_of_table rfl tis_ok) (fun w S hg => ⟨⟨(fns_cons (internal_stringslite_IndexByte_sound w S hg) fns_nil), fun f sp h => cns_nil f sp h w S⟩, gl_none w S hg⟩) follows Tryd.func41 (by kernel_rfl) (by kernel_rfl) (by kernel_rfl) ?_
  intro avs r h
  unfold s_strings_IndexByte at h
  split at h
  · simp only [Prod.mk.injEq, true_and] at h
    subst h
    obtain ⟨n, hn⟩ := strings_IndexByte_math _ _
    exact ⟨n, _, (strings_IndexByte_ev n _ _ _ _).trans hn, .inl rfl⟩
  · cases h

/-! sheave/octet.in -/

noncomputable def E_octet_in : EnvP := ⟨⟨tiOf tis, fnsOf [(41, s_strings_IndexByte)], cnsOf [], [], 9, (fun _ => none), (fun _ => none), some [4]⟩, fun _ => none, fun _ => none, fun _ => []⟩
noncomputable def C_octet_in : Code := Tryd.f33.body.getD .skip
noncomputable def R_octet_in : Array ResultVar := Tryd.f33.results
theorem octet_in_ev (n : Nat) (s0 : List UInt8) (o0 : Lab) (c1 : UInt8) (o1 : Lab) : evFnP E_octet_in n C_octet_in R_octet_in [.dat .str s0 o0, .dat .byte c1 o1] = octet_in_sh n s0 c1 := by
  kernel_rfl
theorem octet_in_sound : SoundG G Tryd.prog 33 s_octet_in := by
  refine sound_of_evP' G_stays (E := E_octet_in) (fn := Tryd.f33) (c := C_octet_in) (tyOk_of_table rfl tis_ok) (fun w S hg => ⟨⟨(fns_cons (strings_IndexByte_sound w S hg) fns_nil), fun f sp h => cns_nil f sp h w S⟩, gl_none w S hg⟩) follows Tryd.func33 (by kernel_rfl) (by kernel_rfl) (by kernel_rfl) ?_
  intro avs r h
  unfold s_octet_in at h
  split at h
  · simp only [Prod.mk.injEq, true_and] at h
    subst h
    obtain ⟨n, hn⟩ := octet_in_math _ _
    exact ⟨n, _, (octet_in_ev n _ _ _ _).trans hn, .inl rfl⟩
  · cases h

/-! sheave/octet.Kinds -/

noncomputable def E_octet_Kinds : EnvP := ⟨⟨tiOf tis, fnsOf [(32, s_octet_plain), (33, s_octet_in)], cnsOf [], [], 35, (fun _ => none), (fun _ => none), some [2]⟩, fun _ => none, fun _ => none, fun _ => []⟩
noncomputable def C_octet_Kinds : Code := Tryd.f30.body.getD .skip
noncomputable def R_octet_Kinds : Array ResultVar := Tryd.f30.results
theorem octet_Kinds_ev (n : Nat) (c0 : UInt8) (o0 : Lab) : evFnP E_octet_Kinds n C_octet_Kinds R_octet_Kinds [.dat .byte c0 o0] = octet_Kinds_sh n c0 := by
  kernel_rfl
theorem octet_Kinds_sound : SoundG G Tryd.prog 30 s_octet_Kinds := by
  refine sound_of_evP' G_stays (E := E_octet_Kinds) (fn := Tryd.f30) (c := C_octet_Kinds) (tyOk_of_table rfl tis_ok) (fun w S hg => ⟨⟨(fns_cons (octet_plain_sound w S hg) (fns_cons (octet_in_sound w S hg) fns_nil)), fun f sp h => cns_nil f sp h w S⟩, gl_none w S hg⟩) follows Tryd.func30 (by kernel_rfl) (by kernel_rfl) (by kernel_rfl) ?_
  intro avs r h
  unfold s_octet_Kinds at h
  split at h
  · simp only [Prod.mk.injEq, true_and] at h
    subst h
    obtain ⟨n, hn⟩ := octet_Kinds_math _
    exact ⟨n, _, (octet_Kinds_ev n _ _).trans hn, .inl rfl⟩
  · cases h

/-! sheave/octet.Is -/

noncomputable def E_octet_Is : EnvP := ⟨⟨tiOf tis, fnsOf [(30, s_octet_Kinds)], cnsOf [], [], 10, (fun _ => none), (fun _ => none), some [4]⟩, fun _ => none, fun _ => none, fun _ => []⟩
noncomputable def C_octet_Is : Code := Tryd.f24.body.getD .skip
noncomputable def R_octet_Is : Array ResultVar := Tryd.f24.results
theorem octet_Is_ev (n : Nat) (c0 : UInt8) (o0 : Lab) (kinds1 : Int) (o1 : Lab) : evFnP E_octet_Is n C_octet_Is R_octet_Is [.dat .byte c0 o0, .dat (.int .i64) kinds1 o1] = octet_Is_sh n c0 kinds1 := by
  kernel_rfl
theorem octet_Is_sound : SoundG G Tryd.prog 24 s_octet_Is := by
  refine sound_of_evP' G_stays (E := E_octet_Is) (fn := Tryd.f24) (c := C_octet_Is) (tyOk_of_table rfl tis_ok) (fun w S hg => ⟨⟨(fns_cons (octet_Kinds_sound w S hg) fns_nil), fun f sp h => cns_nil f sp h w S⟩, gl_none w S hg⟩) follows Tryd.func24 (by kernel_rfl) (by kernel_rfl) (by kernel_rfl) ?_
  intro avs r h
  unfold s_octet_Is at h
  split at h
  · simp only [Prod.mk.injEq, true_and] at h
    subst h
    obtain ⟨n, hn⟩ := octet_Is_math _ _
    exact ⟨n, _, (octet_Is_ev n _ _ _ _).trans hn, .inl rfl⟩
  · cases h

/-! sheave/hexa.Value -/

noncomputable def E_hexa_Value : EnvP := ⟨⟨tiOf tis, fnsOf [(23, s_octet_Lower), (24, s_octet_Is)], cnsOf [], [], 23, (fun _ => none), (fun x => if x = 0 then some [] else none), some [2, 3]⟩, fun _ => none, fun _ => none, fun _ => []⟩
noncomputable def C_hexa_Value : Code := Tryd.f7.body.getD .skip
noncomputable def R_hexa_Value : Array ResultVar := Tryd.f7.results
theorem hexa_Value_ev (n : Nat) (c0 : UInt8) (o0 : Lab) : evFnP E_hexa_Value n C_hexa_Value R_hexa_Value [.dat .byte c0 o0] = hexa_Value_sh n c0 := by
  kernel_rfl
theorem hexa_Value_sound : SoundG G Tryd.prog 7 s_hexa_Value := by
  refine sound_of_evP' G_stays (E := E_hexa_Value) (fn := Tryd.f7) (c := C_hexa_Value) (tyOk_of_table rfl tis_ok) (fun w S hg => ⟨⟨(fns_cons (octet_Lower_sound w S hg) (fns_cons (octet_Is_sound w S hg) fns_nil)), fun f sp h => cns_nil f sp h w S⟩, gl_none w S hg⟩) follows Tryd.func7 (by kernel_rfl) (by kernel_rfl) (by kernel_rfl) ?_
  intro avs r h
  unfold s_hexa_Value at h
  split at h
  · simp only [Prod.mk.injEq, true_and] at h
    subst h
    obtain ⟨n, hn⟩ := hexa_Value_math _
    exact ⟨n, _, (hexa_Value_ev n _ _).trans hn, .inl rfl⟩
  · cases h

/-! sheave/sheaveref02.Value -/

noncomputable def E_ref02_Value : EnvP := ⟨⟨tiOf tis, fnsOf [(10, s_ref02_Digit)], cnsOf [], [], 25, (fun x => if x = 2 then some [0, 4] else none), (fun x => if x = 0 then some [] else if x = 1 then some [0, 4] else none), some [2, 3]⟩, fun _ => none, fun _ => none, fun _ => []⟩
noncomputable def C_ref02_Value : Code := Tryd.f8.body.getD .skip
noncomputable def R_ref02_Value : Array ResultVar := Tryd.f8.results
theorem ref02_Value_l2_ok (K : Ex → Fr → Option AV) : ∀ (n : Nat) (c0 : UInt8) (n4 : Int), evLP E_ref02_Value n (sub C_ref02_Value [1, 0, 1, 0, 0]) K (frOf [(0, (.dat .byte c0 none)), (4, (.dat (.int .i64) n4 none))]) = ref02_Value_l2 (fun s2 s3 => K .ret (frOf [(2, (.dat (.int .i64) s2 none)), (3, (.dat .bool s3 none))])) (K (.exit 0) (frOf [])) n c0 n4 := by
  intro n
  induction n with
  | zero => intros; rfl
  | succ n IH =>
  intro c0 n4
  have ih : (fun c0 n4 => evLP E_ref02_Value n (sub C_ref02_Value [1, 0, 1, 0, 0]) K (frOf [(0, (.dat .byte c0 none)), (4, (.dat (.int .i64) n4 none))])) = ref02_Value_l2 (fun s2 s3 => K .ret (frOf [(2, (.dat (.int .i64) s2 none)), (3, (.dat .bool s3 none))])) (K (.exit 0) (frOf [])) n := by
    funext c0 n4
    exact IH c0 n4
  show _ = ref02_Value_l2_b (fun s2 s3 => K .ret (frOf [(2, (.dat (.int .i64) s2 none)), (3, (.dat .bool s3 none))])) (K (.exit 0) (frOf [])) (ref02_Value_l2 (fun s2 s3 => K .ret (frOf [(2, (.dat (.int .i64) s2 none)), (3, (.dat .bool s3 none))])) (K (.exit 0) (frOf [])) n) n c0 n4
  rw [← ih]
  kernel_rfl
theorem ref02_Value_k2_0_ok (n : Nat)  : (kBlockP 0 (E_ref02_Value.cutb 0) (kSeq (evCP E_ref02_Value (evLP E_ref02_Value n) (sub C_ref02_Value [1, 1])) (kFnP E_ref02_Value R_ref02_Value))) (.exit 0) (frOf []) = ref02_Value_k2_0 n  := by
  kernel_rfl
theorem ref02_Value_ev (n : Nat) (c0 : UInt8) (o0 : Lab) : evFnP E_ref02_Value n C_ref02_Value R_ref02_Value [.dat .byte c0 o0] = ref02_Value_sh n c0 := by
  unfold ref02_Value_sh
  rw [show ref02_Value_l2 ref02_Value_ret (ref02_Value_k2_0 n) n = (fun c0 n4 => evLP E_ref02_Value n (sub C_ref02_Value [1, 0, 1, 0, 0]) (kBlockP 0 (E_ref02_Value.cutb 0) (kSeq (evCP E_ref02_Value (evLP E_ref02_Value n) (sub C_ref02_Value [1, 1])) (kFnP E_ref02_Value R_ref02_Value))) (frOf [(0, (.dat .byte c0 none)), (4, (.dat (.int .i64) n4 none))])) from by
    funext c0 n4
    refine Eq.trans ?_ (ref02_Value_l2_ok (kBlockP 0 (E_ref02_Value.cutb 0) (kSeq (evCP E_ref02_Value (evLP E_ref02_Value n) (sub C_ref02_Value [1, 1])) (kFnP E_ref02_Value R_ref02_Value))) n c0 n4).symm
    rw [show ((kBlockP 0 (E_ref02_Value.cutb 0) (kSeq (evCP E_ref02_Value (evLP E_ref02_Value n) (sub C_ref02_Value [1, 1])) (kFnP E_ref02_Value R_ref02_Value))) (.exit 0) (frOf [])) = (ref02_Value_k2_0 n) from by
      exact ref02_Value_k2_0_ok n ]
    all_goals kernel_rfl]
  kernel_rfl
theorem ref02_Value_sound : SoundG G Tryd.prog 8 s_ref02_Value := by
  refine sound_of_evP' G_stays (E := E_ref02_Value) (fn := Tryd.f8) (c := C_ref02_Value) (tyOk_of_table rfl tis_ok) (fun w S hg => ⟨⟨(fns_cons (ref02_Digit_sound w S hg) fns_nil), fun f sp h => cns_nil f sp h w S⟩, gl_none w S hg⟩) follows Tryd.func8 (by kernel_rfl) (by kernel_rfl) (by kernel_rfl) ?_
  intro avs r h
  unfold s_ref02_Value at h
  split at h
  · simp only [Prod.mk.injEq, true_and] at h
    subst h
    obtain ⟨n, hn⟩ := ref02_Value_math _
    exact ⟨n, _, (ref02_Value_ev n _ _).trans hn, .inl rfl⟩
  · cases h

/-! sheave/hexa.pair -/

noncomputable def E_hexa_pair : EnvP := ⟨⟨tiOf tis, fnsOf [(7, s_hexa_Value)], cnsOf [], [], 31, (fun _ => none), (fun _ => none), some [4, 5]⟩, fun _ => none, fun _ => none, fun _ => []⟩
noncomputable def C_hexa_pair : Code := Tryd.f25.body.getD .skip
noncomputable def R_hexa_pair : Array ResultVar := Tryd.f25.results
theorem hexa_pair_ev (n : Nat) (a0 : UInt8) (o0 : Lab) (b1 : UInt8) (o1 : Lab) : evFnP E_hexa_pair n C_hexa_pair R_hexa_pair [.dat .byte a0 o0, .dat .byte b1 o1] = hexa_pair_sh n a0 b1 := by
  kernel_rfl
theorem hexa_pair_sound : SoundG G Tryd.prog 25 s_hexa_pair := by
  refine sound_of_evP' G_stays (E := E_hexa_pair) (fn := Tryd.f25) (c := C_hexa_pair) (tyOk_of_table rfl tis_ok) (fun w S hg => ⟨⟨(fns_cons (hexa_Value_sound w S hg) fns_nil), fun f sp h => cns_nil f sp h w S⟩, gl_none w S hg⟩) follows Tryd.func25 (by kernel_rfl) (by kernel_rfl) (by kernel_rfl) ?_
  intro avs r h
  unfold s_hexa_pair at h
  split at h
  · simp only [Prod.mk.injEq, true_and] at h
    subst h
    obtain ⟨n, hn⟩ := hexa_pair_math _ _
    exact ⟨n, _, (hexa_pair_ev n _ _ _ _).trans hn, .inl rfl⟩
  · cases h

/-! sheave/hexa.Take -/

noncomputable def E_hexa_Take : EnvP := ⟨⟨tiOf tis, fnsOf [(25, s_hexa_pair)], cnsOf [], [], 38, (fun _ => none), (fun _ => none), some [6, 7]⟩, fun _ => none, fun _ => none, fun _ => []⟩
noncomputable def C_hexa_Take : Code := Tryd.f12.body.getD .skip
noncomputable def R_hexa_Take : Array ResultVar := Tryd.f12.results
theorem hexa_Take_ev (n : Nat) (s0 : List UInt8) (o0 : Lab) (at1 : Int) (o1 : Lab) (sign2 : UInt8) (o2 : Lab) : evFnP E_hexa_Take n C_hexa_Take R_hexa_Take [.dat (.sl .byte) s0 o0, .dat (.int .i64) at1 o1, .dat .byte sign2 o2] = hexa_Take_sh n s0 at1 sign2 := by
  kernel_rfl
theorem hexa_Take_sound : SoundG G Tryd.prog 12 s_hexa_Take := by
  refine sound_of_evP' G_stays (E := E_hexa_Take) (fn := Tryd.f12) (c := C_hexa_Take) (tyOk_of_table rfl tis_ok) (fun w S hg => ⟨⟨(fns_cons (hexa_pair_sound w S hg) fns_nil), fun f sp h => cns_nil f sp h w S⟩, gl_none w S hg⟩) follows Tryd.func12 (by kernel_rfl) (by kernel_rfl) (by kernel_rfl) ?_
  intro avs r h
  unfold s_hexa_Take at h
  split at h
  · simp only [Prod.mk.injEq] at h
    obtain ⟨hp, rfl⟩ := h
    obtain ⟨n, hn⟩ := hexa_Take_math _ _ _ hp
    exact ⟨n, _, (hexa_Take_ev n _ _ _ _ _ _).trans hn, .inl rfl⟩
  · cases h

/-! sheave/sheaveref02.Take -/

noncomputable def E_ref02_Take : EnvP := ⟨⟨tiOf tis, fnsOf [(8, s_ref02_Value)], cnsOf [], [], 58, (fun _ => none), (fun _ => none), some [6, 7]⟩, fun _ => none, fun _ => none, fun _ => []⟩
noncomputable def C_ref02_Take : Code := Tryd.f13.body.getD .skip
noncomputable def R_ref02_Take : Array ResultVar := Tryd.f13.results
theorem ref02_Take_ev (n : Nat) (s0 : List UInt8) (o0 : Lab) (at1 : Int) (o1 : Lab) (sign2 : UInt8) (o2 : Lab) : evFnP E_ref02_Take n C_ref02_Take R_ref02_Take [.dat (.sl .byte) s0 o0, .dat (.int .i64) at1 o1, .dat .byte sign2 o2] = ref02_Take_sh n s0 at1 sign2 := by
  kernel_rfl
theorem ref02_Take_sound : SoundG G Tryd.prog 13 s_ref02_Take := by
  refine sound_of_evP' G_stays (E := E_ref02_Take) (fn := Tryd.f13) (c := C_ref02_Take) (tyOk_of_table rfl tis_ok) (fun w S hg => ⟨⟨(fns_cons (ref02_Value_sound w S hg) fns_nil), fun f sp h => cns_nil f sp h w S⟩, gl_none w S hg⟩) follows Tryd.func13 (by kernel_rfl) (by kernel_rfl) (by kernel_rfl) ?_
  intro avs r h
  unfold s_ref02_Take at h
  split at h
  · simp only [Prod.mk.injEq] at h
    obtain ⟨hp, rfl⟩ := h
    obtain ⟨n, hn⟩ := ref02_Take_math _ _ _ hp
    exact ⟨n, _, (ref02_Take_ev n _ _ _ _ _ _).trans hn, .inl rfl⟩
  · cases h

/-! sheave/hexa.both -/

noncomputable def E_hexa_both : EnvP := ⟨⟨tiOf tis, fnsOf [(9, s_hexa_Digit)], cnsOf [], [], 11, (fun _ => none), (fun _ => none), some [2]⟩, fun _ => none, fun _ => none, fun _ => []⟩
noncomputable def C_hexa_both : Code := Tryd.f27.body.getD .skip
noncomputable def R_hexa_both : Array ResultVar := Tryd.f27.results
theorem hexa_both_ev (n : Nat) (c0 : UInt8) (o0 : Lab) : evFnP E_hexa_both n C_hexa_both R_hexa_both [.dat .byte c0 o0] = hexa_both_sh n c0 := by
  kernel_rfl
theorem hexa_both_sound : SoundG G Tryd.prog 27 s_hexa_both := by
  refine sound_of_evP' G_stays (E := E_hexa_both) (fn := Tryd.f27) (c := C_hexa_both) (tyOk_of_table rfl tis_ok) (fun w S hg => ⟨⟨(fns_cons (hexa_Digit_sound w S hg) fns_nil), fun f sp h => cns_nil f sp h w S⟩, gl_none w S hg⟩) follows Tryd.func27 (by kernel_rfl) (by kernel_rfl) (by kernel_rfl) ?_
  intro avs r h
  unfold s_hexa_both at h
  split at h
  · simp only [Prod.mk.injEq, true_and] at h
    subst h
    obtain ⟨n, hn⟩ := hexa_both_math _
    exact ⟨n, _, (hexa_both_ev n _ _).trans hn, .inl rfl⟩
  · cases h

/-! sheave/hexa.Put -/

noncomputable def E_hexa_Put : EnvP := ⟨⟨tiOf tis, fnsOf [(26, s_bytes_Clone), (27, s_hexa_both)], cnsOf [], [], 15, (fun _ => none), (fun _ => none), some [6]⟩, fun _ => none, fun _ => none, fun _ => []⟩
noncomputable def C_hexa_Put : Code := Tryd.f14.body.getD .skip
noncomputable def R_hexa_Put : Array ResultVar := Tryd.f14.results
theorem hexa_Put_ev (n : Nat) (b0 : List UInt8) (o0 : Lab) (sign1 : UInt8) (o1 : Lab) (c2 : UInt8) (o2 : Lab) : evFnP E_hexa_Put n C_hexa_Put R_hexa_Put [.dat (.sl .byte) b0 o0, .dat .byte sign1 o1, .dat .byte c2 o2] = hexa_Put_sh n b0 sign1 c2 := by
  kernel_rfl
theorem hexa_Put_sound : SoundG G Tryd.prog 14 s_hexa_Put := by
  refine sound_of_evP' G_stays (E := E_hexa_Put) (fn := Tryd.f14) (c := C_hexa_Put) (tyOk_of_table rfl tis_ok) (fun w S hg => ⟨⟨(fns_cons (bytes_Clone_sound w S hg) (fns_cons (hexa_both_sound w S hg) fns_nil)), fun f sp h => cns_nil f sp h w S⟩, gl_none w S hg⟩) follows Tryd.func14 (by kernel_rfl) (by kernel_rfl) (by kernel_rfl) ?_
  intro avs r h
  unfold s_hexa_Put at h
  split at h
  · simp only [Prod.mk.injEq] at h
    obtain ⟨hp, rfl⟩ := h
    obtain ⟨n, hn⟩ := hexa_Put_math _ _ _ hp
    exact ⟨n, _, (hexa_Put_ev n _ _ _ _ _ _).trans hn, .inl rfl⟩
  · cases h

/-! sheave/sheaveref02.Put -/

noncomputable def E_ref02_Put : EnvP := ⟨⟨tiOf tis, fnsOf [(10, s_ref02_Digit)], cnsOf [], [], 20, (fun _ => none), (fun _ => none), some [6]⟩, fun _ => none, fun _ => none, fun _ => []⟩
noncomputable def C_ref02_Put : Code := Tryd.f16.body.getD .skip
noncomputable def R_ref02_Put : Array ResultVar := Tryd.f16.results
theorem ref02_Put_ev (n : Nat) (b0 : List UInt8) (o0 : Lab) (sign1 : UInt8) (o1 : Lab) (c2 : UInt8) (o2 : Lab) : evFnP E_ref02_Put n C_ref02_Put R_ref02_Put [.dat (.sl .byte) b0 o0, .dat .byte sign1 o1, .dat .byte c2 o2] = ref02_Put_sh n b0 sign1 c2 := by
  kernel_rfl
theorem ref02_Put_sound : SoundG G Tryd.prog 16 s_ref02_Put := by
  refine sound_of_evP' G_stays (E := E_ref02_Put) (fn := Tryd.f16) (c := C_ref02_Put) (tyOk_of_table rfl tis_ok) (fun w S hg => ⟨⟨(fns_cons (ref02_Digit_sound w S hg) fns_nil), fun f sp h => cns_nil f sp h w S⟩, gl_none w S hg⟩) follows Tryd.func16 (by kernel_rfl) (by kernel_rfl) (by kernel_rfl) ?_
  intro avs r h
  unfold s_ref02_Put at h
  split at h
  · simp only [Prod.mk.injEq] at h
    obtain ⟨hp, rfl⟩ := h
    obtain ⟨n, hn⟩ := ref02_Put_math _ _ _ hp
    exact ⟨n, _, (ref02_Put_ev n _ _ _ _ _ _).trans hn, .inl rfl⟩
  · cases h

/-! sheave/hexa.Read -/

noncomputable def E_hexa_Read : EnvP := ⟨⟨tiOf tis, fnsOf [(7, s_hexa_Value), (25, s_hexa_pair)], cnsOf [], [], 58, (fun x => if x = 2 then some [0, 12, 13] else if x = 12 then some [0, 7, 33, 34] else none), (fun x => if x = 0 then some [0] else if x = 1 then some [0, 12, 13] else if x = 2 then some [7] else if x = 3 then some [0, 7, 33, 34] else none), some [2, 3]⟩, fun _ => none, fun _ => none, fun _ => []⟩
noncomputable def C_hexa_Read : Code := Tryd.f17.body.getD .skip
noncomputable def R_hexa_Read : Array ResultVar := Tryd.f17.results
theorem hexa_Read_l2_ok (K : Ex → Fr → Option AV) : ∀ (n : Nat) (s0 : List UInt8) (s12 : Int) (s13 : Int), evLP E_hexa_Read n (sub C_hexa_Read [1, 0, 1, 0, 0]) K (frOf [(0, (.dat (.sl .byte) s0 none)), (12, (.dat (.int .i64) s12 none)), (13, (.dat (.int .i64) s13 none))]) = hexa_Read_l2 (fun s2 s3 => K .ret (frOf [(2, (.dat (.sl .byte) s2 (some (2, 5)))), (3, (.dat (.int .i64) s3 none))])) (fun s0 => K (.exit 0) (frOf [(0, (.dat (.sl .byte) s0 none))])) n s0 s12 s13 := by
  intro n
  induction n with
  | zero => intros; rfl
  | succ n IH =>
  intro s0 s12 s13
  have ih : (fun s0 s12 s13 => evLP E_hexa_Read n (sub C_hexa_Read [1, 0, 1, 0, 0]) K (frOf [(0, (.dat (.sl .byte) s0 none)), (12, (.dat (.int .i64) s12 none)), (13, (.dat (.int .i64) s13 none))])) = hexa_Read_l2 (fun s2 s3 => K .ret (frOf [(2, (.dat (.sl .byte) s2 (some (2, 5)))), (3, (.dat (.int .i64) s3 none))])) (fun s0 => K (.exit 0) (frOf [(0, (.dat (.sl .byte) s0 none))])) n := by
    funext s0 s12 s13
    exact IH s0 s12 s13
  show _ = hexa_Read_l2_b (fun s2 s3 => K .ret (frOf [(2, (.dat (.sl .byte) s2 (some (2, 5)))), (3, (.dat (.int .i64) s3 none))])) (fun s0 => K (.exit 0) (frOf [(0, (.dat (.sl .byte) s0 none))])) (hexa_Read_l2 (fun s2 s3 => K .ret (frOf [(2, (.dat (.sl .byte) s2 (some (2, 5)))), (3, (.dat (.int .i64) s3 none))])) (fun s0 => K (.exit 0) (frOf [(0, (.dat (.sl .byte) s0 none))])) n) n s0 s12 s13
  rw [← ih]
  kernel_rfl
theorem hexa_Read_l12_ok (K : Ex → Fr → Option AV) : ∀ (n : Nat) (s0 : List UInt8) (out7 : List UInt8) (s33 : Int) (s34 : Int), evLP E_hexa_Read n (sub C_hexa_Read [1, 1, 1, 1, 0, 1, 0, 0]) K (frOf [(0, (.dat (.sl .byte) s0 none)), (7, (.dat (.sl .byte) out7 (some (7, 5)))), (33, (.dat (.int .i64) s33 none)), (34, (.dat (.int .i64) s34 none))]) = hexa_Read_l12 (fun out7 => K (.exit 2) (frOf [(7, (.dat (.sl .byte) out7 (some (7, 5))))])) n s0 out7 s33 s34 := by
  intro n
  induction n with
  | zero => intros; rfl
  | succ n IH =>
  intro s0 out7 s33 s34
  have ih : (fun s0 out7 s33 s34 => evLP E_hexa_Read n (sub C_hexa_Read [1, 1, 1, 1, 0, 1, 0, 0]) K (frOf [(0, (.dat (.sl .byte) s0 none)), (7, (.dat (.sl .byte) out7 (some (7, 5)))), (33, (.dat (.int .i64) s33 none)), (34, (.dat (.int .i64) s34 none))])) = hexa_Read_l12 (fun out7 => K (.exit 2) (frOf [(7, (.dat (.sl .byte) out7 (some (7, 5))))])) n := by
    funext s0 out7 s33 s34
    exact IH s0 out7 s33 s34
  show _ = hexa_Read_l12_b (fun out7 => K (.exit 2) (frOf [(7, (.dat (.sl .byte) out7 (some (7, 5))))])) (hexa_Read_l12 (fun out7 => K (.exit 2) (frOf [(7, (.dat (.sl .byte) out7 (some (7, 5))))])) n) n s0 out7 s33 s34
  rw [← ih]
  kernel_rfl
theorem hexa_Read_k12_2_ok (n : Nat) (out7 : List UInt8) : (kBlockP 2 (E_hexa_Read.cutb 2) (kSeq (evCP E_hexa_Read (evLP E_hexa_Read n) (sub C_hexa_Read [1, 1, 1, 1, 1])) (kFnP E_hexa_Read R_hexa_Read))) (.exit 2) (frOf [(7, (.dat (.sl .byte) out7 (some (7, 5))))]) = hexa_Read_k12_2 n out7 := by
  kernel_rfl
theorem hexa_Read_k2_0_ok (n : Nat) (s0 : List UInt8) : (kBlockP 0 (E_hexa_Read.cutb 0) (kSeq (evCP E_hexa_Read (evLP E_hexa_Read n) (sub C_hexa_Read [1, 1])) (kFnP E_hexa_Read R_hexa_Read))) (.exit 0) (frOf [(0, (.dat (.sl .byte) s0 none))]) = hexa_Read_k2_0 n s0 := by
  unfold hexa_Read_k2_0
  rw [show hexa_Read_l12 (hexa_Read_k12_2 n) n = (fun s0 out7 s33 s34 => evLP E_hexa_Read n (sub C_hexa_Read [1, 1, 1, 1, 0, 1, 0, 0]) (kBlockP 2 (E_hexa_Read.cutb 2) (kSeq (evCP E_hexa_Read (evLP E_hexa_Read n) (sub C_hexa_Read [1, 1, 1, 1, 1])) (kFnP E_hexa_Read R_hexa_Read))) (frOf [(0, (.dat (.sl .byte) s0 none)), (7, (.dat (.sl .byte) out7 (some (7, 5)))), (33, (.dat (.int .i64) s33 none)), (34, (.dat (.int .i64) s34 none))])) from by
    funext s0 out7 s33 s34
    refine Eq.trans ?_ (hexa_Read_l12_ok (kBlockP 2 (E_hexa_Read.cutb 2) (kSeq (evCP E_hexa_Read (evLP E_hexa_Read n) (sub C_hexa_Read [1, 1, 1, 1, 1])) (kFnP E_hexa_Read R_hexa_Read))) n s0 out7 s33 s34).symm
    rw [show (fun out7 => (kBlockP 2 (E_hexa_Read.cutb 2) (kSeq (evCP E_hexa_Read (evLP E_hexa_Read n) (sub C_hexa_Read [1, 1, 1, 1, 1])) (kFnP E_hexa_Read R_hexa_Read))) (.exit 2) (frOf [(7, (.dat (.sl .byte) out7 (some (7, 5))))])) = (hexa_Read_k12_2 n) from by
      funext out7
      exact hexa_Read_k12_2_ok n out7]
    all_goals kernel_rfl]
  kernel_rfl
theorem hexa_Read_ev (n : Nat) (s0 : List UInt8) (o0 : Lab) : evFnP E_hexa_Read n C_hexa_Read R_hexa_Read [.dat (.sl .byte) s0 o0] = hexa_Read_sh n s0 := by
  unfold hexa_Read_sh
  rw [show hexa_Read_l2 hexa_Read_ret (hexa_Read_k2_0 n) n = (fun s0 s12 s13 => evLP E_hexa_Read n (sub C_hexa_Read [1, 0, 1, 0, 0]) (kBlockP 0 (E_hexa_Read.cutb 0) (kSeq (evCP E_hexa_Read (evLP E_hexa_Read n) (sub C_hexa_Read [1, 1])) (kFnP E_hexa_Read R_hexa_Read))) (frOf [(0, (.dat (.sl .byte) s0 none)), (12, (.dat (.int .i64) s12 none)), (13, (.dat (.int .i64) s13 none))])) from by
    funext s0 s12 s13
    refine Eq.trans ?_ (hexa_Read_l2_ok (kBlockP 0 (E_hexa_Read.cutb 0) (kSeq (evCP E_hexa_Read (evLP E_hexa_Read n) (sub C_hexa_Read [1, 1])) (kFnP E_hexa_Read R_hexa_Read))) n s0 s12 s13).symm
    rw [show (fun s0 => (kBlockP 0 (E_hexa_Read.cutb 0) (kSeq (evCP E_hexa_Read (evLP E_hexa_Read n) (sub C_hexa_Read [1, 1])) (kFnP E_hexa_Read R_hexa_Read))) (.exit 0) (frOf [(0, (.dat (.sl .byte) s0 none))])) = (hexa_Read_k2_0 n) from by
      funext s0
      exact hexa_Read_k2_0_ok n s0]
    all_goals kernel_rfl]
  kernel_rfl
theorem hexa_Read_sound : SoundG G Tryd.prog 17 s_hexa_Read := by
  refine sound_of_evP' G_stays (E := E_hexa_Read) (fn := Tryd.f17) (c := C_hexa_Read) (tyOk_of_table rfl tis_ok) (fun w S hg => ⟨⟨(fns_cons (hexa_Value_sound w S hg) (fns_cons (hexa_pair_sound w S hg) fns_nil)), fun f sp h => cns_nil f sp h w S⟩, gl_none w S hg⟩) follows Tryd.func17 (by kernel_rfl) (by kernel_rfl) (by kernel_rfl) ?_
  intro avs r h
  unfold s_hexa_Read at h
  split at h
  · simp only [Prod.mk.injEq] at h
    obtain ⟨hp, rfl⟩ := h
    obtain ⟨n, hn⟩ := hexa_Read_math _ hp
    exact ⟨n, _, (hexa_Read_ev n _ _).trans hn, .inl rfl⟩
  · cases h

/-! sheave/sheaveref02.Read -/

noncomputable def E_ref02_Read : EnvP := ⟨⟨tiOf tis, fnsOf [(8, s_ref02_Value)], cnsOf [], [], 65, (fun x => if x = 2 then some [0, 4] else if x = 11 then some [0, 7, 8] else none), (fun x => if x = 0 then some [0] else if x = 1 then some [0, 4] else if x = 2 then some [7] else if x = 3 then some [0, 7, 8] else none), some [2, 3]⟩, fun _ => none, fun _ => none, fun _ => []⟩
noncomputable def C_ref02_Read : Code := Tryd.f18.body.getD .skip
noncomputable def R_ref02_Read : Array ResultVar := Tryd.f18.results
theorem ref02_Read_l2_ok (K : Ex → Fr → Option AV) : ∀ (n : Nat) (s0 : List UInt8) (i4 : Int), evLP E_ref02_Read n (sub C_ref02_Read [1, 0, 1, 0, 0]) K (frOf [(0, (.dat (.sl .byte) s0 none)), (4, (.dat (.int .i64) i4 none))]) = ref02_Read_l2 (fun s2 s3 => K .ret (frOf [(2, (.dat (.sl .byte) s2 (some (2, 5)))), (3, (.dat (.int .i64) s3 none))])) (fun s0 => K (.exit 0) (frOf [(0, (.dat (.sl .byte) s0 none))])) n s0 i4 := by
  intro n
  induction n with
  | zero => intros; rfl
  | succ n IH =>
  intro s0 i4
  have ih : (fun s0 i4 => evLP E_ref02_Read n (sub C_ref02_Read [1, 0, 1, 0, 0]) K (frOf [(0, (.dat (.sl .byte) s0 none)), (4, (.dat (.int .i64) i4 none))])) = ref02_Read_l2 (fun s2 s3 => K .ret (frOf [(2, (.dat (.sl .byte) s2 (some (2, 5)))), (3, (.dat (.int .i64) s3 none))])) (fun s0 => K (.exit 0) (frOf [(0, (.dat (.sl .byte) s0 none))])) n := by
    funext s0 i4
    exact IH s0 i4
  show _ = ref02_Read_l2_b (fun s2 s3 => K .ret (frOf [(2, (.dat (.sl .byte) s2 (some (2, 5)))), (3, (.dat (.int .i64) s3 none))])) (fun s0 => K (.exit 0) (frOf [(0, (.dat (.sl .byte) s0 none))])) (ref02_Read_l2 (fun s2 s3 => K .ret (frOf [(2, (.dat (.sl .byte) s2 (some (2, 5)))), (3, (.dat (.int .i64) s3 none))])) (fun s0 => K (.exit 0) (frOf [(0, (.dat (.sl .byte) s0 none))])) n) n s0 i4
  rw [← ih]
  kernel_rfl
theorem ref02_Read_l11_ok (K : Ex → Fr → Option AV) : ∀ (n : Nat) (s0 : List UInt8) (out7 : List UInt8) (i8 : Int), evLP E_ref02_Read n (sub C_ref02_Read [1, 1, 1, 1, 0, 1, 0, 0]) K (frOf [(0, (.dat (.sl .byte) s0 none)), (7, (.dat (.sl .byte) out7 (some (7, 5)))), (8, (.dat (.int .i64) i8 none))]) = ref02_Read_l11 (fun out7 => K (.exit 2) (frOf [(7, (.dat (.sl .byte) out7 (some (7, 5))))])) n s0 out7 i8 := by
  intro n
  induction n with
  | zero => intros; rfl
  | succ n IH =>
  intro s0 out7 i8
  have ih : (fun s0 out7 i8 => evLP E_ref02_Read n (sub C_ref02_Read [1, 1, 1, 1, 0, 1, 0, 0]) K (frOf [(0, (.dat (.sl .byte) s0 none)), (7, (.dat (.sl .byte) out7 (some (7, 5)))), (8, (.dat (.int .i64) i8 none))])) = ref02_Read_l11 (fun out7 => K (.exit 2) (frOf [(7, (.dat (.sl .byte) out7 (some (7, 5))))])) n := by
    funext s0 out7 i8
    exact IH s0 out7 i8
  show _ = ref02_Read_l11_b (fun out7 => K (.exit 2) (frOf [(7, (.dat (.sl .byte) out7 (some (7, 5))))])) (ref02_Read_l11 (fun out7 => K (.exit 2) (frOf [(7, (.dat (.sl .byte) out7 (some (7, 5))))])) n) n s0 out7 i8
  rw [← ih]
  kernel_rfl
theorem ref02_Read_k11_2_ok (n : Nat) (out7 : List UInt8) : (kBlockP 2 (E_ref02_Read.cutb 2) (kSeq (evCP E_ref02_Read (evLP E_ref02_Read n) (sub C_ref02_Read [1, 1, 1, 1, 1])) (kFnP E_ref02_Read R_ref02_Read))) (.exit 2) (frOf [(7, (.dat (.sl .byte) out7 (some (7, 5))))]) = ref02_Read_k11_2 n out7 := by
  kernel_rfl
theorem ref02_Read_k2_0_ok (n : Nat) (s0 : List UInt8) : (kBlockP 0 (E_ref02_Read.cutb 0) (kSeq (evCP E_ref02_Read (evLP E_ref02_Read n) (sub C_ref02_Read [1, 1])) (kFnP E_ref02_Read R_ref02_Read))) (.exit 0) (frOf [(0, (.dat (.sl .byte) s0 none))]) = ref02_Read_k2_0 n s0 := by
  unfold ref02_Read_k2_0
  rw [show ref02_Read_l11 (ref02_Read_k11_2 n) n = (fun s0 out7 i8 => evLP E_ref02_Read n (sub C_ref02_Read [1, 1, 1, 1, 0, 1, 0, 0]) (kBlockP 2 (E_ref02_Read.cutb 2) (kSeq (evCP E_ref02_Read (evLP E_ref02_Read n) (sub C_ref02_Read [1, 1, 1, 1, 1])) (kFnP E_ref02_Read R_ref02_Read))) (frOf [(0, (.dat (.sl .byte) s0 none)), (7, (.dat (.sl .byte) out7 (some (7, 5)))), (8, (.dat (.int .i64) i8 none))])) from by
    funext s0 out7 i8
    refine Eq.trans ?_ (ref02_Read_l11_ok (kBlockP 2 (E_ref02_Read.cutb 2) (kSeq (evCP E_ref02_Read (evLP E_ref02_Read n) (sub C_ref02_Read [1, 1, 1, 1, 1])) (kFnP E_ref02_Read R_ref02_Read))) n s0 out7 i8).symm
    rw [show (fun out7 => (kBlockP 2 (E_ref02_Read.cutb 2) (kSeq (evCP E_ref02_Read (evLP E_ref02_Read n) (sub C_ref02_Read [1, 1, 1, 1, 1])) (kFnP E_ref02_Read R_ref02_Read))) (.exit 2) (frOf [(7, (.dat (.sl .byte) out7 (some (7, 5))))])) = (ref02_Read_k11_2 n) from by
      funext out7
      exact ref02_Read_k11_2_ok n out7]
    all_goals kernel_rfl]
  kernel_rfl
theorem ref02_Read_ev (n : Nat) (s0 : List UInt8) (o0 : Lab) : evFnP E_ref02_Read n C_ref02_Read R_ref02_Read [.dat (.sl .byte) s0 o0] = ref02_Read_sh n s0 := by
  unfold ref02_Read_sh
  rw [show ref02_Read_l2 ref02_Read_ret (ref02_Read_k2_0 n) n = (fun s0 i4 => evLP E_ref02_Read n (sub C_ref02_Read [1, 0, 1, 0, 0]) (kBlockP 0 (E_ref02_Read.cutb 0) (kSeq (evCP E_ref02_Read (evLP E_ref02_Read n) (sub C_ref02_Read [1, 1])) (kFnP E_ref02_Read R_ref02_Read))) (frOf [(0, (.dat (.sl .byte) s0 none)), (4, (.dat (.int .i64) i4 none))])) from by
    funext s0 i4
    refine Eq.trans ?_ (ref02_Read_l2_ok (kBlockP 0 (E_ref02_Read.cutb 0) (kSeq (evCP E_ref02_Read (evLP E_ref02_Read n) (sub C_ref02_Read [1, 1])) (kFnP E_ref02_Read R_ref02_Read))) n s0 i4).symm
    rw [show (fun s0 => (kBlockP 0 (E_ref02_Read.cutb 0) (kSeq (evCP E_ref02_Read (evLP E_ref02_Read n) (sub C_ref02_Read [1, 1])) (kFnP E_ref02_Read R_ref02_Read))) (.exit 0) (frOf [(0, (.dat (.sl .byte) s0 none))])) = (ref02_Read_k2_0 n) from by
      funext s0
      exact ref02_Read_k2_0_ok n s0]
    all_goals kernel_rfl]
  kernel_rfl
theorem ref02_Read_sound : SoundG G Tryd.prog 18 s_ref02_Read := by
  refine sound_of_evP' G_stays (E := E_ref02_Read) (fn := Tryd.f18) (c := C_ref02_Read) (tyOk_of_table rfl tis_ok) (fun w S hg => ⟨⟨(fns_cons (ref02_Value_sound w S hg) fns_nil), fun f sp h => cns_nil f sp h w S⟩, gl_none w S hg⟩) follows Tryd.func18 (by kernel_rfl) (by kernel_rfl) (by kernel_rfl) ?_
  intro avs r h
  unfold s_ref02_Read at h
  split at h
  · simp only [Prod.mk.injEq] at h
    obtain ⟨hp, rfl⟩ := h
    obtain ⟨n, hn⟩ := ref02_Read_math _ hp
    exact ⟨n, _, (ref02_Read_ev n _ _).trans hn, .inl rfl⟩
  · cases h

/-! sheave/hexa.Lay -/

noncomputable def E_hexa_Lay : EnvP := ⟨⟨tiOf tis, fnsOf [(27, s_hexa_both)], cnsOf [], [], 18, (fun x => if x = 3 then some [3, 6, 7, 8] else none), (fun x => if x = 0 then some [3] else if x = 1 then some [3, 6, 7, 8] else none), some [2]⟩, fun _ => none, fun _ => none, fun _ => []⟩
noncomputable def C_hexa_Lay : Code := Tryd.f19.body.getD .skip
noncomputable def R_hexa_Lay : Array ResultVar := Tryd.f19.results
theorem hexa_Lay_l3_ok (K : Ex → Fr → Option AV) : ∀ (n : Nat) (out3 : List UInt8) (s6 : List UInt8) (s7 : Int) (s8 : Int), evLP E_hexa_Lay n (sub C_hexa_Lay [1, 1, 0, 1, 0, 0]) K (frOf [(3, (.dat (.sl .byte) out3 (some (3, 5)))), (6, (.dat (.sl .byte) s6 none)), (7, (.dat (.int .i64) s7 none)), (8, (.dat (.int .i64) s8 none))]) = hexa_Lay_l3 (fun out3 => K (.exit 0) (frOf [(3, (.dat (.sl .byte) out3 (some (3, 5))))])) n out3 s6 s7 s8 := by
  intro n
  induction n with
  | zero => intros; rfl
  | succ n IH =>
  intro out3 s6 s7 s8
  have ih : (fun out3 s6 s7 s8 => evLP E_hexa_Lay n (sub C_hexa_Lay [1, 1, 0, 1, 0, 0]) K (frOf [(3, (.dat (.sl .byte) out3 (some (3, 5)))), (6, (.dat (.sl .byte) s6 none)), (7, (.dat (.int .i64) s7 none)), (8, (.dat (.int .i64) s8 none))])) = hexa_Lay_l3 (fun out3 => K (.exit 0) (frOf [(3, (.dat (.sl .byte) out3 (some (3, 5))))])) n := by
    funext out3 s6 s7 s8
    exact IH out3 s6 s7 s8
  show _ = hexa_Lay_l3_b (fun out3 => K (.exit 0) (frOf [(3, (.dat (.sl .byte) out3 (some (3, 5))))])) (hexa_Lay_l3 (fun out3 => K (.exit 0) (frOf [(3, (.dat (.sl .byte) out3 (some (3, 5))))])) n) n out3 s6 s7 s8
  rw [← ih]
  kernel_rfl
theorem hexa_Lay_k3_0_ok (n : Nat) (out3 : List UInt8) : (kBlockP 0 (E_hexa_Lay.cutb 0) (kSeq (evCP E_hexa_Lay (evLP E_hexa_Lay n) (sub C_hexa_Lay [1, 1, 1])) (kFnP E_hexa_Lay R_hexa_Lay))) (.exit 0) (frOf [(3, (.dat (.sl .byte) out3 (some (3, 5))))]) = hexa_Lay_k3_0 n out3 := by
  kernel_rfl
theorem hexa_Lay_ev (n : Nat) (s0 : List UInt8) (o0 : Lab) : evFnP E_hexa_Lay n C_hexa_Lay R_hexa_Lay [.dat (.sl .byte) s0 o0] = hexa_Lay_sh n s0 := by
  unfold hexa_Lay_sh
  rw [show hexa_Lay_l3 (hexa_Lay_k3_0 n) n = (fun out3 s6 s7 s8 => evLP E_hexa_Lay n (sub C_hexa_Lay [1, 1, 0, 1, 0, 0]) (kBlockP 0 (E_hexa_Lay.cutb 0) (kSeq (evCP E_hexa_Lay (evLP E_hexa_Lay n) (sub C_hexa_Lay [1, 1, 1])) (kFnP E_hexa_Lay R_hexa_Lay))) (frOf [(3, (.dat (.sl .byte) out3 (some (3, 5)))), (6, (.dat (.sl .byte) s6 none)), (7, (.dat (.int .i64) s7 none)), (8, (.dat (.int .i64) s8 none))])) from by
    funext out3 s6 s7 s8
    refine Eq.trans ?_ (hexa_Lay_l3_ok (kBlockP 0 (E_hexa_Lay.cutb 0) (kSeq (evCP E_hexa_Lay (evLP E_hexa_Lay n) (sub C_hexa_Lay [1, 1, 1])) (kFnP E_hexa_Lay R_hexa_Lay))) n out3 s6 s7 s8).symm
    rw [show (fun out3 => (kBlockP 0 (E_hexa_Lay.cutb 0) (kSeq (evCP E_hexa_Lay (evLP E_hexa_Lay n) (sub C_hexa_Lay [1, 1, 1])) (kFnP E_hexa_Lay R_hexa_Lay))) (.exit 0) (frOf [(3, (.dat (.sl .byte) out3 (some (3, 5))))])) = (hexa_Lay_k3_0 n) from by
      funext out3
      exact hexa_Lay_k3_0_ok n out3]
    all_goals kernel_rfl]
  kernel_rfl
theorem hexa_Lay_sound : SoundG G Tryd.prog 19 s_hexa_Lay := by
  refine sound_of_evP' G_stays (E := E_hexa_Lay) (fn := Tryd.f19) (c := C_hexa_Lay) (tyOk_of_table rfl tis_ok) (fun w S hg => ⟨⟨(fns_cons (hexa_both_sound w S hg) fns_nil), fun f sp h => cns_nil f sp h w S⟩, gl_none w S hg⟩) follows Tryd.func19 (by kernel_rfl) (by kernel_rfl) (by kernel_rfl) ?_
  intro avs r h
  unfold s_hexa_Lay at h
  split at h
  · simp only [Prod.mk.injEq] at h
    obtain ⟨hp, rfl⟩ := h
    obtain ⟨n, hn⟩ := hexa_Lay_math _ hp
    exact ⟨n, _, (hexa_Lay_ev n _ _).trans hn, .inl rfl⟩
  · cases h

/-! sheave/sheaveref02.Lay -/

noncomputable def E_ref02_Lay : EnvP := ⟨⟨tiOf tis, fnsOf [(10, s_ref02_Digit)], cnsOf [], [], 29, (fun x => if x = 3 then some [0, 3, 4] else none), (fun x => if x = 0 then some [3] else if x = 1 then some [0, 3, 4] else none), some [2]⟩, fun _ => none, fun _ => none, fun _ => []⟩
noncomputable def C_ref02_Lay : Code := Tryd.f20.body.getD .skip
noncomputable def R_ref02_Lay : Array ResultVar := Tryd.f20.results
theorem ref02_Lay_l3_ok (K : Ex → Fr → Option AV) : ∀ (n : Nat) (s0 : List UInt8) (out3 : List UInt8) (i4 : Int), evLP E_ref02_Lay n (sub C_ref02_Lay [1, 1, 0, 1, 0, 0]) K (frOf [(0, (.dat (.sl .byte) s0 none)), (3, (.dat (.sl .byte) out3 (some (3, 5)))), (4, (.dat (.int .i64) i4 none))]) = ref02_Lay_l3 (fun out3 => K (.exit 0) (frOf [(3, (.dat (.sl .byte) out3 (some (3, 5))))])) n s0 out3 i4 := by
  intro n
  induction n with
  | zero => intros; rfl
  | succ n IH =>
  intro s0 out3 i4
  have ih : (fun s0 out3 i4 => evLP E_ref02_Lay n (sub C_ref02_Lay [1, 1, 0, 1, 0, 0]) K (frOf [(0, (.dat (.sl .byte) s0 none)), (3, (.dat (.sl .byte) out3 (some (3, 5)))), (4, (.dat (.int .i64) i4 none))])) = ref02_Lay_l3 (fun out3 => K (.exit 0) (frOf [(3, (.dat (.sl .byte) out3 (some (3, 5))))])) n := by
    funext s0 out3 i4
    exact IH s0 out3 i4
  show _ = ref02_Lay_l3_b (fun out3 => K (.exit 0) (frOf [(3, (.dat (.sl .byte) out3 (some (3, 5))))])) (ref02_Lay_l3 (fun out3 => K (.exit 0) (frOf [(3, (.dat (.sl .byte) out3 (some (3, 5))))])) n) n s0 out3 i4
  rw [← ih]
  kernel_rfl
theorem ref02_Lay_k3_0_ok (n : Nat) (out3 : List UInt8) : (kBlockP 0 (E_ref02_Lay.cutb 0) (kSeq (evCP E_ref02_Lay (evLP E_ref02_Lay n) (sub C_ref02_Lay [1, 1, 1])) (kFnP E_ref02_Lay R_ref02_Lay))) (.exit 0) (frOf [(3, (.dat (.sl .byte) out3 (some (3, 5))))]) = ref02_Lay_k3_0 n out3 := by
  kernel_rfl
theorem ref02_Lay_ev (n : Nat) (s0 : List UInt8) (o0 : Lab) : evFnP E_ref02_Lay n C_ref02_Lay R_ref02_Lay [.dat (.sl .byte) s0 o0] = ref02_Lay_sh n s0 := by
  unfold ref02_Lay_sh
  rw [show ref02_Lay_l3 (ref02_Lay_k3_0 n) n = (fun s0 out3 i4 => evLP E_ref02_Lay n (sub C_ref02_Lay [1, 1, 0, 1, 0, 0]) (kBlockP 0 (E_ref02_Lay.cutb 0) (kSeq (evCP E_ref02_Lay (evLP E_ref02_Lay n) (sub C_ref02_Lay [1, 1, 1])) (kFnP E_ref02_Lay R_ref02_Lay))) (frOf [(0, (.dat (.sl .byte) s0 none)), (3, (.dat (.sl .byte) out3 (some (3, 5)))), (4, (.dat (.int .i64) i4 none))])) from by
    funext s0 out3 i4
    refine Eq.trans ?_ (ref02_Lay_l3_ok (kBlockP 0 (E_ref02_Lay.cutb 0) (kSeq (evCP E_ref02_Lay (evLP E_ref02_Lay n) (sub C_ref02_Lay [1, 1, 1])) (kFnP E_ref02_Lay R_ref02_Lay))) n s0 out3 i4).symm
    rw [show (fun out3 => (kBlockP 0 (E_ref02_Lay.cutb 0) (kSeq (evCP E_ref02_Lay (evLP E_ref02_Lay n) (sub C_ref02_Lay [1, 1, 1])) (kFnP E_ref02_Lay R_ref02_Lay))) (.exit 0) (frOf [(3, (.dat (.sl .byte) out3 (some (3, 5))))])) = (ref02_Lay_k3_0 n) from by
      funext out3
      exact ref02_Lay_k3_0_ok n out3]
    all_goals kernel_rfl]
  kernel_rfl
theorem ref02_Lay_sound : SoundG G Tryd.prog 20 s_ref02_Lay := by
  refine sound_of_evP' G_stays (E := E_ref02_Lay) (fn := Tryd.f20) (c := C_ref02_Lay) (tyOk_of_table rfl tis_ok) (fun w S hg => ⟨⟨(fns_cons (ref02_Digit_sound w S hg) fns_nil), fun f sp h => cns_nil f sp h w S⟩, gl_none w S hg⟩) follows Tryd.func20 (by kernel_rfl) (by kernel_rfl) (by kernel_rfl) ?_
  intro avs r h
  unfold s_ref02_Lay at h
  split at h
  · simp only [Prod.mk.injEq] at h
    obtain ⟨hp, rfl⟩ := h
    obtain ⟨n, hn⟩ := ref02_Lay_math _ hp
    exact ⟨n, _, (ref02_Lay_ev n _ _).trans hn, .inl rfl⟩
  · cases h

/-! bytes.IndexAny -/

noncomputable def E_bytes_IndexAny (m0 : Int) : EnvP := ⟨⟨tiOf tis, fnsOf [(34, s_internal_bytealg_IndexByteString), (35, s_bytes_IndexRune), (36, s_bytes_shouldUseASCIISet), (37, s_bytes_makeASCIISet), (38, s___bytes_asciiSet__contains), (39, s_unicode_utf8_DecodeRune), (40, (s_internal_bytealg_IndexString m0))], cnsOf [], [], 129, (fun x => if x = 7 then some [28] else if x = 24 then some [7, 60, 61, 62] else if x = 32 then some [0, 1, 12] else if x = 48 then some [0, 1, 11, 12, 13, 121] else none), (fun x => if x = 0 then some [] else if x = 1 then some [28] else if x = 2 then some [] else if x = 3 then some [7, 60, 61, 62] else if x = 4 then some [] else if x = 5 then some [0, 1, 11, 12] else if x = 6 then some [0, 1, 11, 12] else if x = 7 then some [0, 1, 11, 12, 13, 121] else none), some [4]⟩, fun _ => none, glm m0, (fun x => if x = 24 then [7] else [])⟩
noncomputable def C_bytes_IndexAny : Code := Tryd.f31.body.getD .skip
noncomputable def R_bytes_IndexAny : Array ResultVar := Tryd.f31.results
theorem bytes_IndexAny_l7_ok (m0 : Int) (K : Ex → Fr → Option AV) : ∀ (n : Nat) (s28 : List UInt8) (s28p : Nat), evLP (E_bytes_IndexAny m0) n (sub C_bytes_IndexAny [1, 1, 0, 1, 0, 1, 0, 1, 0, 0, 1, 0, 0]) K (frOf [(28, (.itr s28 s28p))]) = (bytes_IndexAny_l7 m0) (fun s4 => K .ret (frOf [(4, (.dat (.int .i64) s4 none))])) (K (.exit 0) (frOf [])) n s28 s28p := by
  intro n
  induction n with
  | zero => intros; rfl
  | succ n IH =>
  intro s28 s28p
  have ih : (fun s28 s28p => evLP (E_bytes_IndexAny m0) n (sub C_bytes_IndexAny [1, 1, 0, 1, 0, 1, 0, 1, 0, 0, 1, 0, 0]) K (frOf [(28, (.itr s28 s28p))])) = (bytes_IndexAny_l7 m0) (fun s4 => K .ret (frOf [(4, (.dat (.int .i64) s4 none))])) (K (.exit 0) (frOf [])) n := by
    funext s28 s28p
    exact IH s28 s28p
  show _ = (bytes_IndexAny_l7_b m0) (fun s4 => K .ret (frOf [(4, (.dat (.int .i64) s4 none))])) (K (.exit 0) (frOf [])) ((bytes_IndexAny_l7 m0) (fun s4 => K .ret (frOf [(4, (.dat (.int .i64) s4 none))])) (K (.exit 0) (frOf [])) n) n s28 s28p
  rw [← ih]
  kernel_rfl
theorem bytes_IndexAny_k7_0_ok (m0 : Int) (n : Nat)  : (kBlockP 0 ((E_bytes_IndexAny m0).cutb 0) (kSeq (evCP (E_bytes_IndexAny m0) (evLP (E_bytes_IndexAny m0) n) (sub C_bytes_IndexAny [1, 1, 0, 1, 0, 1, 0, 1, 0, 1])) (kSeq (evCP (E_bytes_IndexAny m0) (evLP (E_bytes_IndexAny m0) n) (sub C_bytes_IndexAny [1, 1, 0, 1, 0, 1, 1])) (kSeq (evCP (E_bytes_IndexAny m0) (evLP (E_bytes_IndexAny m0) n) (sub C_bytes_IndexAny [1, 1, 1])) (kFnP (E_bytes_IndexAny m0) R_bytes_IndexAny))))) (.exit 0) (frOf []) = (bytes_IndexAny_k7_0 m0) n  := by
  kernel_rfl
theorem bytes_IndexAny_l24_ok (m0 : Int) (K : Ex → Fr → Option AV) : ∀ (n : Nat) (as7 : List Bool) (s60 : List UInt8) (s61 : Int) (s62 : Int), evLP (E_bytes_IndexAny m0) n (sub C_bytes_IndexAny [1, 1, 1, 1, 0, 1, 0, 1, 1, 0, 0, 1, 0, 0]) K (frOf [(7, (.adr (.arr 256 .bool) as7)), (60, (.dat (.sl .byte) s60 none)), (61, (.dat (.int .i64) s61 none)), (62, (.dat (.int .i64) s62 none))]) = (bytes_IndexAny_l24 m0) (fun s4 => K .ret (frOf [(4, (.dat (.int .i64) s4 none))])) (K (.exit 2) (frOf [])) n as7 s60 s61 s62 := by
  intro n
  induction n with
  | zero => intros; rfl
  | succ n IH =>
  intro as7 s60 s61 s62
  have ih : (fun as7 s60 s61 s62 => evLP (E_bytes_IndexAny m0) n (sub C_bytes_IndexAny [1, 1, 1, 1, 0, 1, 0, 1, 1, 0, 0, 1, 0, 0]) K (frOf [(7, (.adr (.arr 256 .bool) as7)), (60, (.dat (.sl .byte) s60 none)), (61, (.dat (.int .i64) s61 none)), (62, (.dat (.int .i64) s62 none))])) = (bytes_IndexAny_l24 m0) (fun s4 => K .ret (frOf [(4, (.dat (.int .i64) s4 none))])) (K (.exit 2) (frOf [])) n := by
    funext as7 s60 s61 s62
    exact IH as7 s60 s61 s62
  show _ = (bytes_IndexAny_l24_b m0) (fun s4 => K .ret (frOf [(4, (.dat (.int .i64) s4 none))])) (K (.exit 2) (frOf [])) ((bytes_IndexAny_l24 m0) (fun s4 => K .ret (frOf [(4, (.dat (.int .i64) s4 none))])) (K (.exit 2) (frOf [])) n) n as7 s60 s61 s62
  rw [← ih]
  kernel_rfl
theorem bytes_IndexAny_k24_2_ok (m0 : Int) (n : Nat)  : (kBlockP 2 ((E_bytes_IndexAny m0).cutb 2) (kSeq (evCP (E_bytes_IndexAny m0) (evLP (E_bytes_IndexAny m0) n) (sub C_bytes_IndexAny [1, 1, 1, 1, 0, 1, 0, 1, 1, 0, 1])) (kSeq (evCP (E_bytes_IndexAny m0) (evLP (E_bytes_IndexAny m0) n) (sub C_bytes_IndexAny [1, 1, 1, 1, 1])) (kFnP (E_bytes_IndexAny m0) R_bytes_IndexAny)))) (.exit 2) (frOf []) = (bytes_IndexAny_k24_2 m0) n  := by
  kernel_rfl
theorem bytes_IndexAny_l48_ok (m0 : Int) (K : Ex → Fr → Option AV) : ∀ (n : Nat) (s0 : List UInt8) (chars1 : List UInt8) (width11 : Int) (i12 : Int) (r13 : Int) (s121 : List UInt8) (s121p : Nat), evLP (E_bytes_IndexAny m0) n (sub C_bytes_IndexAny [1, 1, 1, 1, 1, 1, 0, 1, 0, 0, 1, 0, 0, 1, 1, 1, 1, 1, 0, 0]) K (frOf [(0, (.dat (.sl .byte) s0 none)), (1, (.dat .str chars1 none)), (11, (.dat (.int .i64) width11 none)), (12, (.dat (.int .i64) i12 none)), (13, (.dat (.int .i32) r13 none)), (121, (.itr s121 s121p))]) = (bytes_IndexAny_l48 m0) (fun s4 => K .ret (frOf [(4, (.dat (.int .i64) s4 none))])) (fun s0 chars1 width11 i12 => K (.exit 6) (frOf [(0, (.dat (.sl .byte) s0 none)), (1, (.dat .str chars1 none)), (11, (.dat (.int .i64) width11 none)), (12, (.dat (.int .i64) i12 none))])) n s0 chars1 width11 i12 r13 s121 s121p := by
  intro n
  induction n with
  | zero => intros; rfl
  | succ n IH =>
  intro s0 chars1 width11 i12 r13 s121 s121p
  have ih : (fun s0 chars1 width11 i12 r13 s121 s121p => evLP (E_bytes_IndexAny m0) n (sub C_bytes_IndexAny [1, 1, 1, 1, 1, 1, 0, 1, 0, 0, 1, 0, 0, 1, 1, 1, 1, 1, 0, 0]) K (frOf [(0, (.dat (.sl .byte) s0 none)), (1, (.dat .str chars1 none)), (11, (.dat (.int .i64) width11 none)), (12, (.dat (.int .i64) i12 none)), (13, (.dat (.int .i32) r13 none)), (121, (.itr s121 s121p))])) = (bytes_IndexAny_l48 m0) (fun s4 => K .ret (frOf [(4, (.dat (.int .i64) s4 none))])) (fun s0 chars1 width11 i12 => K (.exit 6) (frOf [(0, (.dat (.sl .byte) s0 none)), (1, (.dat .str chars1 none)), (11, (.dat (.int .i64) width11 none)), (12, (.dat (.int .i64) i12 none))])) n := by
    funext s0 chars1 width11 i12 r13 s121 s121p
    exact IH s0 chars1 width11 i12 r13 s121 s121p
  show _ = (bytes_IndexAny_l48_b m0) (fun s4 => K .ret (frOf [(4, (.dat (.int .i64) s4 none))])) (fun s0 chars1 width11 i12 => K (.exit 6) (frOf [(0, (.dat (.sl .byte) s0 none)), (1, (.dat .str chars1 none)), (11, (.dat (.int .i64) width11 none)), (12, (.dat (.int .i64) i12 none))])) ((bytes_IndexAny_l48 m0) (fun s4 => K .ret (frOf [(4, (.dat (.int .i64) s4 none))])) (fun s0 chars1 width11 i12 => K (.exit 6) (frOf [(0, (.dat (.sl .byte) s0 none)), (1, (.dat .str chars1 none)), (11, (.dat (.int .i64) width11 none)), (12, (.dat (.int .i64) i12 none))])) n) n s0 chars1 width11 i12 r13 s121 s121p
  rw [← ih]
  kernel_rfl
theorem bytes_IndexAny_k48_6_ok (m0 : Int) (K : Ex → Fr → Option AV) (n : Nat) (s0 : List UInt8) (chars1 : List UInt8) (width11 : Int) (i12 : Int) : (kBlockP 6 ((E_bytes_IndexAny m0).cutb 6) (kBlockP 5 ((E_bytes_IndexAny m0).cutb 5) (kSeq (evCP (E_bytes_IndexAny m0) (evLP (E_bytes_IndexAny m0) n) (sub C_bytes_IndexAny [1, 1, 1, 1, 1, 1, 0, 1, 0, 0, 1, 1])) (kSeq (fun K fr => evLP (E_bytes_IndexAny m0) n (sub C_bytes_IndexAny [1, 1, 1, 1, 1, 1, 0, 1, 0, 0]) K (cutFP ((E_bytes_IndexAny m0).cuts 32) fr)) K)))) (.exit 6) (frOf [(0, (.dat (.sl .byte) s0 none)), (1, (.dat .str chars1 none)), (11, (.dat (.int .i64) width11 none)), (12, (.dat (.int .i64) i12 none))]) = (bytes_IndexAny_k48_6 m0) (fun s4 => K .ret (frOf [(4, (.dat (.int .i64) s4 none))])) (K (.exit 4) (frOf [])) (fun s0 chars1 i12 => evLP (E_bytes_IndexAny m0) n (sub C_bytes_IndexAny [1, 1, 1, 1, 1, 1, 0, 1, 0, 0]) K (frOf [(0, (.dat (.sl .byte) s0 none)), (1, (.dat .str chars1 none)), (12, (.dat (.int .i64) i12 none))])) n s0 chars1 width11 i12 := by
  kernel_rfl
theorem bytes_IndexAny_l32_ok (m0 : Int) (K : Ex → Fr → Option AV) : ∀ (n : Nat) (s0 : List UInt8) (chars1 : List UInt8) (i12 : Int), evLP (E_bytes_IndexAny m0) n (sub C_bytes_IndexAny [1, 1, 1, 1, 1, 1, 0, 1, 0, 0]) K (frOf [(0, (.dat (.sl .byte) s0 none)), (1, (.dat .str chars1 none)), (12, (.dat (.int .i64) i12 none))]) = (bytes_IndexAny_l32 m0) (fun s4 => K .ret (frOf [(4, (.dat (.int .i64) s4 none))])) (K (.exit 4) (frOf [])) n s0 chars1 i12 := by
  intro n
  induction n with
  | zero => intros; rfl
  | succ n IH =>
  intro s0 chars1 i12
  have ih : (fun s0 chars1 i12 => evLP (E_bytes_IndexAny m0) n (sub C_bytes_IndexAny [1, 1, 1, 1, 1, 1, 0, 1, 0, 0]) K (frOf [(0, (.dat (.sl .byte) s0 none)), (1, (.dat .str chars1 none)), (12, (.dat (.int .i64) i12 none))])) = (bytes_IndexAny_l32 m0) (fun s4 => K .ret (frOf [(4, (.dat (.int .i64) s4 none))])) (K (.exit 4) (frOf [])) n := by
    funext s0 chars1 i12
    exact IH s0 chars1 i12
  show _ = (bytes_IndexAny_l32_b m0) (fun s4 => K .ret (frOf [(4, (.dat (.int .i64) s4 none))])) (K (.exit 4) (frOf [])) ((bytes_IndexAny_l32 m0) (fun s4 => K .ret (frOf [(4, (.dat (.int .i64) s4 none))])) (K (.exit 4) (frOf [])) n) n s0 chars1 i12
  rw [← ih]
  unfold bytes_IndexAny_l32_b
  rw [show (bytes_IndexAny_l48 m0) (fun s4 => K .ret (frOf [(4, (.dat (.int .i64) s4 none))])) ((bytes_IndexAny_k48_6 m0) (fun s4 => K .ret (frOf [(4, (.dat (.int .i64) s4 none))])) (K (.exit 4) (frOf [])) (fun s0 chars1 i12 => evLP (E_bytes_IndexAny m0) n (sub C_bytes_IndexAny [1, 1, 1, 1, 1, 1, 0, 1, 0, 0]) K (frOf [(0, (.dat (.sl .byte) s0 none)), (1, (.dat .str chars1 none)), (12, (.dat (.int .i64) i12 none))])) n) n = (fun s0 chars1 width11 i12 r13 s121 s121p => evLP (E_bytes_IndexAny m0) n (sub C_bytes_IndexAny [1, 1, 1, 1, 1, 1, 0, 1, 0, 0, 1, 0, 0, 1, 1, 1, 1, 1, 0, 0]) (kBlockP 6 ((E_bytes_IndexAny m0).cutb 6) (kBlockP 5 ((E_bytes_IndexAny m0).cutb 5) (kSeq (evCP (E_bytes_IndexAny m0) (evLP (E_bytes_IndexAny m0) n) (sub C_bytes_IndexAny [1, 1, 1, 1, 1, 1, 0, 1, 0, 0, 1, 1])) (kSeq (fun K fr => evLP (E_bytes_IndexAny m0) n (sub C_bytes_IndexAny [1, 1, 1, 1, 1, 1, 0, 1, 0, 0]) K (cutFP ((E_bytes_IndexAny m0).cuts 32) fr)) K)))) (frOf [(0, (.dat (.sl .byte) s0 none)), (1, (.dat .str chars1 none)), (11, (.dat (.int .i64) width11 none)), (12, (.dat (.int .i64) i12 none)), (13, (.dat (.int .i32) r13 none)), (121, (.itr s121 s121p))])) from by
    funext s0 chars1 width11 i12 r13 s121 s121p
    refine Eq.trans ?_ ((bytes_IndexAny_l48_ok m0) (kBlockP 6 ((E_bytes_IndexAny m0).cutb 6) (kBlockP 5 ((E_bytes_IndexAny m0).cutb 5) (kSeq (evCP (E_bytes_IndexAny m0) (evLP (E_bytes_IndexAny m0) n) (sub C_bytes_IndexAny [1, 1, 1, 1, 1, 1, 0, 1, 0, 0, 1, 1])) (kSeq (fun K fr => evLP (E_bytes_IndexAny m0) n (sub C_bytes_IndexAny [1, 1, 1, 1, 1, 1, 0, 1, 0, 0]) K (cutFP ((E_bytes_IndexAny m0).cuts 32) fr)) K)))) n s0 chars1 width11 i12 r13 s121 s121p).symm
    rw [show (fun s0 chars1 width11 i12 => (kBlockP 6 ((E_bytes_IndexAny m0).cutb 6) (kBlockP 5 ((E_bytes_IndexAny m0).cutb 5) (kSeq (evCP (E_bytes_IndexAny m0) (evLP (E_bytes_IndexAny m0) n) (sub C_bytes_IndexAny [1, 1, 1, 1, 1, 1, 0, 1, 0, 0, 1, 1])) (kSeq (fun K fr => evLP (E_bytes_IndexAny m0) n (sub C_bytes_IndexAny [1, 1, 1, 1, 1, 1, 0, 1, 0, 0]) K (cutFP ((E_bytes_IndexAny m0).cuts 32) fr)) K)))) (.exit 6) (frOf [(0, (.dat (.sl .byte) s0 none)), (1, (.dat .str chars1 none)), (11, (.dat (.int .i64) width11 none)), (12, (.dat (.int .i64) i12 none))])) = ((bytes_IndexAny_k48_6 m0) (fun s4 => K .ret (frOf [(4, (.dat (.int .i64) s4 none))])) (K (.exit 4) (frOf [])) (fun s0 chars1 i12 => evLP (E_bytes_IndexAny m0) n (sub C_bytes_IndexAny [1, 1, 1, 1, 1, 1, 0, 1, 0, 0]) K (frOf [(0, (.dat (.sl .byte) s0 none)), (1, (.dat .str chars1 none)), (12, (.dat (.int .i64) i12 none))])) n) from by
      funext s0 chars1 width11 i12
      exact (bytes_IndexAny_k48_6_ok m0) K n s0 chars1 width11 i12]
    all_goals kernel_rfl]
  kernel_rfl
theorem bytes_IndexAny_k32_4_ok (m0 : Int) (n : Nat)  : (kBlockP 4 ((E_bytes_IndexAny m0).cutb 4) (kSeq (evCP (E_bytes_IndexAny m0) (evLP (E_bytes_IndexAny m0) n) (sub C_bytes_IndexAny [1, 1, 1, 1, 1, 1, 1])) (kFnP (E_bytes_IndexAny m0) R_bytes_IndexAny))) (.exit 4) (frOf []) = (bytes_IndexAny_k32_4 m0) n  := by
  kernel_rfl
theorem bytes_IndexAny_ev (m0 : Int) (n : Nat) (s0 : List UInt8) (o0 : Lab) (chars1 : List UInt8) (o1 : Lab) : evFnP (E_bytes_IndexAny m0) n C_bytes_IndexAny R_bytes_IndexAny [.dat (.sl .byte) s0 o0, .dat .str chars1 o1] = (bytes_IndexAny_sh m0) n s0 chars1 := by
  unfold bytes_IndexAny_sh
  rw [show (bytes_IndexAny_l7 m0) bytes_IndexAny_ret ((bytes_IndexAny_k7_0 m0) n) n = (fun s28 s28p => evLP (E_bytes_IndexAny m0) n (sub C_bytes_IndexAny [1, 1, 0, 1, 0, 1, 0, 1, 0, 0, 1, 0, 0]) (kBlockP 0 ((E_bytes_IndexAny m0).cutb 0) (kSeq (evCP (E_bytes_IndexAny m0) (evLP (E_bytes_IndexAny m0) n) (sub C_bytes_IndexAny [1, 1, 0, 1, 0, 1, 0, 1, 0, 1])) (kSeq (evCP (E_bytes_IndexAny m0) (evLP (E_bytes_IndexAny m0) n) (sub C_bytes_IndexAny [1, 1, 0, 1, 0, 1, 1])) (kSeq (evCP (E_bytes_IndexAny m0) (evLP (E_bytes_IndexAny m0) n) (sub C_bytes_IndexAny [1, 1, 1])) (kFnP (E_bytes_IndexAny m0) R_bytes_IndexAny))))) (frOf [(28, (.itr s28 s28p))])) from by
    funext s28 s28p
    refine Eq.trans ?_ ((bytes_IndexAny_l7_ok m0) (kBlockP 0 ((E_bytes_IndexAny m0).cutb 0) (kSeq (evCP (E_bytes_IndexAny m0) (evLP (E_bytes_IndexAny m0) n) (sub C_bytes_IndexAny [1, 1, 0, 1, 0, 1, 0, 1, 0, 1])) (kSeq (evCP (E_bytes_IndexAny m0) (evLP (E_bytes_IndexAny m0) n) (sub C_bytes_IndexAny [1, 1, 0, 1, 0, 1, 1])) (kSeq (evCP (E_bytes_IndexAny m0) (evLP (E_bytes_IndexAny m0) n) (sub C_bytes_IndexAny [1, 1, 1])) (kFnP (E_bytes_IndexAny m0) R_bytes_IndexAny))))) n s28 s28p).symm
    rw [show ((kBlockP 0 ((E_bytes_IndexAny m0).cutb 0) (kSeq (evCP (E_bytes_IndexAny m0) (evLP (E_bytes_IndexAny m0) n) (sub C_bytes_IndexAny [1, 1, 0, 1, 0, 1, 0, 1, 0, 1])) (kSeq (evCP (E_bytes_IndexAny m0) (evLP (E_bytes_IndexAny m0) n) (sub C_bytes_IndexAny [1, 1, 0, 1, 0, 1, 1])) (kSeq (evCP (E_bytes_IndexAny m0) (evLP (E_bytes_IndexAny m0) n) (sub C_bytes_IndexAny [1, 1, 1])) (kFnP (E_bytes_IndexAny m0) R_bytes_IndexAny))))) (.exit 0) (frOf [])) = ((bytes_IndexAny_k7_0 m0) n) from by
      exact (bytes_IndexAny_k7_0_ok m0) n ]
    all_goals kernel_rfl]
  rw [show (bytes_IndexAny_l24 m0) bytes_IndexAny_ret ((bytes_IndexAny_k24_2 m0) n) n = (fun as7 s60 s61 s62 => evLP (E_bytes_IndexAny m0) n (sub C_bytes_IndexAny [1, 1, 1, 1, 0, 1, 0, 1, 1, 0, 0, 1, 0, 0]) (kBlockP 2 ((E_bytes_IndexAny m0).cutb 2) (kSeq (evCP (E_bytes_IndexAny m0) (evLP (E_bytes_IndexAny m0) n) (sub C_bytes_IndexAny [1, 1, 1, 1, 0, 1, 0, 1, 1, 0, 1])) (kSeq (evCP (E_bytes_IndexAny m0) (evLP (E_bytes_IndexAny m0) n) (sub C_bytes_IndexAny [1, 1, 1, 1, 1])) (kFnP (E_bytes_IndexAny m0) R_bytes_IndexAny)))) (frOf [(7, (.adr (.arr 256 .bool) as7)), (60, (.dat (.sl .byte) s60 none)), (61, (.dat (.int .i64) s61 none)), (62, (.dat (.int .i64) s62 none))])) from by
    funext as7 s60 s61 s62
    refine Eq.trans ?_ ((bytes_IndexAny_l24_ok m0) (kBlockP 2 ((E_bytes_IndexAny m0).cutb 2) (kSeq (evCP (E_bytes_IndexAny m0) (evLP (E_bytes_IndexAny m0) n) (sub C_bytes_IndexAny [1, 1, 1, 1, 0, 1, 0, 1, 1, 0, 1])) (kSeq (evCP (E_bytes_IndexAny m0) (evLP (E_bytes_IndexAny m0) n) (sub C_bytes_IndexAny [1, 1, 1, 1, 1])) (kFnP (E_bytes_IndexAny m0) R_bytes_IndexAny)))) n as7 s60 s61 s62).symm
    rw [show ((kBlockP 2 ((E_bytes_IndexAny m0).cutb 2) (kSeq (evCP (E_bytes_IndexAny m0) (evLP (E_bytes_IndexAny m0) n) (sub C_bytes_IndexAny [1, 1, 1, 1, 0, 1, 0, 1, 1, 0, 1])) (kSeq (evCP (E_bytes_IndexAny m0) (evLP (E_bytes_IndexAny m0) n) (sub C_bytes_IndexAny [1, 1, 1, 1, 1])) (kFnP (E_bytes_IndexAny m0) R_bytes_IndexAny)))) (.exit 2) (frOf [])) = ((bytes_IndexAny_k24_2 m0) n) from by
      exact (bytes_IndexAny_k24_2_ok m0) n ]
    all_goals kernel_rfl]
  rw [show (bytes_IndexAny_l32 m0) bytes_IndexAny_ret ((bytes_IndexAny_k32_4 m0) n) n = (fun s0 chars1 i12 => evLP (E_bytes_IndexAny m0) n (sub C_bytes_IndexAny [1, 1, 1, 1, 1, 1, 0, 1, 0, 0]) (kBlockP 4 ((E_bytes_IndexAny m0).cutb 4) (kSeq (evCP (E_bytes_IndexAny m0) (evLP (E_bytes_IndexAny m0) n) (sub C_bytes_IndexAny [1, 1, 1, 1, 1, 1, 1])) (kFnP (E_bytes_IndexAny m0) R_bytes_IndexAny))) (frOf [(0, (.dat (.sl .byte) s0 none)), (1, (.dat .str chars1 none)), (12, (.dat (.int .i64) i12 none))])) from by
    funext s0 chars1 i12
    refine Eq.trans ?_ ((bytes_IndexAny_l32_ok m0) (kBlockP 4 ((E_bytes_IndexAny m0).cutb 4) (kSeq (evCP (E_bytes_IndexAny m0) (evLP (E_bytes_IndexAny m0) n) (sub C_bytes_IndexAny [1, 1, 1, 1, 1, 1, 1])) (kFnP (E_bytes_IndexAny m0) R_bytes_IndexAny))) n s0 chars1 i12).symm
    rw [show ((kBlockP 4 ((E_bytes_IndexAny m0).cutb 4) (kSeq (evCP (E_bytes_IndexAny m0) (evLP (E_bytes_IndexAny m0) n) (sub C_bytes_IndexAny [1, 1, 1, 1, 1, 1, 1])) (kFnP (E_bytes_IndexAny m0) R_bytes_IndexAny))) (.exit 4) (frOf [])) = ((bytes_IndexAny_k32_4 m0) n) from by
      exact (bytes_IndexAny_k32_4_ok m0) n ]
    all_goals kernel_rfl]
  kernel_rfl
theorem bytes_IndexAny_soundm (m0 : Int) : SoundG (Gm m0) Tryd.prog 31 s_bytes_IndexAny := by
  refine sound_of_evP' (Gm_stays m0) (E := E_bytes_IndexAny m0) (fn := Tryd.f31) (c := C_bytes_IndexAny) (tyOk_of_table rfl tis_ok) (fun w S hg => ⟨⟨(fns_cons (internal_bytealg_IndexByteString_sound w S (G_of m0 hg)) (fns_cons (bytes_IndexRune_sound w S (G_of m0 hg)) (fns_cons (bytes_shouldUseASCIISet_sound w S (G_of m0 hg)) (fns_cons (bytes_makeASCIISet_sound w S (G_of m0 hg)) (fns_cons (__bytes_asciiSet__contains_sound w S (G_of m0 hg)) (fns_cons (unicode_utf8_DecodeRune_sound w S (G_of m0 hg)) (fns_cons (internal_bytealg_IndexString_sound m0 w S hg) fns_nil))))))), fun f sp h => cns_nil f sp h w S⟩, hg.2⟩) follows Tryd.func31 (by kernel_rfl) (by kernel_rfl) (by kernel_rfl) ?_
  intro avs r h
  unfold s_bytes_IndexAny at h
  split at h
  · simp only [Prod.mk.injEq] at h
    obtain ⟨hp, rfl⟩ := h
    obtain ⟨n, hn⟩ := bytes_IndexAny_math m0 _ _ hp
    exact ⟨n, _, (bytes_IndexAny_ev m0 n _ _ _ _).trans hn, .inl rfl⟩
  · cases h
theorem bytes_IndexAny_sound : SoundG G Tryd.prog 31 s_bytes_IndexAny := fun w S hg => by obtain ⟨m, h⟩ := G_to hg; exact bytes_IndexAny_soundm m w S h

/-! bytes.ContainsAny -/

noncomputable def E_bytes_ContainsAny : EnvP := ⟨⟨tiOf tis, fnsOf [(31, s_bytes_IndexAny)], cnsOf [], [], 9, (fun _ => none), (fun _ => none), some [4]⟩, fun _ => none, fun _ => none, fun _ => []⟩
noncomputable def C_bytes_ContainsAny : Code := Tryd.f28.body.getD .skip
noncomputable def R_bytes_ContainsAny : Array ResultVar := Tryd.f28.results
theorem bytes_ContainsAny_ev (n : Nat) (b0 : List UInt8) (o0 : Lab) (chars1 : List UInt8) (o1 : Lab) : evFnP E_bytes_ContainsAny n C_bytes_ContainsAny R_bytes_ContainsAny [.dat (.sl .byte) b0 o0, .dat .str chars1 o1] = bytes_ContainsAny_sh n b0 chars1 := by
  kernel_rfl
theorem bytes_ContainsAny_sound : SoundG G Tryd.prog 28 s_bytes_ContainsAny := by
  refine sound_of_evP' G_stays (E := E_bytes_ContainsAny) (fn := Tryd.f28) (c := C_bytes_ContainsAny) (tyOk_of_table rfl tis_ok) (fun w S hg => ⟨⟨(fns_cons (bytes_IndexAny_sound w S hg) fns_nil), fun f sp h => cns_nil f sp h w S⟩, gl_none w S hg⟩) follows Tryd.func28 (by kernel_rfl) (by kernel_rfl) (by kernel_rfl) ?_
  intro avs r h
  unfold s_bytes_ContainsAny at h
  split at h
  · simp only [Prod.mk.injEq] at h
    obtain ⟨hp, rfl⟩ := h
    obtain ⟨n, hn⟩ := bytes_ContainsAny_math _ _ hp
    exact ⟨n, _, (bytes_ContainsAny_ev n _ _ _ _).trans hn, .inl rfl⟩
  · cases h

/-! sheave/hexa.Capital -/

noncomputable def E_hexa_Capital : EnvP := ⟨⟨tiOf tis, fnsOf [(28, s_bytes_ContainsAny)], cnsOf [], [], 6, (fun _ => none), (fun _ => none), some [2]⟩, fun _ => none, fun _ => none, fun _ => []⟩
noncomputable def C_hexa_Capital : Code := Tryd.f21.body.getD .skip
noncomputable def R_hexa_Capital : Array ResultVar := Tryd.f21.results
theorem hexa_Capital_ev (n : Nat) (s0 : List UInt8) (o0 : Lab) : evFnP E_hexa_Capital n C_hexa_Capital R_hexa_Capital [.dat (.sl .byte) s0 o0] = hexa_Capital_sh n s0 := by
  kernel_rfl
theorem hexa_Capital_sound : SoundG G Tryd.prog 21 s_hexa_Capital := by
  refine sound_of_evP' G_stays (E := E_hexa_Capital) (fn := Tryd.f21) (c := C_hexa_Capital) (tyOk_of_table rfl tis_ok) (fun w S hg => ⟨⟨(fns_cons (bytes_ContainsAny_sound w S hg) fns_nil), fun f sp h => cns_nil f sp h w S⟩, gl_none w S hg⟩) follows Tryd.func21 (by kernel_rfl) (by kernel_rfl) (by kernel_rfl) ?_
  intro avs r h
  unfold s_hexa_Capital at h
  split at h
  · simp only [Prod.mk.injEq] at h
    obtain ⟨hp, rfl⟩ := h
    obtain ⟨n, hn⟩ := hexa_Capital_math _ hp
    exact ⟨n, _, (hexa_Capital_ev n _ _).trans hn, .inl rfl⟩
  · cases h

/-! sheave/sheaveref01.Fold -/

noncomputable def E_ref01_Fold : EnvP := ⟨⟨tiOf tis, fnsOf [(29, s_ref01_Lower)], cnsOf [], [], 20, (fun x => if x = 3 then some [0, 3, 4] else none), (fun x => if x = 0 then some [3] else if x = 1 then some [0, 3, 4] else none), some [2]⟩, fun _ => none, fun _ => none, fun _ => []⟩
noncomputable def C_ref01_Fold : Code := Tryd.f22.body.getD .skip
noncomputable def R_ref01_Fold : Array ResultVar := Tryd.f22.results
theorem ref01_Fold_l3_ok (K : Ex → Fr → Option AV) : ∀ (n : Nat) (s0 : List UInt8) (out3 : List UInt8) (i4 : Int), evLP E_ref01_Fold n (sub C_ref01_Fold [1, 1, 0, 1, 0, 0]) K (frOf [(0, (.dat (.sl .byte) s0 none)), (3, (.dat (.sl .byte) out3 (some (3, 5)))), (4, (.dat (.int .i64) i4 none))]) = ref01_Fold_l3 (fun out3 => K (.exit 0) (frOf [(3, (.dat (.sl .byte) out3 (some (3, 5))))])) n s0 out3 i4 := by
  intro n
  induction n with
  | zero => intros; rfl
  | succ n IH =>
  intro s0 out3 i4
  have ih : (fun s0 out3 i4 => evLP E_ref01_Fold n (sub C_ref01_Fold [1, 1, 0, 1, 0, 0]) K (frOf [(0, (.dat (.sl .byte) s0 none)), (3, (.dat (.sl .byte) out3 (some (3, 5)))), (4, (.dat (.int .i64) i4 none))])) = ref01_Fold_l3 (fun out3 => K (.exit 0) (frOf [(3, (.dat (.sl .byte) out3 (some (3, 5))))])) n := by
    funext s0 out3 i4
    exact IH s0 out3 i4
  show _ = ref01_Fold_l3_b (fun out3 => K (.exit 0) (frOf [(3, (.dat (.sl .byte) out3 (some (3, 5))))])) (ref01_Fold_l3 (fun out3 => K (.exit 0) (frOf [(3, (.dat (.sl .byte) out3 (some (3, 5))))])) n) n s0 out3 i4
  rw [← ih]
  kernel_rfl
theorem ref01_Fold_k3_0_ok (n : Nat) (out3 : List UInt8) : (kBlockP 0 (E_ref01_Fold.cutb 0) (kSeq (evCP E_ref01_Fold (evLP E_ref01_Fold n) (sub C_ref01_Fold [1, 1, 1])) (kFnP E_ref01_Fold R_ref01_Fold))) (.exit 0) (frOf [(3, (.dat (.sl .byte) out3 (some (3, 5))))]) = ref01_Fold_k3_0 n out3 := by
  kernel_rfl
theorem ref01_Fold_ev (n : Nat) (s0 : List UInt8) (o0 : Lab) : evFnP E_ref01_Fold n C_ref01_Fold R_ref01_Fold [.dat (.sl .byte) s0 o0] = ref01_Fold_sh n s0 := by
  unfold ref01_Fold_sh
  rw [show ref01_Fold_l3 (ref01_Fold_k3_0 n) n = (fun s0 out3 i4 => evLP E_ref01_Fold n (sub C_ref01_Fold [1, 1, 0, 1, 0, 0]) (kBlockP 0 (E_ref01_Fold.cutb 0) (kSeq (evCP E_ref01_Fold (evLP E_ref01_Fold n) (sub C_ref01_Fold [1, 1, 1])) (kFnP E_ref01_Fold R_ref01_Fold))) (frOf [(0, (.dat (.sl .byte) s0 none)), (3, (.dat (.sl .byte) out3 (some (3, 5)))), (4, (.dat (.int .i64) i4 none))])) from by
    funext s0 out3 i4
    refine Eq.trans ?_ (ref01_Fold_l3_ok (kBlockP 0 (E_ref01_Fold.cutb 0) (kSeq (evCP E_ref01_Fold (evLP E_ref01_Fold n) (sub C_ref01_Fold [1, 1, 1])) (kFnP E_ref01_Fold R_ref01_Fold))) n s0 out3 i4).symm
    rw [show (fun out3 => (kBlockP 0 (E_ref01_Fold.cutb 0) (kSeq (evCP E_ref01_Fold (evLP E_ref01_Fold n) (sub C_ref01_Fold [1, 1, 1])) (kFnP E_ref01_Fold R_ref01_Fold))) (.exit 0) (frOf [(3, (.dat (.sl .byte) out3 (some (3, 5))))])) = (ref01_Fold_k3_0 n) from by
      funext out3
      exact ref01_Fold_k3_0_ok n out3]
    all_goals kernel_rfl]
  kernel_rfl
theorem ref01_Fold_sound : SoundG G Tryd.prog 22 s_ref01_Fold := by
  refine sound_of_evP' G_stays (E := E_ref01_Fold) (fn := Tryd.f22) (c := C_ref01_Fold) (tyOk_of_table rfl tis_ok) (fun w S hg => ⟨⟨(fns_cons (ref01_Lower_sound w S hg) fns_nil), fun f sp h => cns_nil f sp h w S⟩, gl_none w S hg⟩) follows Tryd.func22 (by kernel_rfl) (by kernel_rfl) (by kernel_rfl) ?_
  intro avs r h
  unfold s_ref01_Fold at h
  split at h
  · simp only [Prod.mk.injEq] at h
    obtain ⟨hp, rfl⟩ := h
    obtain ⟨n, hn⟩ := ref01_Fold_math _ hp
    exact ⟨n, _, (ref01_Fold_ev n _ _).trans hn, .inl rfl⟩
  · cases h

/-! sheave/sheavelaw02.alive -/

noncomputable def E_law02_alive : EnvP := ⟨⟨tiOf tis, fnsOf [(12, s_hexa_Take), (14, s_hexa_Put), (21, s_hexa_Capital)], cnsOf [], [], 30, (fun _ => none), (fun _ => none), some [0]⟩, fun _ => none, fun _ => none, fun _ => []⟩
noncomputable def C_law02_alive : Code := Tryd.f11.body.getD .skip
noncomputable def R_law02_alive : Array ResultVar := Tryd.f11.results
theorem law02_alive_ev (n : Nat)  : evFnP E_law02_alive n C_law02_alive R_law02_alive [] = law02_alive_sh n  := by
  kernel_rfl
theorem law02_alive_sound : SoundG G Tryd.prog 11 s_law02_alive := by
  refine sound_of_evP' G_stays (E := E_law02_alive) (fn := Tryd.f11) (c := C_law02_alive) (tyOk_of_table rfl tis_ok) (fun w S hg => ⟨⟨(fns_cons (hexa_Take_sound w S hg) (fns_cons (hexa_Put_sound w S hg) (fns_cons (hexa_Capital_sound w S hg) fns_nil))), fun f sp h => cns_nil f sp h w S⟩, gl_none w S hg⟩) follows Tryd.func11 (by kernel_rfl) (by kernel_rfl) (by kernel_rfl) ?_
  intro avs r h
  unfold s_law02_alive at h
  split at h
  · simp only [Prod.mk.injEq, true_and] at h
    subst h
    obtain ⟨n, hn⟩ := law02_alive_math 
    exact ⟨n, _, (law02_alive_ev n ).trans hn, .inl rfl⟩
  · cases h

/-! sheave/sheavelaw02.HexaDigits -/

noncomputable def E_law02_HexaDigits : EnvP := ⟨⟨tiOf tis, fnsOf [(7, s_hexa_Value), (8, s_ref02_Value), (9, s_hexa_Digit), (10, s_ref02_Digit), (11, s_law02_alive)], cnsOf [], [], 37, (fun _ => none), (fun _ => none), some [4]⟩, fun _ => none, fun _ => none, fun _ => []⟩
noncomputable def C_law02_HexaDigits : Code := Tryd.f3.body.getD .skip
noncomputable def R_law02_HexaDigits : Array ResultVar := Tryd.f3.results
theorem law02_HexaDigits_ev (n : Nat) (n0 : Int) (o0 : Lab) (c1 : UInt8) (o1 : Lab) : evFnP E_law02_HexaDigits n C_law02_HexaDigits R_law02_HexaDigits [.dat (.int .i64) n0 o0, .dat .byte c1 o1] = law02_HexaDigits_sh n n0 c1 := by
  kernel_rfl
theorem law02_HexaDigits_sound : SoundG G Tryd.prog 3 s_law02_HexaDigits := by
  refine sound_of_evP' G_stays (E := E_law02_HexaDigits) (fn := Tryd.f3) (c := C_law02_HexaDigits) (tyOk_of_table rfl tis_ok) (fun w S hg => ⟨⟨(fns_cons (hexa_Value_sound w S hg) (fns_cons (ref02_Value_sound w S hg) (fns_cons (hexa_Digit_sound w S hg) (fns_cons (ref02_Digit_sound w S hg) (fns_cons (law02_alive_sound w S hg) fns_nil))))), fun f sp h => cns_nil f sp h w S⟩, gl_none w S hg⟩) follows Tryd.func3 (by kernel_rfl) (by kernel_rfl) (by kernel_rfl) ?_
  intro avs r h
  unfold s_law02_HexaDigits at h
  split at h
  · simp only [Prod.mk.injEq] at h
    obtain ⟨hp, rfl⟩ := h
    obtain ⟨n, hn⟩ := law02_HexaDigits_math _ _ hp
    exact ⟨n, _, (law02_HexaDigits_ev n _ _ _ _).trans hn, .inl rfl⟩
  · cases h

/-! sheave/sheavelaw02.HexaEscapes -/

noncomputable def E_law02_HexaEscapes : EnvP := ⟨⟨tiOf tis, fnsOf [(11, s_law02_alive), (12, s_hexa_Take), (13, s_ref02_Take), (14, s_hexa_Put), (15, s_ref01_Like), (16, s_ref02_Put)], cnsOf [], [], 77, (fun _ => none), (fun _ => none), some [6]⟩, fun _ => none, fun _ => none, fun _ => []⟩
noncomputable def C_law02_HexaEscapes : Code := Tryd.f4.body.getD .skip
noncomputable def R_law02_HexaEscapes : Array ResultVar := Tryd.f4.results
theorem law02_HexaEscapes_ev (n : Nat) (s0 : List UInt8) (o0 : Lab) (at1 : Int) (o1 : Lab) (x2 : List UInt8) (o2 : Lab) : evFnP E_law02_HexaEscapes n C_law02_HexaEscapes R_law02_HexaEscapes [.dat (.sl .byte) s0 o0, .dat (.int .i64) at1 o1, .dat (.arr 2 .byte) x2 o2] = law02_HexaEscapes_sh n s0 at1 x2 := by
  kernel_rfl
theorem law02_HexaEscapes_sound : SoundG G Tryd.prog 4 s_law02_HexaEscapes := by
  refine sound_of_evP' G_stays (E := E_law02_HexaEscapes) (fn := Tryd.f4) (c := C_law02_HexaEscapes) (tyOk_of_table rfl tis_ok) (fun w S hg => ⟨⟨(fns_cons (law02_alive_sound w S hg) (fns_cons (hexa_Take_sound w S hg) (fns_cons (ref02_Take_sound w S hg) (fns_cons (hexa_Put_sound w S hg) (fns_cons (ref01_Like_sound w S hg) (fns_cons (ref02_Put_sound w S hg) fns_nil)))))), fun f sp h => cns_nil f sp h w S⟩, gl_none w S hg⟩) follows Tryd.func4 (by kernel_rfl) (by kernel_rfl) (by kernel_rfl) ?_
  intro avs r h
  unfold s_law02_HexaEscapes at h
  split at h
  · simp only [Prod.mk.injEq, true_and] at h
    subst h
    obtain ⟨n, hn⟩ := law02_HexaEscapes_math _ _ _
    exact ⟨n, _, (law02_HexaEscapes_ev n _ _ _ _ _ _).trans hn, .inl rfl⟩
  · cases h

/-! sheave/sheavelaw02.HexaReads -/

noncomputable def E_law02_HexaReads : EnvP := ⟨⟨tiOf tis, fnsOf [(11, s_law02_alive), (15, s_ref01_Like), (17, s_hexa_Read), (18, s_ref02_Read), (19, s_hexa_Lay), (20, s_ref02_Lay), (21, s_hexa_Capital)], cnsOf [], [], 65, (fun x => if x = 7 then some [0, 3, 4, 5, 6, 7, 24, 25, 26] else none), (fun x => if x = 0 then some [0, 3, 4, 5, 6, 7] else if x = 1 then some [0, 3, 4, 5, 6, 7, 24, 25, 26] else none), some [2]⟩, fun _ => none, fun _ => none, fun _ => []⟩
noncomputable def C_law02_HexaReads : Code := Tryd.f5.body.getD .skip
noncomputable def R_law02_HexaReads : Array ResultVar := Tryd.f5.results
theorem law02_HexaReads_l7_ok (K : Ex → Fr → Option AV) : ∀ (n : Nat) (s0 : List UInt8) (a3 : List UInt8) (e4 : Int) (b5 : List UInt8) (f6 : Int) (small7 : Bool) (s24 : List UInt8) (s25 : Int) (s26 : Int), evLP E_law02_HexaReads n (sub C_law02_HexaReads [1, 1, 1, 1, 1, 0, 1, 0, 0]) K (frOf [(0, (.dat (.sl .byte) s0 none)), (3, (.dat (.sl .byte) a3 none)), (4, (.dat (.int .i64) e4 none)), (5, (.dat (.sl .byte) b5 none)), (6, (.dat (.int .i64) f6 none)), (7, (.dat .bool small7 none)), (24, (.dat (.sl .byte) s24 none)), (25, (.dat (.int .i64) s25 none)), (26, (.dat (.int .i64) s26 none))]) = law02_HexaReads_l7 (fun s0 a3 e4 b5 f6 small7 => K (.exit 0) (frOf [(0, (.dat (.sl .byte) s0 none)), (3, (.dat (.sl .byte) a3 none)), (4, (.dat (.int .i64) e4 none)), (5, (.dat (.sl .byte) b5 none)), (6, (.dat (.int .i64) f6 none)), (7, (.dat .bool small7 none))])) n s0 a3 e4 b5 f6 small7 s24 s25 s26 := by
  intro n
  induction n with
  | zero => intros; rfl
  | succ n IH =>
  intro s0 a3 e4 b5 f6 small7 s24 s25 s26
  have ih : (fun s0 a3 e4 b5 f6 small7 s24 s25 s26 => evLP E_law02_HexaReads n (sub C_law02_HexaReads [1, 1, 1, 1, 1, 0, 1, 0, 0]) K (frOf [(0, (.dat (.sl .byte) s0 none)), (3, (.dat (.sl .byte) a3 none)), (4, (.dat (.int .i64) e4 none)), (5, (.dat (.sl .byte) b5 none)), (6, (.dat (.int .i64) f6 none)), (7, (.dat .bool small7 none)), (24, (.dat (.sl .byte) s24 none)), (25, (.dat (.int .i64) s25 none)), (26, (.dat (.int .i64) s26 none))])) = law02_HexaReads_l7 (fun s0 a3 e4 b5 f6 small7 => K (.exit 0) (frOf [(0, (.dat (.sl .byte) s0 none)), (3, (.dat (.sl .byte) a3 none)), (4, (.dat (.int .i64) e4 none)), (5, (.dat (.sl .byte) b5 none)), (6, (.dat (.int .i64) f6 none)), (7, (.dat .bool small7 none))])) n := by
    funext s0 a3 e4 b5 f6 small7 s24 s25 s26
    exact IH s0 a3 e4 b5 f6 small7 s24 s25 s26
  show _ = law02_HexaReads_l7_b (fun s0 a3 e4 b5 f6 small7 => K (.exit 0) (frOf [(0, (.dat (.sl .byte) s0 none)), (3, (.dat (.sl .byte) a3 none)), (4, (.dat (.int .i64) e4 none)), (5, (.dat (.sl .byte) b5 none)), (6, (.dat (.int .i64) f6 none)), (7, (.dat .bool small7 none))])) (law02_HexaReads_l7 (fun s0 a3 e4 b5 f6 small7 => K (.exit 0) (frOf [(0, (.dat (.sl .byte) s0 none)), (3, (.dat (.sl .byte) a3 none)), (4, (.dat (.int .i64) e4 none)), (5, (.dat (.sl .byte) b5 none)), (6, (.dat (.int .i64) f6 none)), (7, (.dat .bool small7 none))])) n) n s0 a3 e4 b5 f6 small7 s24 s25 s26
  rw [← ih]
  kernel_rfl
theorem law02_HexaReads_k7_0_ok (n : Nat) (s0 : List UInt8) (a3 : List UInt8) (e4 : Int) (b5 : List UInt8) (f6 : Int) (small7 : Bool) : (kBlockP 0 (E_law02_HexaReads.cutb 0) (kSeq (evCP E_law02_HexaReads (evLP E_law02_HexaReads n) (sub C_law02_HexaReads [1, 1, 1, 1, 1, 1])) (kFnP E_law02_HexaReads R_law02_HexaReads))) (.exit 0) (frOf [(0, (.dat (.sl .byte) s0 none)), (3, (.dat (.sl .byte) a3 none)), (4, (.dat (.int .i64) e4 none)), (5, (.dat (.sl .byte) b5 none)), (6, (.dat (.int .i64) f6 none)), (7, (.dat .bool small7 none))]) = law02_HexaReads_k7_0 n s0 a3 e4 b5 f6 small7 := by
  kernel_rfl
theorem law02_HexaReads_ev (n : Nat) (s0 : List UInt8) (o0 : Lab) : evFnP E_law02_HexaReads n C_law02_HexaReads R_law02_HexaReads [.dat (.sl .byte) s0 o0] = law02_HexaReads_sh n s0 := by
  unfold law02_HexaReads_sh
  rw [show law02_HexaReads_l7 (law02_HexaReads_k7_0 n) n = (fun s0 a3 e4 b5 f6 small7 s24 s25 s26 => evLP E_law02_HexaReads n (sub C_law02_HexaReads [1, 1, 1, 1, 1, 0, 1, 0, 0]) (kBlockP 0 (E_law02_HexaReads.cutb 0) (kSeq (evCP E_law02_HexaReads (evLP E_law02_HexaReads n) (sub C_law02_HexaReads [1, 1, 1, 1, 1, 1])) (kFnP E_law02_HexaReads R_law02_HexaReads))) (frOf [(0, (.dat (.sl .byte) s0 none)), (3, (.dat (.sl .byte) a3 none)), (4, (.dat (.int .i64) e4 none)), (5, (.dat (.sl .byte) b5 none)), (6, (.dat (.int .i64) f6 none)), (7, (.dat .bool small7 none)), (24, (.dat (.sl .byte) s24 none)), (25, (.dat (.int .i64) s25 none)), (26, (.dat (.int .i64) s26 none))])) from by
    funext s0 a3 e4 b5 f6 small7 s24 s25 s26
    refine Eq.trans ?_ (law02_HexaReads_l7_ok (kBlockP 0 (E_law02_HexaReads.cutb 0) (kSeq (evCP E_law02_HexaReads (evLP E_law02_HexaReads n) (sub C_law02_HexaReads [1, 1, 1, 1, 1, 1])) (kFnP E_law02_HexaReads R_law02_HexaReads))) n s0 a3 e4 b5 f6 small7 s24 s25 s26).symm
    rw [show (fun s0 a3 e4 b5 f6 small7 => (kBlockP 0 (E_law02_HexaReads.cutb 0) (kSeq (evCP E_law02_HexaReads (evLP E_law02_HexaReads n) (sub C_law02_HexaReads [1, 1, 1, 1, 1, 1])) (kFnP E_law02_HexaReads R_law02_HexaReads))) (.exit 0) (frOf [(0, (.dat (.sl .byte) s0 none)), (3, (.dat (.sl .byte) a3 none)), (4, (.dat (.int .i64) e4 none)), (5, (.dat (.sl .byte) b5 none)), (6, (.dat (.int .i64) f6 none)), (7, (.dat .bool small7 none))])) = (law02_HexaReads_k7_0 n) from by
      funext s0 a3 e4 b5 f6 small7
      exact law02_HexaReads_k7_0_ok n s0 a3 e4 b5 f6 small7]
    all_goals kernel_rfl]
  kernel_rfl
theorem law02_HexaReads_sound : SoundG G Tryd.prog 5 s_law02_HexaReads := by
  refine sound_of_evP' G_stays (E := E_law02_HexaReads) (fn := Tryd.f5) (c := C_law02_HexaReads) (tyOk_of_table rfl tis_ok) (fun w S hg => ⟨⟨(fns_cons (law02_alive_sound w S hg) (fns_cons (ref01_Like_sound w S hg) (fns_cons (hexa_Read_sound w S hg) (fns_cons (ref02_Read_sound w S hg) (fns_cons (hexa_Lay_sound w S hg) (fns_cons (ref02_Lay_sound w S hg) (fns_cons (hexa_Capital_sound w S hg) fns_nil))))))), fun f sp h => cns_nil f sp h w S⟩, gl_none w S hg⟩) follows Tryd.func5 (by kernel_rfl) (by kernel_rfl) (by kernel_rfl) ?_
  intro avs r h
  unfold s_law02_HexaReads at h
  split at h
  · simp only [Prod.mk.injEq, true_and] at h
    subst h
    obtain ⟨n, hn⟩ := law02_HexaReads_math _
    exact ⟨n, _, (law02_HexaReads_ev n _ _).trans hn, .inl rfl⟩
  · cases h

/-! sheave/sheavelaw02.HexaBack -/

noncomputable def E_law02_HexaBack : EnvP := ⟨⟨tiOf tis, fnsOf [(11, s_law02_alive), (15, s_ref01_Like), (17, s_hexa_Read), (19, s_hexa_Lay), (21, s_hexa_Capital), (22, s_ref01_Fold)], cnsOf [], [], 62, (fun _ => none), (fun _ => none), some [2]⟩, fun _ => none, fun _ => none, fun _ => []⟩
noncomputable def C_law02_HexaBack : Code := Tryd.f6.body.getD .skip
noncomputable def R_law02_HexaBack : Array ResultVar := Tryd.f6.results
theorem law02_HexaBack_ev (n : Nat) (s0 : List UInt8) (o0 : Lab) : evFnP E_law02_HexaBack n C_law02_HexaBack R_law02_HexaBack [.dat (.sl .byte) s0 o0] = law02_HexaBack_sh n s0 := by
  kernel_rfl
theorem law02_HexaBack_sound : SoundG G Tryd.prog 6 s_law02_HexaBack := by
  refine sound_of_evP' G_stays (E := E_law02_HexaBack) (fn := Tryd.f6) (c := C_law02_HexaBack) (tyOk_of_table rfl tis_ok) (fun w S hg => ⟨⟨(fns_cons (law02_alive_sound w S hg) (fns_cons (ref01_Like_sound w S hg) (fns_cons (hexa_Read_sound w S hg) (fns_cons (hexa_Lay_sound w S hg) (fns_cons (hexa_Capital_sound w S hg) (fns_cons (ref01_Fold_sound w S hg) fns_nil)))))), fun f sp h => cns_nil f sp h w S⟩, gl_none w S hg⟩) follows Tryd.func6 (by kernel_rfl) (by kernel_rfl) (by kernel_rfl) ?_
  intro avs r h
  unfold s_law02_HexaBack at h
  split at h
  · simp only [Prod.mk.injEq, true_and] at h
    subst h
    obtain ⟨n, hn⟩ := law02_HexaBack_math _
    exact ⟨n, _, (law02_HexaBack_ev n _ _).trans hn, .inl rfl⟩
  · cases h
end Go.Av
