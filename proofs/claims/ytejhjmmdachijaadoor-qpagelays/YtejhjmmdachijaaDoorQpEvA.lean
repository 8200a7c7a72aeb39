import Derived.Test.YtejhjmmdachijaaDoorQpP14
import Derived.Test.YtejhjmmdachijaaDoorQpN
import Derived.Test.YtejhjmmdachijaaDoorProg
import Derived.KernelRfl
namespace Go.Av
open Go.Proofs
set_option maxRecDepth 100000
set_option linter.unusedVariables false
def tis : List (TypeId × TI) := [(2, ⟨some (.int .i64), 8, 0⟩),
  (3, ⟨some (.int .i64), 8, 0⟩),
  (4, ⟨some .bool, 1, 0⟩),
  (5, ⟨some .byte, 1, 0⟩),
  (6, ⟨some .byte, 1, 0⟩),
  (7, ⟨some (.pair (.int .i64) (.pair (.int .i64) (.pair .bool (.pair .byte .unit)))), 24, 0⟩),
  (8, ⟨some (.pair (.int .i64) (.pair (.int .i64) (.pair .bool (.pair .byte .unit)))), 24, 0⟩),
  (9, ⟨some .str, 16, 0⟩),
  (10, ⟨some .str, 16, 0⟩),
  (11, ⟨some .str, 16, 0⟩),
  (12, ⟨some (.int .u64), 8, 0⟩),
  (13, ⟨some (.pair .str (.pair (.int .u64) .unit)), 24, 0⟩),
  (14, ⟨some (.pair .str (.pair (.int .u64) .unit)), 24, 0⟩),
  (21, ⟨some (.int .i32), 4, 0⟩),
  (22, ⟨some (.sl .byte), 24, 5⟩),
  (24, ⟨some (.int .i64), 8, 0⟩),
  (42, ⟨some (.sl (.sl .byte)), 24, 22⟩),
  (47, ⟨some (.pair (.sl .byte) (.pair (.int .i64) .unit)), 32, 0⟩),
  (48, ⟨some (.pair (.sl .byte) (.pair (.int .i64) .unit)), 32, 0⟩),
  (69, ⟨some (.int .u64), 8, 0⟩),
  (75, ⟨some (.arr 256 .bool), 256, 4⟩),
  (76, ⟨some (.arr 256 .bool), 256, 4⟩),
  (88, ⟨some (.int .u32), 4, 0⟩),
  (93, ⟨some (.arr 4 .byte), 4, 5⟩),
  (95, ⟨some (.arr 256 .byte), 256, 5⟩),
  (96, ⟨some (.pair .byte (.pair .byte .unit)), 2, 0⟩),
  (97, ⟨some (.pair .byte (.pair .byte .unit)), 2, 0⟩),
  (98, ⟨some (.arr 16 (.pair .byte (.pair .byte .unit))), 32, 97⟩),
  (106, ⟨some .byte, 1, 0⟩),
  (107, ⟨some .byte, 1, 0⟩),
  (110, ⟨some (.int .i32), 4, 0⟩),
  (111, ⟨some (.int .i32), 4, 0⟩)]
theorem tis_ok : (tis.all fun p => tyB Tryd.prog (tiOf tis) p.1) = true := by kernel_rfl
theorem follows : Tryd.prog.follows .mixedOrders = true := by kernel_rfl
def s_bytes_Index : List AV → Bool × AV
  | [.dat (.sl .byte) a0 _, .dat (.sl .byte) a1 _] => (bytes_Index_ok a0 a1, (.dat (.int .i64) (bytes_Index a0 a1) none))
  | _ => (false, .bad)
def s_bytes_Cut : List AV → Bool × AV
  | [.dat (.sl .byte) a0 _, .dat (.sl .byte) a1 _] => (bytes_Cut_ok a0 a1, (.tup [(.dat (.sl .byte) ((bytes_Cut a0 a1).1) none), (.dat (.sl .byte) ((bytes_Cut a0 a1).2.1) none), (.dat .bool ((bytes_Cut a0 a1).2.2) none)]))
  | _ => (false, .bad)
def s_octet_plain : List AV → Bool × AV
  | [.dat .byte a0 _] => (true, (.dat (.int .i64) (octet_plain a0) none))
  | _ => (false, .bad)
def s_internal_bytealg_IndexByteString : List AV → Bool × AV
  | [.dat .str a0 _, .dat .byte a1 _] => (true, (.dat (.int .i64) (internal_bytealg_IndexByteString a0 a1) none))
  | _ => (false, .bad)
def s_internal_stringslite_IndexByte : List AV → Bool × AV
  | [.dat .str a0 _, .dat .byte a1 _] => (true, (.dat (.int .i64) (internal_stringslite_IndexByte a0 a1) none))
  | _ => (false, .bad)
def s_strings_IndexByte : List AV → Bool × AV
  | [.dat .str a0 _, .dat .byte a1 _] => (true, (.dat (.int .i64) (strings_IndexByte a0 a1) none))
  | _ => (false, .bad)
def s_octet_in : List AV → Bool × AV
  | [.dat .str a0 _, .dat .byte a1 _] => (true, (.dat .bool (octet_in a0 a1) none))
  | _ => (false, .bad)
def s_octet_Kinds : List AV → Bool × AV
  | [.dat .byte a0 _] => (true, (.dat (.int .i64) (octet_Kinds a0) none))
  | _ => (false, .bad)
def s_octet_Is : List AV → Bool × AV
  | [.dat .byte a0 _, .dat (.int .i64) a1 _] => (true, (.dat .bool (octet_Is a0 a1) none))
  | _ => (false, .bad)
def s_octet_Lower : List AV → Bool × AV
  | [.dat .byte a0 _] => (true, (.dat .byte (octet_Lower a0) none))
  | _ => (false, .bad)
def s_hexa_Value : List AV → Bool × AV
  | [.dat .byte a0 _] => (true, (.tup [(.dat (.int .i64) ((hexa_Value a0).1) none), (.dat .bool ((hexa_Value a0).2) none)]))
  | _ => (false, .bad)
def s_hexa_pair : List AV → Bool × AV
  | [.dat .byte a0 _, .dat .byte a1 _] => (true, (.tup [(.dat .byte ((hexa_pair a0 a1).1) none), (.dat .bool ((hexa_pair a0 a1).2) none)]))
  | _ => (false, .bad)
def s_hexa_Take : List AV → Bool × AV
  | [.dat (.sl .byte) a0 _, .dat (.int .i64) a1 _, .dat .byte a2 _] => (hexa_Take_ok a0 a1 a2, (.tup [(.dat .byte ((hexa_Take a0 a1 a2).1) none), (.dat .bool ((hexa_Take a0 a1 a2).2) none)]))
  | _ => (false, .bad)
def s_bytes_makeASCIISet : List AV → Bool × AV
  | [.dat .str a0 _] => (bytes_makeASCIISet_ok a0, (.tup [(.dat (.arr 256 .bool) ((bytes_makeASCIISet a0).1) none), (.dat .bool ((bytes_makeASCIISet a0).2) none)]))
  | _ => (false, .bad)
def s_unicode_utf8_DecodeRune : List AV → Bool × AV
  | [.dat (.sl .byte) a0 _] => (unicode_utf8_DecodeRune_ok a0, (.tup [(.dat (.int .i32) ((unicode_utf8_DecodeRune a0).1) none), (.dat (.int .i64) ((unicode_utf8_DecodeRune a0).2) none)]))
  | _ => (false, .bad)
def s_bytes_IndexRune : List AV → Bool × AV
  | [.dat (.sl .byte) a0 _, .dat (.int .i32) a1 _] => (bytes_IndexRune_ok a0 a1, (.dat (.int .i64) (bytes_IndexRune a0 a1) none))
  | _ => (false, .bad)
def s_bytes_shouldUseASCIISet : List AV → Bool × AV
  | [.dat (.int .i64) a0 _] => (true, (.dat .bool (bytes_shouldUseASCIISet a0) none))
  | _ => (false, .bad)
def s___bytes_asciiSet__contains : List AV → Bool × AV
  | [.adr (.arr 256 .bool) a0, .dat .byte a1 _] => (true, (.dat .bool (__bytes_asciiSet__contains a0 a1) none))
  | _ => (false, .bad)
def s_bytes_IndexAny : List AV → Bool × AV
  | [.dat (.sl .byte) a0 _, .dat .str a1 _] => (bytes_IndexAny_ok a0 a1, (.dat (.int .i64) (bytes_IndexAny a0 a1) none))
  | _ => (false, .bad)
def s_bytes_ContainsAny : List AV → Bool × AV
  | [.dat (.sl .byte) a0 _, .dat .str a1 _] => (bytes_ContainsAny_ok a0 a1, (.dat .bool (bytes_ContainsAny a0 a1) none))
  | _ => (false, .bad)
def s_hexa_Capital : List AV → Bool × AV
  | [.dat (.sl .byte) a0 _] => (hexa_Capital_ok a0, (.dat .bool (hexa_Capital a0) none))
  | _ => (false, .bad)
def s_qpage_right : List AV → Bool × AV
  | [.dat (.sl .byte) a0 _] => (qpage_right_ok a0, (.dat .bool (qpage_right a0) none))
  | _ => (false, .bad)
def s_qpage_Check : List AV → Bool × AV
  | [.dat (.sl .byte) a0 _] => (qpage_Check_ok a0, (.dat (.int .i64) (qpage_Check a0) none))
  | _ => (false, .bad)
def s_unicode_utf8_RuneCount : List AV → Bool × AV
  | [.dat (.sl .byte) a0 _] => (unicode_utf8_RuneCount_ok a0, (.dat (.int .i64) (unicode_utf8_RuneCount a0) none))
  | _ => (false, .bad)
def s_internal_bytealg_Count : List AV → Bool × AV
  | [.dat (.sl .byte) a0 _, .dat .byte a1 _] => (internal_bytealg_Count_ok a0 a1, (.dat (.int .i64) (internal_bytealg_Count a0 a1) none))
  | _ => (false, .bad)
def s_bytes_Count : List AV → Bool × AV
  | [.dat (.sl .byte) a0 _, .dat (.sl .byte) a1 _] => (bytes_Count_ok a0 a1, (.dat (.int .i64) (bytes_Count a0 a1) none))
  | _ => (false, .bad)
def s_qpage_Soft : List AV → Bool × AV
  | [.dat (.sl .byte) a0 _] => (qpage_Soft_ok a0, (.dat (.int .i64) (qpage_Soft a0) none))
  | _ => (false, .bad)
def s_bytes_Clone : List AV → Bool × AV
  | [.dat (.sl .byte) a0 _] => (bytes_Clone_ok a0, (.dat (.sl .byte) (bytes_Clone a0) (some (0, 5))))
  | _ => (false, .bad)
def s_hexa_Digit : List AV → Bool × AV
  | [.dat (.int .i64) a0 _] => (hexa_Digit_ok a0, (.dat .byte (hexa_Digit a0) none))
  | _ => (false, .bad)
def s_hexa_both : List AV → Bool × AV
  | [.dat .byte a0 _] => (true, (.dat (.sl .byte) (hexa_both a0) (some (2, 5))))
  | _ => (false, .bad)
def s_hexa_Put : List AV → Bool × AV
  | [.dat (.sl .byte) a0 _, .dat .byte a1 _, .dat .byte a2 _] => (hexa_Put_ok a0 a1 a2, (.dat (.sl .byte) (hexa_Put a0 a1 a2) (some (6, 5))))
  | _ => (false, .bad)
def s_qpage_Unit : List AV → Bool × AV
  | [.dat .byte a0 _, .dat .bool a1 _] => (true, (.dat (.sl .byte) (qpage_Unit a0 a1) (some (4, 5))))
  | _ => (false, .bad)
def s___qpage_page__end : List AV → Bool × AV
  | [.pbox (.ppair (.osl 5 .byte) (.ppair (.leaf (.int .i64)) (.leaf .unit))) a0 none, .dat .bool a1 _] => ((__qpage_page__end_ok a0 a1), .tup [(.tup []), (.pbox (.ppair (.osl 5 .byte) (.ppair (.leaf (.int .i64)) (.leaf .unit))) (__qpage_page__end a0 a1) none), .bad])
  | _ => (false, .bad)
def s___qpage_page__put : List AV → Bool × AV
  | [.pbox (.ppair (.osl 5 .byte) (.ppair (.leaf (.int .i64)) (.leaf .unit))) a0 none, .dat (.sl .byte) a1 _] => ((__qpage_page__put_ok a0 a1), .tup [(.tup []), (.pbox (.ppair (.osl 5 .byte) (.ppair (.leaf (.int .i64)) (.leaf .unit))) (__qpage_page__put a0 a1) none), .bad])
  | _ => (false, .bad)
def s_qpage_broken : List AV → Bool × AV
  | [.dat (.sl .byte) a0 _, .dat (.int .i64) a1 _] => (qpage_broken_ok a0 a1, (.dat (.int .i64) (qpage_broken a0 a1) none))
  | _ => (false, .bad)
def s_qpage_Lay : List AV → Bool × AV
  | [.dat (.sl .byte) a0 _] => (qpage_Lay_ok a0, (.dat (.sl .byte) (qpage_Lay a0) none))
  | _ => (false, .bad)
def s_qpage_Breaks : List AV → Bool × AV
  | [.dat (.sl .byte) a0 _] => (qpage_Breaks_ok a0, (.dat (.sl .byte) (qpage_Breaks a0) (some (2, 5))))
  | _ => (false, .bad)
def s_law18_alive : List AV → Bool × AV
  | [] => (true, (.dat .bool law18_alive none))
  | _ => (false, .bad)
def s_ref18_Lines : List AV → Bool × AV
  | [.dat (.sl .byte) a0 _] => (ref18_Lines_ok a0, (.tup [(.dat (.sl (.sl .byte)) ((ref18_Lines a0).1) none), (.dat .bool ((ref18_Lines a0).2) none)]))
  | _ => (false, .bad)
def s_ref01_Like : List AV → Bool × AV
  | [.dat (.sl .byte) a0 _, .dat (.sl .byte) a1 _] => (ref01_Like_ok a0 a1, (.dat .bool (ref01_Like a0 a1) none))
  | _ => (false, .bad)
def s_ref01_has : List AV → Bool × AV
  | [.dat .str a0 _, .dat .byte a1 _] => (ref01_has_ok a0 a1, (.dat .bool (ref01_has a0 a1) none))
  | _ => (false, .bad)
def s_ref01_Kinds : List AV → Bool × AV
  | [.dat .byte a0 _] => (true, (.dat (.int .i64) (ref01_Kinds a0) none))
  | _ => (false, .bad)
def s_ref01_Is : List AV → Bool × AV
  | [.dat .byte a0 _, .dat (.int .i64) a1 _] => (true, (.dat .bool (ref01_Is a0 a1) none))
  | _ => (false, .bad)
def s_ref02_Digit : List AV → Bool × AV
  | [.dat (.int .i64) a0 _] => (ref02_Digit_ok a0, (.dat .byte (ref02_Digit a0) none))
  | _ => (false, .bad)
def s_ref02_Put : List AV → Bool × AV
  | [.dat (.sl .byte) a0 _, .dat .byte a1 _, .dat .byte a2 _] => (ref02_Put_ok a0 a1 a2, (.dat (.sl .byte) (ref02_Put a0 a1 a2) (some (6, 5))))
  | _ => (false, .bad)
def s_ref02_Value : List AV → Bool × AV
  | [.dat .byte a0 _] => (true, (.tup [(.dat (.int .i64) ((ref02_Value a0).1) none), (.dat .bool ((ref02_Value a0).2) none)]))
  | _ => (false, .bad)
def s_ref02_Take : List AV → Bool × AV
  | [.dat (.sl .byte) a0 _, .dat (.int .i64) a1 _, .dat .byte a2 _] => (ref02_Take_ok a0 a1 a2, (.tup [(.dat .byte ((ref02_Take a0 a1 a2).1) none), (.dat .bool ((ref02_Take a0 a1 a2).2) none)]))
  | _ => (false, .bad)
def s_ref18_right : List AV → Bool × AV
  | [.dat (.sl .byte) a0 _] => (ref18_right_ok a0, (.dat .bool (ref18_right a0) none))
  | _ => (false, .bad)
def s_ref18_Check : List AV → Bool × AV
  | [.dat (.sl .byte) a0 _] => (ref18_Check_ok a0, (.dat (.int .i64) (ref18_Check a0) none))
  | _ => (false, .bad)
def s_ref18_Soft : List AV → Bool × AV
  | [.dat (.sl .byte) a0 _] => (ref18_Soft_ok a0, (.dat (.int .i64) (ref18_Soft a0) none))
  | _ => (false, .bad)
def s_law18_QpageChecks : List AV → Bool × AV
  | [.dat (.sl .byte) a0 _] => (true, (.dat .bool (law18_QpageChecks a0) none))
  | _ => (false, .bad)
def s_law18_QpageRight : List AV → Bool × AV
  | [.dat (.sl .byte) a0 _] => (true, (.dat .bool (law18_QpageRight a0) none))
  | _ => (false, .bad)
def s_law18_QpageBreaks : List AV → Bool × AV
  | [.dat (.sl .byte) a0 _] => (true, (.dat .bool (law18_QpageBreaks a0) none))
  | _ => (false, .bad)
def s_ref18_Breaks : List AV → Bool × AV
  | [.dat (.sl .byte) a0 _] => (ref18_Breaks_ok a0, (.dat (.sl .byte) (ref18_Breaks a0) (some (2, 5))))
  | _ => (false, .bad)
def s_ref18_Unit : List AV → Bool × AV
  | [.dat .byte a0 _, .dat .bool a1 _] => (true, (.dat (.sl .byte) (ref18_Unit a0 a1) (some (4, 5))))
  | _ => (false, .bad)
def s_ref18_Lay : List AV → Bool × AV
  | [.dat (.sl .byte) a0 _] => (ref18_Lay_ok a0, (.dat (.sl .byte) (ref18_Lay a0) (some (2, 5))))
  | _ => (false, .bad)
def s_qpage_Len : List AV → Bool × AV
  | [.dat (.sl .byte) a0 _] => (qpage_Len_ok a0, (.dat (.int .i64) (qpage_Len a0) none))
  | _ => (false, .bad)
def s_law18_QpageLays : List AV → Bool × AV
  | [.dat (.sl .byte) a0 _, .dat .byte a1 _, .dat .bool a2 _] => (true, (.dat .bool (law18_QpageLays a0 a1 a2) none))
  | _ => (false, .bad)

/-! what has no body -/

theorem internal_bytealg_IndexByteString_sound : SoundG G Tryd.prog 82 s_internal_bytealg_IndexByteString := fun w S hg vals avs r h hS ha => by
  unfold s_internal_bytealg_IndexByteString at h
  split at h
  · simp only [Prod.mk.injEq, true_and] at h
    subst h
    exact internal_bytealg_IndexByteString_sound' Tryd.func82 (by kernel_rfl) (by kernel_rfl) (by kernel_rfl) (by kernel_rfl) hS ha
  · cases h
def s_internal_bytealg_IndexString (m0 : Int) : List AV → Bool × AV
  | [.dat .str a0 _, .dat .str a1 _] => (internal_bytealg_IndexString_ok m0 a0 a1, (.dat (.int .i64) (internal_bytealg_IndexString a0 a1) none))
  | _ => (false, .bad)
theorem internal_bytealg_IndexString_sound (m0 : Int) : SoundG (Gm m0) Tryd.prog 87 (s_internal_bytealg_IndexString m0) := fun w S hg vals avs r h hS ha => by
  unfold s_internal_bytealg_IndexString at h
  split at h
  · simp only [Prod.mk.injEq] at h
    obtain ⟨hp, rfl⟩ := h
    simp only [internal_bytealg_IndexString_ok, Bool.and_eq_true, decide_eq_true_eq] at hp
    have hm : w.cell? ⟨0, 0, none⟩ = some (.int .i64 m0) := by
      cases hg.2 0 (.int .i64) m0 rfl with
      | adr _ _ ad cs h1 h2 =>
        have e : cs = [.int .i64 m0] := h1
        subst e
        exact ((h2.2 (by simp)).2 0 _ rfl).2
    exact internal_bytealg_IndexString_sound' Tryd.func87 (by kernel_rfl) (by kernel_rfl) (by kernel_rfl) (by kernel_rfl) (g := 0) (by kernel_rfl) hm hS ha hp.1.1 hp.1.2 hp.2
  · cases h
theorem bytes_IndexRune_sound : SoundG G Tryd.prog 83 s_bytes_IndexRune := fun w S hg vals avs r h hS ha => by
  unfold s_bytes_IndexRune at h
  split at h
  · simp only [Prod.mk.injEq] at h
    cases h.1
  · cases h
theorem unicode_utf8_DecodeRune_sound : SoundG G Tryd.prog 86 s_unicode_utf8_DecodeRune := fun w S hg vals avs r h hS ha => by
  unfold s_unicode_utf8_DecodeRune at h
  split at h
  · simp only [Prod.mk.injEq] at h
    obtain ⟨hp, rfl⟩ := h
    obtain ⟨m, hm⟩ := hg
    exact unicode_utf8_DecodeRune_sound' hm.1 hS ha (by simpa [unicode_utf8_DecodeRune_ok] using hp)
  · cases h
theorem bytes_Index_sound : SoundG G Tryd.prog 49 s_bytes_Index := fun w S hg vals avs r h hS ha => by
  unfold s_bytes_Index at h
  split at h
  · simp only [Prod.mk.injEq] at h
    obtain ⟨hp, rfl⟩ := h
    unfold bytes_Index_ok at hp
    simp only [Bool.and_eq_true, decide_eq_true_eq] at hp
    obtain ⟨m, hm⟩ := hg
    have hc : w.cell? ⟨0, 0, none⟩ = some (.int .i64 m) := by
      cases hm.2 0 (.int .i64) m rfl with
      | adr _ _ ad cs h1 h2 =>
        have e : cs = [.int .i64 m] := h1
        subst e
        exact ((h2.2 (by simp)).2 0 _ rfl).2
    exact bytes_Index_sound' hc hS ha (lenOk_le hp.1) (lenOk_le hp.2.1) hp.2.2
  · cases h
theorem bytes_Clone_sound : SoundG G Tryd.prog 55 s_bytes_Clone := fun w S hg vals avs r h hS ha => by
  unfold s_bytes_Clone at h
  split at h
  · simp only [Prod.mk.injEq] at h
    obtain ⟨hp, rfl⟩ := h
    exact bytes_Clone_sound' hS ha (lenOk_le hp)
  · cases h
theorem internal_bytealg_Count_sound : SoundG G Tryd.prog 53 s_internal_bytealg_Count := fun w S hg vals avs r h hS ha => by
  unfold s_internal_bytealg_Count at h
  split at h
  · simp only [Prod.mk.injEq] at h
    cases h.1
  · cases h
theorem unicode_utf8_RuneCount_sound : SoundG G Tryd.prog 52 s_unicode_utf8_RuneCount := fun w S hg vals avs r h hS ha => by
  unfold s_unicode_utf8_RuneCount at h
  split at h
  · simp only [Prod.mk.injEq] at h
    cases h.1
  · cases h


/-! bytes.Cut -/

noncomputable def E_bytes_Cut : EnvP := ⟨⟨tiOf tis, fnsOf [(49, s_bytes_Index)], cnsOf [], [], 23, (fun _ => none), (fun _ => none), some [4, 1000005, 6]⟩, fun _ => none, fun _ => none, fun _ => [], fun _ => none⟩
noncomputable def C_bytes_Cut : Code := Tryd.f33.body.getD .skip
noncomputable def R_bytes_Cut : Array ResultVar := Tryd.f33.results
theorem bytes_Cut_ev (n : Nat) (s0 : List UInt8) (o0 : Lab) (sep1 : List UInt8) (o1 : Lab) : evFnP E_bytes_Cut n C_bytes_Cut R_bytes_Cut [.dat (.sl .byte) s0 o0, .dat (.sl .byte) sep1 o1] = bytes_Cut_sh n s0 sep1 := by
  kernel_rfl
theorem bytes_Cut_sound : SoundG G Tryd.prog 33 s_bytes_Cut := by
  refine sound_of_evP' G_stays (E := E_bytes_Cut) (fn := Tryd.f33) (c := C_bytes_Cut) (tyOk_of_table rfl tis_ok) (fun w S hg => ⟨⟨(fns_cons (bytes_Index_sound w S hg) fns_nil), fun f sp h => cns_nil f sp h w S⟩, gl_none w S hg, fun _ _ h => by cases h⟩) follows Tryd.func33 (by kernel_rfl) (by kernel_rfl) (by kernel_rfl) ?_
  intro avs r h
  unfold s_bytes_Cut at h
  split at h
  · simp only [Prod.mk.injEq] at h
    obtain ⟨hp, rfl⟩ := h
    obtain ⟨n, hn⟩ := bytes_Cut_math _ _ hp
    exact ⟨n, _, (bytes_Cut_ev n _ _ _ _).trans hn, .inl rfl⟩
  · cases h

/-! sheave/octet.plain -/

noncomputable def E_octet_plain : EnvP := ⟨⟨tiOf tis, fnsOf [], cnsOf [], [], 46, (fun _ => none), (fun x => if x = 0 then some [3] else none), some [2]⟩, fun _ => none, fun _ => none, fun _ => [], fun _ => none⟩
noncomputable def C_octet_plain : Code := Tryd.f73.body.getD .skip
noncomputable def R_octet_plain : Array ResultVar := Tryd.f73.results
theorem octet_plain_ev (n : Nat) (c0 : UInt8) (o0 : Lab) : evFnP E_octet_plain n C_octet_plain R_octet_plain [.dat .byte c0 o0] = octet_plain_sh n c0 := by
  kernel_rfl
theorem octet_plain_sound : SoundG G Tryd.prog 73 s_octet_plain := by
  refine sound_of_evP' G_stays (E := E_octet_plain) (fn := Tryd.f73) (c := C_octet_plain) (tyOk_of_table rfl tis_ok) (fun w S hg => ⟨⟨fns_nil, fun f sp h => cns_nil f sp h w S⟩, gl_none w S hg, fun _ _ h => by cases h⟩) follows Tryd.func73 (by kernel_rfl) (by kernel_rfl) (by kernel_rfl) ?_
  intro avs r h
  unfold s_octet_plain at h
  split at h
  · simp only [Prod.mk.injEq, true_and] at h
    subst h
    obtain ⟨n, hn⟩ := octet_plain_math _
    exact ⟨n, _, (octet_plain_ev n _ _).trans hn, .inl rfl⟩
  · cases h

/-! internal/stringslite.IndexByte -/

noncomputable def E_internal_stringslite_IndexByte : EnvP := ⟨⟨tiOf tis, fnsOf [(82, s_internal_bytealg_IndexByteString)], cnsOf [], [], 8, (fun _ => none), (fun _ => none), some [4]⟩, fun _ => none, fun _ => none, fun _ => [], fun _ => none⟩
noncomputable def C_internal_stringslite_IndexByte : Code := Tryd.f99.body.getD .skip
noncomputable def R_internal_stringslite_IndexByte : Array ResultVar := Tryd.f99.results
theorem internal_stringslite_IndexByte_ev (n : Nat) (s0 : List UInt8) (o0 : Lab) (c1 : UInt8) (o1 : Lab) : evFnP E_internal_stringslite_IndexByte n C_internal_stringslite_IndexByte R_internal_stringslite_IndexByte [.dat .str s0 o0, .dat .byte c1 o1] = internal_stringslite_IndexByte_sh n s0 c1 := by
  kernel_rfl
theorem internal_stringslite_IndexByte_sound : SoundG G Tryd.prog 99 s_internal_stringslite_IndexByte := by
  refine sound_of_evP' G_stays (E := E_internal_stringslite_IndexByte) (fn := Tryd.f99) (c := C_internal_stringslite_IndexByte) (tyOk_of_table rfl tis_ok) (fun w S hg => ⟨⟨(fns_cons (internal_bytealg_IndexByteString_sound w S hg) fns_nil), fun f sp h => cns_nil f sp h w S⟩, gl_none w S hg, fun _ _ h => by cases h⟩) follows Tryd.func99 (by kernel_rfl) (by kernel_rfl) (by kernel_rfl) ?_
  intro avs r h
  unfold s_internal_stringslite_IndexByte at h
  split at h
  · simp only [Prod.mk.injEq, true_and] at h
    subst h
    obtain ⟨n, hn⟩ := internal_stringslite_IndexByte_math _ _
    exact ⟨n, _, (internal_stringslite_IndexByte_ev n _ _ _ _).trans hn, .inl rfl⟩
  · cases h

/-! strings.IndexByte -/

noncomputable def E_strings_IndexByte : EnvP := ⟨⟨tiOf tis, fnsOf [(99, s_internal_stringslite_IndexByte)], cnsOf [], [], 8, (fun _ => none), (fun _ => none), some [4]⟩, fun _ => none, fun _ => none, fun _ => [], fun _ => none⟩
noncomputable def C_strings_IndexByte : Code := Tryd.f92.body.getD .skip
noncomputable def R_strings_IndexByte : Array ResultVar := Tryd.f92.results
theorem strings_IndexByte_ev (n : Nat) (s0 : List UInt8) (o0 : Lab) (c1 : UInt8) (o1 : Lab) : evFnP E_strings_IndexByte n C_strings_IndexByte R_strings_IndexByte [.dat .str s0 o0, .dat .byte c1 o1] = strings_IndexByte_sh n s0 c1 := by
  kernel_rfl
theorem strings_IndexByte_sound : SoundG G Tryd.prog 92 s_strings_IndexByte := by
  refine sound_of_evP' G_stays (E := E_strings_IndexByte) (fn := Tryd.f92) (c := C_strings_IndexByte) (tyOk_of_table rfl tis_ok) (fun w S hg => ⟨⟨(fns_cons (internal_stringslite_IndexByte_sound w S hg) fns_nil), fun f sp h => cns_nil f sp h w S⟩, gl_none w S hg, fun _ _ h => by cases h⟩) follows Tryd.func92 (by kernel_rfl) (by kernel_rfl) (by kernel_rfl) ?_
  intro avs r h
  unfold s_strings_IndexByte at h
  split at h
  · simp only [Prod.mk.injEq, true_and] at h
    subst h
    obtain ⟨n, hn⟩ := strings_IndexByte_math _ _
    exact ⟨n, _, (strings_IndexByte_ev n _ _ _ _).trans hn, .inl rfl⟩
  · cases h

/-! sheave/octet.in -/

noncomputable def E_octet_in : EnvP := ⟨⟨tiOf tis, fnsOf [(92, s_strings_IndexByte)], cnsOf [], [], 9, (fun _ => none), (fun _ => none), some [4]⟩, fun _ => none, fun _ => none, fun _ => [], fun _ => none⟩
noncomputable def C_octet_in : Code := Tryd.f74.body.getD .skip
noncomputable def R_octet_in : Array ResultVar := Tryd.f74.results
theorem octet_in_ev (n : Nat) (s0 : List UInt8) (o0 : Lab) (c1 : UInt8) (o1 : Lab) : evFnP E_octet_in n C_octet_in R_octet_in [.dat .str s0 o0, .dat .byte c1 o1] = octet_in_sh n s0 c1 := by
  kernel_rfl
theorem octet_in_sound : SoundG G Tryd.prog 74 s_octet_in := by
  refine sound_of_evP' G_stays (E := E_octet_in) (fn := Tryd.f74) (c := C_octet_in) (tyOk_of_table rfl tis_ok) (fun w S hg => ⟨⟨(fns_cons (strings_IndexByte_sound w S hg) fns_nil), fun f sp h => cns_nil f sp h w S⟩, gl_none w S hg, fun _ _ h => by cases h⟩) follows Tryd.func74 (by kernel_rfl) (by kernel_rfl) (by kernel_rfl) ?_
  intro avs r h
  unfold s_octet_in at h
  split at h
  · simp only [Prod.mk.injEq, true_and] at h
    subst h
    obtain ⟨n, hn⟩ := octet_in_math _ _
    exact ⟨n, _, (octet_in_ev n _ _ _ _).trans hn, .inl rfl⟩
  · cases h

end Go.Av
