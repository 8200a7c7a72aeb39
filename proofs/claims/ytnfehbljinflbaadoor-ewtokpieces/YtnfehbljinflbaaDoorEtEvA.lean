import Derived.Test.YtnfehbljinflbaaDoorEtP10
import Derived.Test.YtnfehbljinflbaaDoorEtN
import Derived.Test.YtnfehbljinflbaaDoorProg
import Derived.KernelRfl
namespace Go.Av
open Go.Proofs
set_option maxRecDepth 100000
def tis : List (TypeId × TI) := [(2, ⟨some (.int .i64), 8, 0⟩),
  (3, ⟨some (.int .i64), 8, 0⟩),
  (4, ⟨some .bool, 1, 0⟩),
  (5, ⟨some .byte, 1, 0⟩),
  (6, ⟨some .byte, 1, 0⟩),
  (7, ⟨some (.pair (.int .i64) (.pair (.int .i64) (.pair .bool (.pair .byte .unit)))), 24, 0⟩),
  (8, ⟨some (.pair (.int .i64) (.pair (.int .i64) (.pair .bool (.pair .byte .unit)))), 24, 0⟩),
  (9, ⟨some .str, 16, 0⟩),
  (10, ⟨some .str, 16, 0⟩),
  (11, ⟨some .str, 16, 0⟩),
  (12, ⟨some (.int .u64), 8, 0⟩),
  (13, ⟨some (.pair .str (.pair (.int .u64) .unit)), 24, 0⟩),
  (14, ⟨some (.pair .str (.pair (.int .u64) .unit)), 24, 0⟩),
  (21, ⟨some (.int .i32), 4, 0⟩),
  (22, ⟨some (.sl (.pair (.int .i64) (.pair (.sl .byte) .unit))), 24, 27⟩),
  (24, ⟨some (.sl (.pair (.int .i64) (.pair (.sl .byte) .unit))), 24, 28⟩),
  (25, ⟨some (.sl .byte), 24, 5⟩),
  (26, ⟨some (.pair (.int .i64) (.pair (.sl .byte) .unit)), 32, 0⟩),
  (27, ⟨some (.pair (.int .i64) (.pair (.sl .byte) .unit)), 32, 0⟩),
  (28, ⟨some (.pair (.int .i64) (.pair (.sl .byte) .unit)), 32, 0⟩),
  (29, ⟨some (.sl .bool), 24, 4⟩),
  (43, ⟨some (.pair (.sl .byte) (.pair (.int .i64) (.pair (.sl .byte) .unit))), 56, 0⟩),
  (44, ⟨some (.pair (.sl .byte) (.pair (.int .i64) (.pair (.sl .byte) .unit))), 56, 0⟩),
  (49, ⟨some (.arr 256 .bool), 256, 4⟩),
  (50, ⟨some (.arr 256 .bool), 256, 4⟩),
  (55, ⟨some (.pair (.sl .byte) (.pair (.int .i64) (.pair (.sl .byte) .unit))), 56, 0⟩),
  (56, ⟨some (.int .i64), 8, 0⟩),
  (59, ⟨some (.sl (.sl .byte)), 24, 25⟩),
  (76, ⟨some (.arr 4 .byte), 4, 5⟩),
  (78, ⟨some (.int .u64), 8, 0⟩),
  (81, ⟨some (.int .u32), 4, 0⟩),
  (82, ⟨some (.arr 256 .byte), 256, 5⟩),
  (83, ⟨some (.pair .byte (.pair .byte .unit)), 2, 0⟩),
  (84, ⟨some (.pair .byte (.pair .byte .unit)), 2, 0⟩),
  (85, ⟨some (.arr 16 (.pair .byte (.pair .byte .unit))), 32, 84⟩),
  (98, ⟨some .byte, 1, 0⟩),
  (99, ⟨some .byte, 1, 0⟩),
  (102, ⟨some (.int .i32), 4, 0⟩),
  (103, ⟨some (.int .i32), 4, 0⟩)]
theorem tis_ok : (tis.all fun p => tyB Tryd.prog (tiOf tis) p.1) = true := by kernel_rfl
theorem follows : Tryd.prog.follows .mixedOrders = true := by kernel_rfl
def s_internal_bytealg_IndexByteString : List AV → Bool × AV
  | [.dat .str a0 _, .dat .byte a1 _] => (true, (.dat (.int .i64) (internal_bytealg_IndexByteString a0 a1) none))
  | _ => (false, .bad)
def s_bytes_IndexRune : List AV → Bool × AV
  | [.dat (.sl .byte) a0 _, .dat (.int .i32) a1 _] => (bytes_IndexRune_ok a0 a1, (.dat (.int .i64) (bytes_IndexRune a0 a1) none))
  | _ => (false, .bad)
def s_unicode_utf8_DecodeRune : List AV → Bool × AV
  | [.dat (.sl .byte) a0 _] => (unicode_utf8_DecodeRune_ok a0, (.tup [(.dat (.int .i32) ((unicode_utf8_DecodeRune a0).1) none), (.dat (.int .i64) ((unicode_utf8_DecodeRune a0).2) none)]))
  | _ => (false, .bad)
def s_bytes_Index : List AV → Bool × AV
  | [.dat (.sl .byte) a0 _, .dat (.sl .byte) a1 _] => (bytes_Index_ok a0 a1, (.dat (.int .i64) (bytes_Index a0 a1) none))
  | _ => (false, .bad)
def s_internal_bytealg_Count : List AV → Bool × AV
  | [.dat (.sl .byte) a0 _, .dat .byte a1 _] => (true, (.dat (.int .i64) (internal_bytealg_Count a0 a1) none))
  | _ => (false, .bad)
def s_bytes_explode : List AV → Bool × AV
  | [.dat (.sl .byte) a0 _, .dat (.int .i64) a1 _] => (bytes_explode_ok a0 a1, (.dat (.sl (.sl .byte)) (bytes_explode a0 a1) none))
  | _ => (false, .bad)
def s_unicode_utf8_RuneCount : List AV → Bool × AV
  | [.dat (.sl .byte) a0 _] => (unicode_utf8_RuneCount_ok a0, (.dat (.int .i64) (unicode_utf8_RuneCount a0) none))
  | _ => (false, .bad)
def s_bytes_Clone : List AV → Bool × AV
  | [.dat (.sl .byte) a0 _] => (bytes_Clone_ok a0, (.dat (.sl .byte) (bytes_Clone a0) (some (0, 5))))
  | _ => (false, .bad)
def s_bytes_trimLeftUnicode : List AV → Bool × AV
  | [.dat (.sl .byte) a0 _, .dat .str a1 _] => (bytes_trimLeftUnicode_ok a0 a1, (.dat (.sl .byte) (bytes_trimLeftUnicode a0 a1) none))
  | _ => (false, .bad)
def s_bytes_trimRightUnicode : List AV → Bool × AV
  | [.dat (.sl .byte) a0 _, .dat .str a1 _] => (bytes_trimRightUnicode_ok a0 a1, (.dat (.sl .byte) (bytes_trimRightUnicode a0 a1) none))
  | _ => (false, .bad)
def s_internal_stringslite_IndexByte : List AV → Bool × AV
  | [.dat .str a0 _, .dat .byte a1 _] => (true, (.dat (.int .i64) (internal_stringslite_IndexByte a0 a1) none))
  | _ => (false, .bad)
def s_strings_IndexByte : List AV → Bool × AV
  | [.dat .str a0 _, .dat .byte a1 _] => (true, (.dat (.int .i64) (strings_IndexByte a0 a1) none))
  | _ => (false, .bad)
def s_octet_plain : List AV → Bool × AV
  | [.dat .byte a0 _] => (true, (.dat (.int .i64) (octet_plain a0) none))
  | _ => (false, .bad)
def s_octet_in : List AV → Bool × AV
  | [.dat .str a0 _, .dat .byte a1 _] => (true, (.dat .bool (octet_in a0 a1) none))
  | _ => (false, .bad)
def s_octet_Kinds : List AV → Bool × AV
  | [.dat .byte a0 _] => (true, (.dat (.int .i64) (octet_Kinds a0) none))
  | _ => (false, .bad)
def s_octet_Is : List AV → Bool × AV
  | [.dat .byte a0 _, .dat (.int .i64) a1 _] => (true, (.dat .bool (octet_Is a0 a1) none))
  | _ => (false, .bad)
def s_octet_Lower : List AV → Bool × AV
  | [.dat .byte a0 _] => (true, (.dat .byte (octet_Lower a0) none))
  | _ => (false, .bad)
def s_octet_Fold : List AV → Bool × AV
  | [.dat (.sl .byte) a0 _] => (octet_Fold_ok a0, (.dat (.sl .byte) (octet_Fold a0) (some (2, 5))))
  | _ => (false, .bad)
def s_octet_Count : List AV → Bool × AV
  | [.dat (.sl .byte) a0 _, .dat (.int .i64) a1 _] => (octet_Count_ok a0 a1, (.dat (.int .i64) (octet_Count a0 a1) none))
  | _ => (false, .bad)
def s_octet_All : List AV → Bool × AV
  | [.dat (.sl .byte) a0 _, .dat (.int .i64) a1 _] => (octet_All_ok a0 a1, (.dat .bool (octet_All a0 a1) none))
  | _ => (false, .bad)
def s_bytes_makeASCIISet : List AV → Bool × AV
  | [.dat .str a0 _] => (bytes_makeASCIISet_ok a0, (.tup [(.dat (.arr 256 .bool) ((bytes_makeASCIISet a0).1) none), (.dat .bool ((bytes_makeASCIISet a0).2) none)]))
  | _ => (false, .bad)
def s_bytes_shouldUseASCIISet : List AV → Bool × AV
  | [.dat (.int .i64) a0 _] => (true, (.dat .bool (bytes_shouldUseASCIISet a0) none))
  | _ => (false, .bad)
def s___bytes_asciiSet__contains : List AV → Bool × AV
  | [.adr (.arr 256 .bool) a0, .dat .byte a1 _] => (true, (.dat .bool (__bytes_asciiSet__contains a0 a1) none))
  | _ => (false, .bad)
def s_bytes_IndexAny : List AV → Bool × AV
  | [.dat (.sl .byte) a0 _, .dat .str a1 _] => (bytes_IndexAny_ok a0 a1, (.dat (.int .i64) (bytes_IndexAny a0 a1) none))
  | _ => (false, .bad)
def s_bytes_trimLeftByte : List AV → Bool × AV
  | [.dat (.sl .byte) a0 _, .dat .byte a1 _] => (bytes_trimLeftByte_ok a0 a1, (.dat (.sl .byte) (bytes_trimLeftByte a0 a1) none))
  | _ => (false, .bad)
def s_bytes_trimRightByte : List AV → Bool × AV
  | [.dat (.sl .byte) a0 _, .dat .byte a1 _] => (bytes_trimRightByte_ok a0 a1, (.dat (.sl .byte) (bytes_trimRightByte a0 a1) none))
  | _ => (false, .bad)
def s_bytes_trimLeftASCII : List AV → Bool × AV
  | [.dat (.sl .byte) a0 _, .adr (.arr 256 .bool) a1] => (bytes_trimLeftASCII_ok a0 a1, (.dat (.sl .byte) (bytes_trimLeftASCII a0 a1) none))
  | _ => (false, .bad)
def s_bytes_trimRightASCII : List AV → Bool × AV
  | [.dat (.sl .byte) a0 _, .adr (.arr 256 .bool) a1] => (bytes_trimRightASCII_ok a0 a1, (.dat (.sl .byte) (bytes_trimRightASCII a0 a1) none))
  | _ => (false, .bad)
def s_bytes_Trim : List AV → Bool × AV
  | [.dat (.sl .byte) a0 _, .dat .str a1 _] => (bytes_Trim_ok a0 a1, (.dat (.sl .byte) (bytes_Trim a0 a1) none))
  | _ => (false, .bad)
def s_bytes_TrimLeft : List AV → Bool × AV
  | [.dat (.sl .byte) a0 _, .dat .str a1 _] => (bytes_TrimLeft_ok a0 a1, (.dat (.sl .byte) (bytes_TrimLeft a0 a1) none))
  | _ => (false, .bad)
def s_ref01_Like : List AV → Bool × AV
  | [.dat (.sl .byte) a0 _, .dat (.sl .byte) a1 _] => (ref01_Like_ok a0 a1, (.dat .bool (ref01_Like a0 a1) none))
  | _ => (false, .bad)
def s_ref01_has : List AV → Bool × AV
  | [.dat .str a0 _, .dat .byte a1 _] => (ref01_has_ok a0 a1, (.dat .bool (ref01_has a0 a1) none))
  | _ => (false, .bad)
def s_ref01_Kinds : List AV → Bool × AV
  | [.dat .byte a0 _] => (true, (.dat (.int .i64) (ref01_Kinds a0) none))
  | _ => (false, .bad)
def s_ref01_Is : List AV → Bool × AV
  | [.dat .byte a0 _, .dat (.int .i64) a1 _] => (true, (.dat .bool (ref01_Is a0 a1) none))
  | _ => (false, .bad)
def s_ref01_Count : List AV → Bool × AV
  | [.dat (.sl .byte) a0 _, .dat (.int .i64) a1 _] => (ref01_Count_ok a0 a1, (.dat (.int .i64) (ref01_Count a0 a1) none))
  | _ => (false, .bad)
def s_ref01_Lower : List AV → Bool × AV
  | [.dat .byte a0 _] => (true, (.dat .byte (ref01_Lower a0) none))
  | _ => (false, .bad)
def s_bytes_Count : List AV → Bool × AV
  | [.dat (.sl .byte) a0 _, .dat (.sl .byte) a1 _] => (bytes_Count_ok a0 a1, (.dat (.int .i64) (bytes_Count a0 a1) none))
  | _ => (false, .bad)
def s_bytes_genSplit : List AV → Bool × AV
  | [.dat (.sl .byte) a0 _, .dat (.sl .byte) a1 _, .dat (.int .i64) a2 _, .dat (.int .i64) a3 _] => (bytes_genSplit_ok a0 a1 a2 a3, (.dat (.sl (.sl .byte)) (bytes_genSplit a0 a1 a2 a3) none))
  | _ => (false, .bad)
def s_bytes_Split : List AV → Bool × AV
  | [.dat (.sl .byte) a0 _, .dat (.sl .byte) a1 _] => (bytes_Split_ok a0 a1, (.dat (.sl (.sl .byte)) (bytes_Split a0 a1) none))
  | _ => (false, .bad)
def s_ewform_code : List AV → Bool × AV
  | [.dat (.sl .byte) a0 _] => (ewform_code_ok a0, (.dat (.int .i64) (ewform_code a0) none))
  | _ => (false, .bad)
def s_ewform_full : List AV → Bool × AV
  | [.dat (.sl .byte) a0 _, .dat (.int .i64) a1 _] => (ewform_full_ok a0 a1, (.dat .bool (ewform_full a0 a1) none))
  | _ => (false, .bad)
def s_ewform_Parse : List AV → Bool × AV
  | [.dat (.sl .byte) a0 _] => (ewform_Parse_ok a0, (.tup [(.dat (.pair (.sl .byte) (.pair (.int .i64) (.pair (.sl .byte) .unit))) ((ewform_Parse a0).1) none), (.dat (.int .i64) ((ewform_Parse a0).2) none)]))
  | _ => (false, .bad)
def s_ewform_Is : List AV → Bool × AV
  | [.dat (.sl .byte) a0 _] => (ewform_Is_ok a0, (.dat .bool (ewform_Is a0) none))
  | _ => (false, .bad)
def s_ewtok_Kind : List AV → Bool × AV
  | [.dat (.sl .byte) a0 _] => (ewtok_Kind_ok a0, (.dat (.int .i64) (ewtok_Kind a0) none))
  | _ => (false, .bad)
def s_ewtok_leading : List AV → Bool × AV
  | [.dat (.sl .byte) a0 _] => (ewtok_leading_ok a0, (.dat (.int .i64) (ewtok_leading a0) none))
  | _ => (false, .bad)
def s_ewtok_run : List AV → Bool × AV
  | [.dat (.sl .byte) a0 _] => (ewtok_run_ok a0, (.dat (.int .i64) (ewtok_run a0) none))
  | _ => (false, .bad)
def s_ewtok_Pieces : List AV → Bool × AV
  | [.dat (.sl .byte) a0 _] => (ewtok_Pieces_ok a0, (.dat (.sl (.pair (.int .i64) (.pair (.sl .byte) .unit))) (ewtok_Pieces a0) (some (2, 28))))
  | _ => (false, .bad)
def s_ewtok_Hidden : List AV → Bool × AV
  | [.dat (.sl (.pair (.int .i64) (.pair (.sl .byte) .unit))) a0 _] => (ewtok_Hidden_ok a0, (.dat (.sl .bool) (ewtok_Hidden a0) (some (2, 4))))
  | _ => (false, .bad)
def s_ewtok_Shown : List AV → Bool × AV
  | [.dat (.sl .byte) a0 _] => (ewtok_Shown_ok a0, (.dat (.sl (.pair (.int .i64) (.pair (.sl .byte) .unit))) (ewtok_Shown a0) (some (2, 28))))
  | _ => (false, .bad)
def s_ewtok_Join : List AV → Bool × AV
  | [.dat (.sl (.pair (.int .i64) (.pair (.sl .byte) .unit))) a0 _] => (ewtok_Join_ok a0, (.dat (.sl .byte) (ewtok_Join a0) (some (2, 5))))
  | _ => (false, .bad)
def s_ewtok_Words : List AV → Bool × AV
  | [.dat (.sl .byte) a0 _] => (ewtok_Words_ok a0, (.dat (.int .i64) (ewtok_Words a0) none))
  | _ => (false, .bad)
def s_ref32_gap : List AV → Bool × AV
  | [.dat .byte a0 _] => (true, (.dat .bool (ref32_gap a0) none))
  | _ => (false, .bad)
def s_ref29_code : List AV → Bool × AV
  | [.dat .byte a0 _] => (true, (.dat (.int .i64) (ref29_code a0) none))
  | _ => (false, .bad)
def s_ref29_cut : List AV → Bool × AV
  | [.dat (.sl .byte) a0 _] => (ref29_cut_ok a0, (.dat (.sl (.sl .byte)) (ref29_cut a0) none))
  | _ => (false, .bad)
def s_ref29_Parse : List AV → Bool × AV
  | [.dat (.sl .byte) a0 _] => (ref29_Parse_ok a0, (.tup [(.dat (.pair (.sl .byte) (.pair (.int .i64) (.pair (.sl .byte) .unit))) ((ref29_Parse a0).1) none), (.dat (.int .i64) ((ref29_Parse a0).2) none)]))
  | _ => (false, .bad)
def s_ref32_Kind : List AV → Bool × AV
  | [.dat (.sl .byte) a0 _] => (ref32_Kind_ok a0, (.dat (.int .i64) (ref32_Kind a0) none))
  | _ => (false, .bad)
def s_ref32_Pieces : List AV → Bool × AV
  | [.dat (.sl .byte) a0 _] => (ref32_Pieces_ok a0, (.dat (.sl (.pair (.int .i64) (.pair (.sl .byte) .unit))) (ref32_Pieces a0) (some (2, 27))))
  | _ => (false, .bad)
def s_ref32_Hidden : List AV → Bool × AV
  | [.dat (.sl (.pair (.int .i64) (.pair (.sl .byte) .unit))) a0 _, .dat (.int .i64) a1 _] => (ref32_Hidden_ok a0 a1, (.dat .bool (ref32_Hidden a0 a1) none))
  | _ => (false, .bad)
def s_ref32_Shown : List AV → Bool × AV
  | [.dat (.sl .byte) a0 _] => (ref32_Shown_ok a0, (.dat (.sl (.pair (.int .i64) (.pair (.sl .byte) .unit))) (ref32_Shown a0) (some (2, 27))))
  | _ => (false, .bad)
def s_law32_same : List AV → Bool × AV
  | [.dat (.sl (.pair (.int .i64) (.pair (.sl .byte) .unit))) a0 _, .dat (.sl (.pair (.int .i64) (.pair (.sl .byte) .unit))) a1 _] => (law32_same_ok a0 a1, (.dat .bool (law32_same a0 a1) none))
  | _ => (false, .bad)
def s_law32_alive : List AV → Bool × AV
  | [] => (true, (.dat .bool law32_alive none))
  | _ => (false, .bad)
def s_law32_EwtokHidden : List AV → Bool × AV
  | [.dat (.sl (.pair (.int .i64) (.pair (.sl .byte) .unit))) a0 _] => (true, (.dat .bool (law32_EwtokHidden a0) none))
  | _ => (false, .bad)
def s_law32_EwtokWhole : List AV → Bool × AV
  | [.dat (.sl .byte) a0 _] => (true, (.dat .bool (law32_EwtokWhole a0) none))
  | _ => (false, .bad)
def s_law32_EwtokPieces : List AV → Bool × AV
  | [.dat (.sl .byte) a0 _] => (true, (.dat .bool (law32_EwtokPieces a0) none))
  | _ => (false, .bad)

/-! what has no body -/

theorem internal_bytealg_IndexByteString_sound : SoundG G Tryd.prog 39 s_internal_bytealg_IndexByteString := fun w S hg vals avs r h hS ha => by
  unfold s_internal_bytealg_IndexByteString at h
  split at h
  · simp only [Prod.mk.injEq, true_and] at h
    subst h
    exact internal_bytealg_IndexByteString_sound' Tryd.func39 (by kernel_rfl) (by kernel_rfl) (by kernel_rfl) (by kernel_rfl) hS ha
  · cases h
def s_internal_bytealg_IndexString (m0 : Int) : List AV → Bool × AV
  | [.dat .str a0 _, .dat .str a1 _] => (internal_bytealg_IndexString_ok m0 a0 a1, (.dat (.int .i64) (internal_bytealg_IndexString a0 a1) none))
  | _ => (false, .bad)
theorem internal_bytealg_IndexString_sound (m0 : Int) : SoundG (Gm m0) Tryd.prog 44 (s_internal_bytealg_IndexString m0) := fun w S hg vals avs r h hS ha => by
  unfold s_internal_bytealg_IndexString at h
  split at h
  · simp only [Prod.mk.injEq] at h
    obtain ⟨hp, rfl⟩ := h
    simp only [internal_bytealg_IndexString_ok, Bool.and_eq_true, decide_eq_true_eq] at hp
    have hm : w.cell? ⟨0, 0, none⟩ = some (.int .i64 m0) := by
      cases hg.2 0 (.int .i64) m0 rfl with
      | adr _ _ ad cs h1 h2 =>
        have e : cs = [.int .i64 m0] := h1
        subst e
        exact ((h2.2 (by simp)).2 0 _ rfl).2
    exact internal_bytealg_IndexString_sound' Tryd.func44 (by kernel_rfl) (by kernel_rfl) (by kernel_rfl) (by kernel_rfl) (g := 0) (by kernel_rfl) hm hS ha hp.1.1 hp.1.2 hp.2
  · cases h
theorem bytes_IndexRune_sound : SoundG G Tryd.prog 40 s_bytes_IndexRune := fun w S hg vals avs r h hS ha => by
  unfold s_bytes_IndexRune at h
  split at h
  · simp only [Prod.mk.injEq] at h
    cases h.1
  · cases h
theorem unicode_utf8_DecodeRune_sound : SoundG G Tryd.prog 43 s_unicode_utf8_DecodeRune := fun w S hg vals avs r h hS ha => by
  unfold s_unicode_utf8_DecodeRune at h
  split at h
  · simp only [Prod.mk.injEq] at h
    obtain ⟨hp, rfl⟩ := h
    obtain ⟨m, hm⟩ := hg
    exact unicode_utf8_DecodeRune_sound' hm.1 hS ha (by simpa [unicode_utf8_DecodeRune_ok] using hp)
  · cases h
theorem bytes_Index_sound : SoundG G Tryd.prog 67 s_bytes_Index := fun w S hg vals avs r h hS ha => by
  unfold s_bytes_Index at h
  split at h
  · simp only [Prod.mk.injEq] at h
    obtain ⟨hp, rfl⟩ := h
    unfold bytes_Index_ok at hp
    simp only [Bool.and_eq_true, decide_eq_true_eq] at hp
    obtain ⟨m, hm⟩ := hg
    have hc : w.cell? ⟨0, 0, none⟩ = some (.int .i64 m) := by
      cases hm.2 0 (.int .i64) m rfl with
      | adr _ _ ad cs h1 h2 =>
        have e : cs = [.int .i64 m] := h1
        subst e
        exact ((h2.2 (by simp)).2 0 _ rfl).2
    exact bytes_Index_sound' hc hS ha (lenOk_le hp.1) (lenOk_le hp.2.1) hp.2.2
  · cases h
theorem bytes_Clone_sound : SoundG G Tryd.prog 21 s_bytes_Clone := fun w S hg vals avs r h hS ha => by
  unfold s_bytes_Clone at h
  split at h
  · simp only [Prod.mk.injEq] at h
    obtain ⟨hp, rfl⟩ := h
    exact bytes_Clone_sound' hS ha (lenOk_le hp)
  · cases h
theorem bytes_trimLeftUnicode_sound : SoundG G Tryd.prog 33 s_bytes_trimLeftUnicode := fun w S hg vals avs r h hS ha => by
  unfold s_bytes_trimLeftUnicode at h
  split at h
  · simp only [Prod.mk.injEq] at h
    cases h.1
  · cases h
theorem bytes_trimRightUnicode_sound : SoundG G Tryd.prog 34 s_bytes_trimRightUnicode := fun w S hg vals avs r h hS ha => by
  unfold s_bytes_trimRightUnicode at h
  split at h
  · simp only [Prod.mk.injEq] at h
    cases h.1
  · cases h
theorem internal_bytealg_Count_sound : SoundG G Tryd.prog 72 s_internal_bytealg_Count := fun w S hg vals avs r h hS ha => by
  unfold s_internal_bytealg_Count at h
  split at h
  · simp only [Prod.mk.injEq, true_and] at h
    subst h
    exact internal_bytealg_Count_sound' hS ha
  · cases h
theorem bytes_explode_sound : SoundG G Tryd.prog 65 s_bytes_explode := fun w S hg vals avs r h hS ha => by
  unfold s_bytes_explode at h
  split at h
  · simp only [Prod.mk.injEq] at h
    cases h.1
  · cases h
theorem unicode_utf8_RuneCount_sound : SoundG G Tryd.prog 71 s_unicode_utf8_RuneCount := fun w S hg vals avs r h hS ha => by
  unfold s_unicode_utf8_RuneCount at h
  split at h
  · simp only [Prod.mk.injEq] at h
    cases h.1
  · cases h


/-! internal/stringslite.IndexByte -/

noncomputable def E_internal_stringslite_IndexByte : EnvP := ⟨⟨tiOf tis, fnsOf [(39, s_internal_bytealg_IndexByteString)], cnsOf [], [], 8, (fun _ => none), (fun _ => none), some [4]⟩, fun _ => none, fun _ => none, fun _ => []⟩
noncomputable def C_internal_stringslite_IndexByte : Code := Tryd.f82.body.getD .skip
noncomputable def R_internal_stringslite_IndexByte : Array ResultVar := Tryd.f82.results
theorem internal_stringslite_IndexByte_ev (n : Nat) (s0 : List UInt8) (o0 : Lab) (c1 : UInt8) (o1 : Lab) : evFnP E_internal_stringslite_IndexByte n C_internal_stringslite_IndexByte R_internal_stringslite_IndexByte [.dat .str s0 o0, .dat .byte c1 o1] = internal_stringslite_IndexByte_sh n s0 c1 := by
  kernel_rfl
theorem internal_stringslite_IndexByte_sound : SoundG G Tryd.prog 82 s_internal_stringslite_IndexByte := by
  refine sound_of_evP' G_stays (E := E_internal_stringslite_IndexByte) (fn := Tryd.f82) (c := C_internal_stringslite_IndexByte) (tyOk_of_table rfl tis_ok) (fun w S hg => ⟨⟨(fns_cons (internal_bytealg_IndexByteString_sound w S hg) fns_nil), fun f sp h => cns_nil f sp h w S⟩, gl_none w S hg⟩) follows Tryd.func82 (by kernel_rfl) (by kernel_rfl) (by kernel_rfl) ?_
  intro avs r h
  unfold s_internal_stringslite_IndexByte at h
  split at h
  · simp only [Prod.mk.injEq, true_and] at h
    subst h
    obtain ⟨n, hn⟩ := internal_stringslite_IndexByte_math _ _
    exact ⟨n, _, (internal_stringslite_IndexByte_ev n _ _ _ _).trans hn, .inl rfl⟩
  · cases h

/-! strings.IndexByte -/

noncomputable def E_strings_IndexByte : EnvP := ⟨⟨tiOf tis, fnsOf [(82, s_internal_stringslite_IndexByte)], cnsOf [], [], 8, (fun _ => none), (fun _ => none), some [4]⟩, fun _ => none, fun _ => none, fun _ => []⟩
noncomputable def C_strings_IndexByte : Code := Tryd.f81.body.getD .skip
noncomputable def R_strings_IndexByte : Array ResultVar := Tryd.f81.results
theorem strings_IndexByte_ev (n : Nat) (s0 : List UInt8) (o0 : Lab) (c1 : UInt8) (o1 : Lab) : evFnP E_strings_IndexByte n C_strings_IndexByte R_strings_IndexByte [.dat .str s0 o0, .dat .byte c1 o1] = strings_IndexByte_sh n s0 c1 := by
  kernel_rfl
theorem strings_IndexByte_sound : SoundG G Tryd.prog 81 s_strings_IndexByte := by
  refine sound_of_evP' G_stays (E := E_strings_IndexByte) (fn := Tryd.f81) (c := C_strings_IndexByte) (tyOk_of_table rfl tis_ok) (fun w S hg => ⟨⟨(fns_cons (internal_stringslite_IndexByte_sound w S hg) fns_nil), fun f sp h => cns_nil f sp h w S⟩, gl_none w S hg⟩) follows Tryd.func81 (by kernel_rfl) (by kernel_rfl) (by kernel_rfl) ?_
  intro avs r h
  unfold s_strings_IndexByte at h
  split at h
  · simp only [Prod.mk.injEq, true_and] at h
    subst h
    obtain ⟨n, hn⟩ := strings_IndexByte_math _ _
    exact ⟨n, _, (strings_IndexByte_ev n _ _ _ _).trans hn, .inl rfl⟩
  · cases h

/-! sheave/octet.plain -/

noncomputable def E_octet_plain : EnvP := ⟨⟨tiOf tis, fnsOf [], cnsOf [], [], 46, (fun _ => none), (fun x => if x = 0 then some [3] else none), some [2]⟩, fun _ => none, fun _ => none, fun _ => []⟩
noncomputable def C_octet_plain : Code := Tryd.f79.body.getD .skip
noncomputable def R_octet_plain : Array ResultVar := Tryd.f79.results
theorem octet_plain_ev (n : Nat) (c0 : UInt8) (o0 : Lab) : evFnP E_octet_plain n C_octet_plain R_octet_plain [.dat .byte c0 o0] = octet_plain_sh n c0 := by
  kernel_rfl
theorem octet_plain_sound : SoundG G Tryd.prog 79 s_octet_plain := by
  refine sound_of_evP' G_stays (E := E_octet_plain) (fn := Tryd.f79) (c := C_octet_plain) (tyOk_of_table rfl tis_ok) (fun w S hg => ⟨⟨fns_nil, fun f sp h => cns_nil f sp h w S⟩, gl_none w S hg⟩) follows Tryd.func79 (by kernel_rfl) (by kernel_rfl) (by kernel_rfl) ?_
  intro avs r h
  unfold s_octet_plain at h
  split at h
  · simp only [Prod.mk.injEq, true_and] at h
    subst h
    obtain ⟨n, hn⟩ := octet_plain_math _
    exact ⟨n, _, (octet_plain_ev n _ _).trans hn, .inl rfl⟩
  · cases h

/-! sheave/octet.in -/

noncomputable def E_octet_in : EnvP := ⟨⟨tiOf tis, fnsOf [(81, s_strings_IndexByte)], cnsOf [], [], 9, (fun _ => none), (fun _ => none), some [4]⟩, fun _ => none, fun _ => none, fun _ => []⟩
noncomputable def C_octet_in : Code := Tryd.f80.body.getD .skip
noncomputable def R_octet_in : Array ResultVar := Tryd.f80.results
theorem octet_in_ev (n : Nat) (s0 : List UInt8) (o0 : Lab) (c1 : UInt8) (o1 : Lab) : evFnP E_octet_in n C_octet_in R_octet_in [.dat .str s0 o0, .dat .byte c1 o1] = octet_in_sh n s0 c1 := by
  kernel_rfl
theorem octet_in_sound : SoundG G Tryd.prog 80 s_octet_in := by
  refine sound_of_evP' G_stays (E := E_octet_in) (fn := Tryd.f80) (c := C_octet_in) (tyOk_of_table rfl tis_ok) (fun w S hg => ⟨⟨(fns_cons (strings_IndexByte_sound w S hg) fns_nil), fun f sp h => cns_nil f sp h w S⟩, gl_none w S hg⟩) follows Tryd.func80 (by kernel_rfl) (by kernel_rfl) (by kernel_rfl) ?_
  intro avs r h
  unfold s_octet_in at h
  split at h
  · simp only [Prod.mk.injEq, true_and] at h
    subst h
    obtain ⟨n, hn⟩ := octet_in_math _ _
    exact ⟨n, _, (octet_in_ev n _ _ _ _).trans hn, .inl rfl⟩
  · cases h

/-! sheave/octet.Kinds -/

noncomputable def E_octet_Kinds : EnvP := ⟨⟨tiOf tis, fnsOf [(79, s_octet_plain), (80, s_octet_in)], cnsOf [], [], 35, (fun _ => none), (fun _ => none), some [2]⟩, fun _ => none, fun _ => none, fun _ => []⟩
noncomputable def C_octet_Kinds : Code := Tryd.f78.body.getD .skip
noncomputable def R_octet_Kinds : Array ResultVar := Tryd.f78.results
theorem octet_Kinds_ev (n : Nat) (c0 : UInt8) (o0 : Lab) : evFnP E_octet_Kinds n C_octet_Kinds R_octet_Kinds [.dat .byte c0 o0] = octet_Kinds_sh n c0 := by
  kernel_rfl
theorem octet_Kinds_sound : SoundG G Tryd.prog 78 s_octet_Kinds := by
  refine sound_of_evP' G_stays (E := E_octet_Kinds) (fn := Tryd.f78) (c := C_octet_Kinds) (tyOk_of_table rfl tis_ok) (fun w S hg => ⟨⟨(fns_cons (octet_plain_sound w S hg) (fns_cons (octet_in_sound w S hg) fns_nil)), fun f sp h => cns_nil f sp h w S⟩, gl_none w S hg⟩) follows Tryd.func78 (by kernel_rfl) (by kernel_rfl) (by kernel_rfl) ?_
  intro avs r h
  unfold s_octet_Kinds at h
  split at h
  · simp only [Prod.mk.injEq, true_and] at h
    subst h
    obtain ⟨n, hn⟩ := octet_Kinds_math _
    exact ⟨n, _, (octet_Kinds_ev n _ _).trans hn, .inl rfl⟩
  · cases h

/-! sheave/octet.Is -/

noncomputable def E_octet_Is : EnvP := ⟨⟨tiOf tis, fnsOf [(78, s_octet_Kinds)], cnsOf [], [], 10, (fun _ => none), (fun _ => none), some [4]⟩, fun _ => none, fun _ => none, fun _ => []⟩
noncomputable def C_octet_Is : Code := Tryd.f75.body.getD .skip
noncomputable def R_octet_Is : Array ResultVar := Tryd.f75.results
theorem octet_Is_ev (n : Nat) (c0 : UInt8) (o0 : Lab) (kinds1 : Int) (o1 : Lab) : evFnP E_octet_Is n C_octet_Is R_octet_Is [.dat .byte c0 o0, .dat (.int .i64) kinds1 o1] = octet_Is_sh n c0 kinds1 := by
  kernel_rfl
theorem octet_Is_sound : SoundG G Tryd.prog 75 s_octet_Is := by
  refine sound_of_evP' G_stays (E := E_octet_Is) (fn := Tryd.f75) (c := C_octet_Is) (tyOk_of_table rfl tis_ok) (fun w S hg => ⟨⟨(fns_cons (octet_Kinds_sound w S hg) fns_nil), fun f sp h => cns_nil f sp h w S⟩, gl_none w S hg⟩) follows Tryd.func75 (by kernel_rfl) (by kernel_rfl) (by kernel_rfl) ?_
  intro avs r h
  unfold s_octet_Is at h
  split at h
  · simp only [Prod.mk.injEq, true_and] at h
    subst h
    obtain ⟨n, hn⟩ := octet_Is_math _ _
    exact ⟨n, _, (octet_Is_ev n _ _ _ _).trans hn, .inl rfl⟩
  · cases h

/-! sheave/octet.Lower -/

noncomputable def E_octet_Lower : EnvP := ⟨⟨tiOf tis, fnsOf [], cnsOf [], [], 12, (fun _ => none), (fun _ => none), some [2]⟩, fun _ => none, fun _ => none, fun _ => []⟩
noncomputable def C_octet_Lower : Code := Tryd.f68.body.getD .skip
noncomputable def R_octet_Lower : Array ResultVar := Tryd.f68.results
theorem octet_Lower_ev (n : Nat) (c0 : UInt8) (o0 : Lab) : evFnP E_octet_Lower n C_octet_Lower R_octet_Lower [.dat .byte c0 o0] = octet_Lower_sh n c0 := by
  kernel_rfl
theorem octet_Lower_sound : SoundG G Tryd.prog 68 s_octet_Lower := by
  refine sound_of_evP' G_stays (E := E_octet_Lower) (fn := Tryd.f68) (c := C_octet_Lower) (tyOk_of_table rfl tis_ok) (fun w S hg => ⟨⟨fns_nil, fun f sp h => cns_nil f sp h w S⟩, gl_none w S hg⟩) follows Tryd.func68 (by kernel_rfl) (by kernel_rfl) (by kernel_rfl) ?_
  intro avs r h
  unfold s_octet_Lower at h
  split at h
  · simp only [Prod.mk.injEq, true_and] at h
    subst h
    obtain ⟨n, hn⟩ := octet_Lower_math _
    exact ⟨n, _, (octet_Lower_ev n _ _).trans hn, .inl rfl⟩
  · cases h

/-! sheave/octet.Fold -/

noncomputable def E_octet_Fold : EnvP := ⟨⟨tiOf tis, fnsOf [(21, s_bytes_Clone), (68, s_octet_Lower)], cnsOf [], [], 22, (fun x => if x = 3 then some [3, 8, 9, 10] else none), (fun x => if x = 0 then some [3] else if x = 1 then some [3, 8, 9, 10] else none), some [2]⟩, (fun x => if x = 2 then some (.psl 5 (.leaf .byte)) else if x = 7 then some (.psl 5 (.leaf .byte)) else none), fun _ => none, fun _ => []⟩
noncomputable def C_octet_Fold : Code := Tryd.f60.body.getD .skip
noncomputable def R_octet_Fold : Array ResultVar := Tryd.f60.results
theorem octet_Fold_l3_ok (K : Ex → Fr → Option AV) : ∀ (n : Nat) (out3 : List UInt8) (s9 : Int) (s10 : Int), evLP E_octet_Fold n (sub C_octet_Fold [1, 1, 0, 1, 0, 0]) K (frOf [(3, (.pv (.psl 5 (.leaf .byte)) out3 none)), (8, (.pval 3 [])), (9, (.dat (.int .i64) s9 none)), (10, (.dat (.int .i64) s10 none))]) = octet_Fold_l3 (fun out3 => K (.exit 0) (frOf [(3, (.pv (.psl 5 (.leaf .byte)) out3 none))])) n out3 s9 s10 := by
  intro n
  induction n with
  | zero => intros; rfl
  | succ n IH =>
  intro out3 s9 s10
  have ih : (fun out3 s9 s10 => evLP E_octet_Fold n (sub C_octet_Fold [1, 1, 0, 1, 0, 0]) K (frOf [(3, (.pv (.psl 5 (.leaf .byte)) out3 none)), (8, (.pval 3 [])), (9, (.dat (.int .i64) s9 none)), (10, (.dat (.int .i64) s10 none))])) = octet_Fold_l3 (fun out3 => K (.exit 0) (frOf [(3, (.pv (.psl 5 (.leaf .byte)) out3 none))])) n := by
    funext out3 s9 s10
    exact IH out3 s9 s10
  show _ = octet_Fold_l3_b (fun out3 => K (.exit 0) (frOf [(3, (.pv (.psl 5 (.leaf .byte)) out3 none))])) (octet_Fold_l3 (fun out3 => K (.exit 0) (frOf [(3, (.pv (.psl 5 (.leaf .byte)) out3 none))])) n) n out3 s9 s10
  rw [← ih]
  kernel_rfl
theorem octet_Fold_k3_0_ok (n : Nat) (out3 : List UInt8) : (kBlockP 0 (E_octet_Fold.cutb 0) (kSeq (evCP E_octet_Fold (evLP E_octet_Fold n) (sub C_octet_Fold [1, 1, 1])) (kFnP E_octet_Fold R_octet_Fold))) (.exit 0) (frOf [(3, (.pv (.psl 5 (.leaf .byte)) out3 none))]) = octet_Fold_k3_0 n out3 := by
  kernel_rfl
theorem octet_Fold_ev (n : Nat) (s0 : List UInt8) (o0 : Lab) : evFnP E_octet_Fold n C_octet_Fold R_octet_Fold [.dat (.sl .byte) s0 o0] = octet_Fold_sh n s0 := by
  unfold octet_Fold_sh
  rw [show octet_Fold_l3 (octet_Fold_k3_0 n) n = (fun out3 s9 s10 => evLP E_octet_Fold n (sub C_octet_Fold [1, 1, 0, 1, 0, 0]) (kBlockP 0 (E_octet_Fold.cutb 0) (kSeq (evCP E_octet_Fold (evLP E_octet_Fold n) (sub C_octet_Fold [1, 1, 1])) (kFnP E_octet_Fold R_octet_Fold))) (frOf [(3, (.pv (.psl 5 (.leaf .byte)) out3 none)), (8, (.pval 3 [])), (9, (.dat (.int .i64) s9 none)), (10, (.dat (.int .i64) s10 none))])) from by
    funext out3 s9 s10
    refine Eq.trans ?_ (octet_Fold_l3_ok (kBlockP 0 (E_octet_Fold.cutb 0) (kSeq (evCP E_octet_Fold (evLP E_octet_Fold n) (sub C_octet_Fold [1, 1, 1])) (kFnP E_octet_Fold R_octet_Fold))) n out3 s9 s10).symm
    rw [show (fun out3 => (kBlockP 0 (E_octet_Fold.cutb 0) (kSeq (evCP E_octet_Fold (evLP E_octet_Fold n) (sub C_octet_Fold [1, 1, 1])) (kFnP E_octet_Fold R_octet_Fold))) (.exit 0) (frOf [(3, (.pv (.psl 5 (.leaf .byte)) out3 none))])) = (octet_Fold_k3_0 n) from by
      funext out3
      exact octet_Fold_k3_0_ok n out3]
    all_goals kernel_rfl]
  kernel_rfl
theorem octet_Fold_sound : SoundG G Tryd.prog 60 s_octet_Fold := by
  refine sound_of_evP' G_stays (E := E_octet_Fold) (fn := Tryd.f60) (c := C_octet_Fold) (tyOk_of_table rfl tis_ok) (fun w S hg => ⟨⟨(fns_cons (bytes_Clone_sound w S hg) (fns_cons (octet_Lower_sound w S hg) fns_nil)), fun f sp h => cns_nil f sp h w S⟩, gl_none w S hg⟩) follows Tryd.func60 (by kernel_rfl) (by kernel_rfl) (by kernel_rfl) ?_
  intro avs r h
  unfold s_octet_Fold at h
  split at h
  · simp only [Prod.mk.injEq] at h
    obtain ⟨hp, rfl⟩ := h
    obtain ⟨n, hn⟩ := octet_Fold_math _ hp
    exact ⟨n, _, (octet_Fold_ev n _ _).trans hn, .inl rfl⟩
  · cases h

end Go.Av
