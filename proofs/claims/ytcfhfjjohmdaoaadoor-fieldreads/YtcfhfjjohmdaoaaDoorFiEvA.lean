import Derived.Test.YtcfhfjjohmdaoaaDoorFiP11
import Derived.Test.YtcfhfjjohmdaoaaDoorFiN
import Derived.Test.YtcfhfjjohmdaoaaDoorProg
import Derived.KernelRfl
namespace Go.Av
open Go.Proofs
set_option maxRecDepth 100000
def tis : List (TypeId × TI) := [(2, ⟨some (.int .i64), 8, 0⟩),
  (3, ⟨some (.int .i64), 8, 0⟩),
  (4, ⟨some .bool, 1, 0⟩),
  (5, ⟨some .byte, 1, 0⟩),
  (6, ⟨some .byte, 1, 0⟩),
  (7, ⟨some (.pair (.int .i64) (.pair (.int .i64) (.pair .bool (.pair .byte .unit)))), 24, 0⟩),
  (8, ⟨some (.pair (.int .i64) (.pair (.int .i64) (.pair .bool (.pair .byte .unit)))), 24, 0⟩),
  (9, ⟨some .str, 16, 0⟩),
  (10, ⟨some .str, 16, 0⟩),
  (11, ⟨some .str, 16, 0⟩),
  (12, ⟨some (.int .u64), 8, 0⟩),
  (13, ⟨some (.pair .str (.pair (.int .u64) .unit)), 24, 0⟩),
  (14, ⟨some (.pair .str (.pair (.int .u64) .unit)), 24, 0⟩),
  (21, ⟨some (.int .i32), 4, 0⟩),
  (22, ⟨some (.sl .byte), 24, 5⟩),
  (30, ⟨some (.int .i64), 8, 0⟩),
  (35, ⟨some (.sl (.pair (.sl .byte) (.pair (.sl .byte) .unit))), 24, 47⟩),
  (38, ⟨some (.sl (.pair (.sl .byte) (.pair (.sl .byte) .unit))), 24, 50⟩),
  (41, ⟨some (.sl (.sl .byte)), 24, 22⟩),
  (46, ⟨some (.pair (.sl .byte) (.pair (.sl .byte) .unit)), 48, 0⟩),
  (47, ⟨some (.pair (.sl .byte) (.pair (.sl .byte) .unit)), 48, 0⟩),
  (50, ⟨some (.pair (.sl .byte) (.pair (.sl .byte) .unit)), 48, 0⟩),
  (57, ⟨some (.sl (.pair (.int .i64) (.pair (.sl .byte) .unit))), 24, 77⟩),
  (59, ⟨some (.sl (.pair (.int .i64) (.pair (.sl .byte) .unit))), 24, 79⟩),
  (76, ⟨some (.pair (.int .i64) (.pair (.sl .byte) .unit)), 32, 0⟩),
  (77, ⟨some (.pair (.int .i64) (.pair (.sl .byte) .unit)), 32, 0⟩),
  (79, ⟨some (.pair (.int .i64) (.pair (.sl .byte) .unit)), 32, 0⟩),
  (81, ⟨some (.pair (.sl (.pair (.int .i64) (.pair (.sl .byte) .unit))) (.pair .bool .unit)), 32, 0⟩),
  (82, ⟨some (.pair (.sl (.pair (.int .i64) (.pair (.sl .byte) .unit))) (.pair .bool .unit)), 32, 0⟩),
  (98, ⟨some (.arr 256 .bool), 256, 4⟩),
  (99, ⟨some (.arr 256 .bool), 256, 4⟩),
  (104, ⟨some (.int .u64), 8, 0⟩),
  (119, ⟨some (.int .u32), 4, 0⟩),
  (122, ⟨some (.int .u64), 8, 0⟩),
  (127, ⟨some (.arr 4 .byte), 4, 5⟩),
  (129, ⟨some (.arr 256 .byte), 256, 5⟩),
  (130, ⟨some (.pair .byte (.pair .byte .unit)), 2, 0⟩),
  (131, ⟨some (.pair .byte (.pair .byte .unit)), 2, 0⟩),
  (132, ⟨some (.arr 16 (.pair .byte (.pair .byte .unit))), 32, 131⟩),
  (140, ⟨some .byte, 1, 0⟩),
  (141, ⟨some .byte, 1, 0⟩),
  (144, ⟨some (.int .i32), 4, 0⟩),
  (145, ⟨some (.int .i32), 4, 0⟩)]
theorem tis_ok : (tis.all fun p => tyB Tryd.prog (tiOf tis) p.1) = true := by kernel_rfl
theorem follows : Tryd.prog.follows .mixedOrders = true := by kernel_rfl
def s_internal_bytealg_IndexByteString : List AV → Bool × AV
  | [.dat .str a0 _, .dat .byte a1 _] => (true, (.dat (.int .i64) (internal_bytealg_IndexByteString a0 a1) none))
  | _ => (false, .bad)
def s_internal_stringslite_IndexByte : List AV → Bool × AV
  | [.dat .str a0 _, .dat .byte a1 _] => (true, (.dat (.int .i64) (internal_stringslite_IndexByte a0 a1) none))
  | _ => (false, .bad)
def s_strings_IndexByte : List AV → Bool × AV
  | [.dat .str a0 _, .dat .byte a1 _] => (true, (.dat (.int .i64) (strings_IndexByte a0 a1) none))
  | _ => (false, .bad)
def s_octet_plain : List AV → Bool × AV
  | [.dat .byte a0 _] => (true, (.dat (.int .i64) (octet_plain a0) none))
  | _ => (false, .bad)
def s_octet_in : List AV → Bool × AV
  | [.dat .str a0 _, .dat .byte a1 _] => (true, (.dat .bool (octet_in a0 a1) none))
  | _ => (false, .bad)
def s_octet_Kinds : List AV → Bool × AV
  | [.dat .byte a0 _] => (true, (.dat (.int .i64) (octet_Kinds a0) none))
  | _ => (false, .bad)
def s_octet_Is : List AV → Bool × AV
  | [.dat .byte a0 _, .dat (.int .i64) a1 _] => (true, (.dat .bool (octet_Is a0 a1) none))
  | _ => (false, .bad)
def s_bytes_Index : List AV → Bool × AV
  | [.dat (.sl .byte) a0 _, .dat (.sl .byte) a1 _] => (bytes_Index_ok a0 a1, (.dat (.int .i64) (bytes_Index a0 a1) none))
  | _ => (false, .bad)
def s_bytes_Cut : List AV → Bool × AV
  | [.dat (.sl .byte) a0 _, .dat (.sl .byte) a1 _] => (bytes_Cut_ok a0 a1, (.tup [(.dat (.sl .byte) ((bytes_Cut a0 a1).1) none), (.dat (.sl .byte) ((bytes_Cut a0 a1).2.1) none), (.dat .bool ((bytes_Cut a0 a1).2.2) none)]))
  | _ => (false, .bad)
def s_fold_Unfold : List AV → Bool × AV
  | [.dat (.sl .byte) a0 _] => (fold_Unfold_ok a0, (.dat (.sl .byte) (fold_Unfold a0) (some (2, 5))))
  | _ => (false, .bad)
def s_fold_Folds : List AV → Bool × AV
  | [.dat (.sl .byte) a0 _] => (fold_Folds_ok a0, (.dat (.int .i64) (fold_Folds a0) none))
  | _ => (false, .bad)
def s_bytes_makeASCIISet : List AV → Bool × AV
  | [.dat .str a0 _] => (bytes_makeASCIISet_ok a0, (.tup [(.dat (.arr 256 .bool) ((bytes_makeASCIISet a0).1) none), (.dat .bool ((bytes_makeASCIISet a0).2) none)]))
  | _ => (false, .bad)
def s_bytes_shouldUseASCIISet : List AV → Bool × AV
  | [.dat (.int .i64) a0 _] => (true, (.dat .bool (bytes_shouldUseASCIISet a0) none))
  | _ => (false, .bad)
def s___bytes_asciiSet__contains : List AV → Bool × AV
  | [.adr (.arr 256 .bool) a0, .dat .byte a1 _] => (true, (.dat .bool (__bytes_asciiSet__contains a0 a1) none))
  | _ => (false, .bad)
def s_unicode_utf8_DecodeRune : List AV → Bool × AV
  | [.dat (.sl .byte) a0 _] => (unicode_utf8_DecodeRune_ok a0, (.tup [(.dat (.int .i32) ((unicode_utf8_DecodeRune a0).1) none), (.dat (.int .i64) ((unicode_utf8_DecodeRune a0).2) none)]))
  | _ => (false, .bad)
def s_bytes_IndexRune : List AV → Bool × AV
  | [.dat (.sl .byte) a0 _, .dat (.int .i32) a1 _] => (bytes_IndexRune_ok a0 a1, (.dat (.int .i64) (bytes_IndexRune a0 a1) none))
  | _ => (false, .bad)
def s_bytes_IndexAny : List AV → Bool × AV
  | [.dat (.sl .byte) a0 _, .dat .str a1 _] => (bytes_IndexAny_ok a0 a1, (.dat (.int .i64) (bytes_IndexAny a0 a1) none))
  | _ => (false, .bad)
def s_bytes_ContainsAny : List AV → Bool × AV
  | [.dat (.sl .byte) a0 _, .dat .str a1 _] => (bytes_ContainsAny_ok a0 a1, (.dat .bool (bytes_ContainsAny a0 a1) none))
  | _ => (false, .bad)
def s_fold_Right : List AV → Bool × AV
  | [.dat (.sl .byte) a0 _] => (fold_Right_ok a0, (.dat .bool (fold_Right a0) none))
  | _ => (false, .bad)
def s_fold_check : List AV → Bool × AV
  | [.dat (.sl .byte) a0 _, .dat (.int .i64) a1 _, .dat (.int .i64) a2 _] => (fold_check_ok a0 a1 a2, (.dat (.int .i64) (fold_check a0 a1 a2) none))
  | _ => (false, .bad)
def s_lines_Join : List AV → Bool × AV
  | [.dat (.sl (.sl .byte)) a0 _] => (lines_Join_ok a0, (.dat (.sl .byte) (lines_Join a0) (some (2, 5))))
  | _ => (false, .bad)
def s_ref27_folds : List AV → Bool × AV
  | [.dat (.sl .byte) a0 _, .dat (.int .i64) a1 _] => (ref27_folds_ok a0 a1, (.dat .bool (ref27_folds a0 a1) none))
  | _ => (false, .bad)
def s_ref27_Unfold : List AV → Bool × AV
  | [.dat (.sl .byte) a0 _] => (ref27_Unfold_ok a0, (.tup [(.dat (.sl .byte) ((ref27_Unfold a0).1) none), (.dat (.int .i64) ((ref27_Unfold a0).2) none)]))
  | _ => (false, .bad)
def s_ref01_Like : List AV → Bool × AV
  | [.dat (.sl .byte) a0 _, .dat (.sl .byte) a1 _] => (ref01_Like_ok a0 a1, (.dat .bool (ref01_Like a0 a1) none))
  | _ => (false, .bad)
def s_ref27_Right : List AV → Bool × AV
  | [.dat (.sl .byte) a0 _] => (ref27_Right_ok a0, (.dat .bool (ref27_Right a0) none))
  | _ => (false, .bad)
def s_bytes_Clone : List AV → Bool × AV
  | [.dat (.sl .byte) a0 _] => (bytes_Clone_ok a0, (.dat (.sl .byte) (bytes_Clone a0) (some (0, 5))))
  | _ => (false, .bad)
def s_bytes_Equal : List AV → Bool × AV
  | [.dat (.sl .byte) a0 _, .dat (.sl .byte) a1 _] => (true, (.dat .bool (bytes_Equal a0 a1) none))
  | _ => (false, .bad)
def s_bytes_Contains : List AV → Bool × AV
  | [.dat (.sl .byte) a0 _, .dat (.sl .byte) a1 _] => (bytes_Contains_ok a0 a1, (.dat .bool (bytes_Contains a0 a1) none))
  | _ => (false, .bad)
def s_bytes_trimLeftByte : List AV → Bool × AV
  | [.dat (.sl .byte) a0 _, .dat .byte a1 _] => (bytes_trimLeftByte_ok a0 a1, (.dat (.sl .byte) (bytes_trimLeftByte a0 a1) none))
  | _ => (false, .bad)
def s_bytes_trimLeftASCII : List AV → Bool × AV
  | [.dat (.sl .byte) a0 _, .adr (.arr 256 .bool) a1] => (bytes_trimLeftASCII_ok a0 a1, (.dat (.sl .byte) (bytes_trimLeftASCII a0 a1) none))
  | _ => (false, .bad)
def s_bytes_trimLeftUnicode : List AV → Bool × AV
  | [.dat (.sl .byte) a0 _, .dat .str a1 _] => (bytes_trimLeftUnicode_ok a0 a1, (.dat (.sl .byte) (bytes_trimLeftUnicode a0 a1) none))
  | _ => (false, .bad)
def s_bytes_trimRightByte : List AV → Bool × AV
  | [.dat (.sl .byte) a0 _, .dat .byte a1 _] => (bytes_trimRightByte_ok a0 a1, (.dat (.sl .byte) (bytes_trimRightByte a0 a1) none))
  | _ => (false, .bad)
def s_bytes_trimRightASCII : List AV → Bool × AV
  | [.dat (.sl .byte) a0 _, .adr (.arr 256 .bool) a1] => (bytes_trimRightASCII_ok a0 a1, (.dat (.sl .byte) (bytes_trimRightASCII a0 a1) none))
  | _ => (false, .bad)
def s_bytes_trimRightUnicode : List AV → Bool × AV
  | [.dat (.sl .byte) a0 _, .dat .str a1 _] => (bytes_trimRightUnicode_ok a0 a1, (.dat (.sl .byte) (bytes_trimRightUnicode a0 a1) none))
  | _ => (false, .bad)
def s_bytes_Trim : List AV → Bool × AV
  | [.dat (.sl .byte) a0 _, .dat .str a1 _] => (bytes_Trim_ok a0 a1, (.dat (.sl .byte) (bytes_Trim a0 a1) none))
  | _ => (false, .bad)
def s_octet_Lower : List AV → Bool × AV
  | [.dat .byte a0 _] => (true, (.dat .byte (octet_Lower a0) none))
  | _ => (false, .bad)
def s_octet_Fold : List AV → Bool × AV
  | [.dat (.sl .byte) a0 _] => (octet_Fold_ok a0, (.dat (.sl .byte) (octet_Fold a0) (some (2, 5))))
  | _ => (false, .bad)
def s_octet_Same : List AV → Bool × AV
  | [.dat (.sl .byte) a0 _, .dat (.sl .byte) a1 _] => (octet_Same_ok a0 a1, (.dat .bool (octet_Same a0 a1) none))
  | _ => (false, .bad)
def s_octet_Count : List AV → Bool × AV
  | [.dat (.sl .byte) a0 _, .dat (.int .i64) a1 _] => (octet_Count_ok a0 a1, (.dat (.int .i64) (octet_Count a0 a1) none))
  | _ => (false, .bad)
def s_octet_All : List AV → Bool × AV
  | [.dat (.sl .byte) a0 _, .dat (.int .i64) a1 _] => (octet_All_ok a0 a1, (.dat .bool (octet_All a0 a1) none))
  | _ => (false, .bad)
def s_octet_Trim : List AV → Bool × AV
  | [.dat (.sl .byte) a0 _] => (octet_Trim_ok a0, (.dat (.sl .byte) (octet_Trim a0) (some (2, 5))))
  | _ => (false, .bad)
def s_field_blank : List AV → Bool × AV
  | [.dat (.sl .byte) a0 _] => (true, (.dat .bool (field_blank a0) none))
  | _ => (false, .bad)
def s_field_isName : List AV → Bool × AV
  | [.dat (.sl .byte) a0 _] => (field_isName_ok a0, (.dat .bool (field_isName a0) none))
  | _ => (false, .bad)
def s_field_parts : List AV → Bool × AV
  | [.dat (.sl .byte) a0 _] => (field_parts_ok a0, (.tup [(.dat (.sl (.sl .byte)) ((field_parts a0).1) none), (.dat (.sl .byte) ((field_parts a0).2) none)]))
  | _ => (false, .bad)
def s_field_Raw : List AV → Bool × AV
  | [.dat (.sl .byte) a0 _] => (field_Raw_ok a0, (.dat (.sl (.sl .byte)) (field_Raw a0) none))
  | _ => (false, .bad)
def s_field_Body : List AV → Bool × AV
  | [.dat (.sl .byte) a0 _] => (field_Body_ok a0, (.dat (.sl .byte) (field_Body a0) (some (2, 5))))
  | _ => (false, .bad)
def s_field_One : List AV → Bool × AV
  | [.dat (.sl .byte) a0 _] => (field_One_ok a0, (.tup [(.dat (.pair (.sl .byte) (.pair (.sl .byte) .unit)) ((field_One a0).1) none), (.dat (.int .i64) ((field_One a0).2) none)]))
  | _ => (false, .bad)
def s_field_Read : List AV → Bool × AV
  | [.dat (.sl .byte) a0 _] => (field_Read_ok a0, (.tup [(.dat (.sl (.pair (.sl .byte) (.pair (.sl .byte) .unit))) ((field_Read a0).1) none), (.dat (.int .i64) ((field_Read a0).2) none)]))
  | _ => (false, .bad)
def s_field_check : List AV → Bool × AV
  | [.dat (.pair (.sl .byte) (.pair (.sl .byte) .unit)) a0 _] => (field_check_ok a0, (.dat (.int .i64) (field_check a0) none))
  | _ => (false, .bad)
def s_field_Lay : List AV → Bool × AV
  | [.dat (.sl (.pair (.sl .byte) (.pair (.sl .byte) .unit))) a0 _] => (field_Lay_ok a0, (.tup [(.dat (.sl .byte) ((field_Lay a0).1) none), (.dat (.int .i64) ((field_Lay a0).2) none)]))
  | _ => (false, .bad)
def s_field_Find : List AV → Bool × AV
  | [.dat (.sl (.pair (.sl .byte) (.pair (.sl .byte) .unit))) a0 _, .dat (.sl .byte) a1 _] => (field_Find_ok a0 a1, (.tup [(.dat (.sl .byte) ((field_Find a0 a1).1) none), (.dat (.int .i64) ((field_Find a0 a1).2) none)]))
  | _ => (false, .bad)
def s_ref01_has : List AV → Bool × AV
  | [.dat .str a0 _, .dat .byte a1 _] => (ref01_has_ok a0 a1, (.dat .bool (ref01_has a0 a1) none))
  | _ => (false, .bad)
def s_ref01_Kinds : List AV → Bool × AV
  | [.dat .byte a0 _] => (true, (.dat (.int .i64) (ref01_Kinds a0) none))
  | _ => (false, .bad)
def s_ref01_Is : List AV → Bool × AV
  | [.dat .byte a0 _, .dat (.int .i64) a1 _] => (true, (.dat .bool (ref01_Is a0 a1) none))
  | _ => (false, .bad)
def s_ref01_Count : List AV → Bool × AV
  | [.dat (.sl .byte) a0 _, .dat (.int .i64) a1 _] => (ref01_Count_ok a0 a1, (.dat (.int .i64) (ref01_Count a0 a1) none))
  | _ => (false, .bad)
def s_ref01_Trim : List AV → Bool × AV
  | [.dat (.sl .byte) a0 _] => (ref01_Trim_ok a0, (.dat (.sl .byte) (ref01_Trim a0) none))
  | _ => (false, .bad)
def s_ref18_Lines : List AV → Bool × AV
  | [.dat (.sl .byte) a0 _] => (ref18_Lines_ok a0, (.tup [(.dat (.sl (.sl .byte)) ((ref18_Lines a0).1) none), (.dat .bool ((ref18_Lines a0).2) none)]))
  | _ => (false, .bad)
def s_ref26_Split : List AV → Bool × AV
  | [.dat (.sl .byte) a0 _] => (ref26_Split_ok a0, (.dat (.sl (.sl .byte)) (ref26_Split a0) none))
  | _ => (false, .bad)
def s_ref48_colon : List AV → Bool × AV
  | [.dat (.sl .byte) a0 _] => (ref48_colon_ok a0, (.dat (.int .i64) (ref48_colon a0) none))
  | _ => (false, .bad)
def s_ref48_name : List AV → Bool × AV
  | [.dat (.sl .byte) a0 _] => (ref48_name_ok a0, (.dat .bool (ref48_name a0) none))
  | _ => (false, .bad)
def s_ref48_One : List AV → Bool × AV
  | [.dat (.sl .byte) a0 _] => (ref48_One_ok a0, (.tup [(.dat (.pair (.sl .byte) (.pair (.sl .byte) .unit)) ((ref48_One a0).1) none), (.dat (.int .i64) ((ref48_One a0).2) none)]))
  | _ => (false, .bad)
def s_ref48_Raw : List AV → Bool × AV
  | [.dat (.sl .byte) a0 _] => (ref48_Raw_ok a0, (.tup [(.dat (.sl (.sl .byte)) ((ref48_Raw a0).1) none), (.dat (.sl .byte) ((ref48_Raw a0).2) none)]))
  | _ => (false, .bad)
def s_ref48_Read : List AV → Bool × AV
  | [.dat (.sl .byte) a0 _] => (ref48_Read_ok a0, (.tup [(.dat (.sl (.pair (.sl .byte) (.pair (.sl .byte) .unit))) ((ref48_Read a0).1) none), (.dat (.int .i64) ((ref48_Read a0).2) none)]))
  | _ => (false, .bad)
def s_law48_same : List AV → Bool × AV
  | [.dat (.sl (.pair (.sl .byte) (.pair (.sl .byte) .unit))) a0 _, .dat (.sl (.pair (.sl .byte) (.pair (.sl .byte) .unit))) a1 _] => (law48_same_ok a0 a1, (.dat .bool (law48_same a0 a1) none))
  | _ => (false, .bad)
def s_law48_far : List AV → Bool × AV
  | [.dat (.sl (.pair (.sl .byte) (.pair (.sl .byte) .unit))) a0 _] => (law48_far_ok a0, (.dat .bool (law48_far a0) none))
  | _ => (false, .bad)
def s_law48_alive : List AV → Bool × AV
  | [] => (true, (.dat .bool law48_alive none))
  | _ => (false, .bad)
def s_law48_FieldReads : List AV → Bool × AV
  | [.dat (.sl .byte) a0 _] => (true, (.dat .bool (law48_FieldReads a0) none))
  | _ => (false, .bad)
def s_law48_FieldOne : List AV → Bool × AV
  | [.dat (.sl .byte) a0 _] => (true, (.dat .bool (law48_FieldOne a0) none))
  | _ => (false, .bad)
def s_law48_FieldBack : List AV → Bool × AV
  | [.dat (.sl (.pair (.sl .byte) (.pair (.sl .byte) .unit))) a0 _, .dat (.sl .byte) a1 _] => (true, (.dat .bool (law48_FieldBack a0 a1) none))
  | _ => (false, .bad)

/-! what has no body -/

theorem internal_bytealg_IndexByteString_sound : SoundG G Tryd.prog 105 s_internal_bytealg_IndexByteString := fun w S hg vals avs r h hS ha => by
  unfold s_internal_bytealg_IndexByteString at h
  split at h
  · simp only [Prod.mk.injEq, true_and] at h
    subst h
    exact internal_bytealg_IndexByteString_sound' Tryd.func105 (by kernel_rfl) (by kernel_rfl) (by kernel_rfl) (by kernel_rfl) hS ha
  · cases h
def s_internal_bytealg_IndexString (m0 : Int) : List AV → Bool × AV
  | [.dat .str a0 _, .dat .str a1 _] => (internal_bytealg_IndexString_ok m0 a0 a1, (.dat (.int .i64) (internal_bytealg_IndexString a0 a1) none))
  | _ => (false, .bad)
theorem internal_bytealg_IndexString_sound (m0 : Int) : SoundG (Gm m0) Tryd.prog 110 (s_internal_bytealg_IndexString m0) := fun w S hg vals avs r h hS ha => by
  unfold s_internal_bytealg_IndexString at h
  split at h
  · simp only [Prod.mk.injEq] at h
    obtain ⟨hp, rfl⟩ := h
    simp only [internal_bytealg_IndexString_ok, Bool.and_eq_true, decide_eq_true_eq] at hp
    have hm : w.cell? ⟨0, 0, none⟩ = some (.int .i64 m0) := by
      cases hg.2 0 (.int .i64) m0 rfl with
      | adr _ _ ad cs h1 h2 =>
        have e : cs = [.int .i64 m0] := h1
        subst e
        exact ((h2.2 (by simp)).2 0 _ rfl).2
    exact internal_bytealg_IndexString_sound' Tryd.func110 (by kernel_rfl) (by kernel_rfl) (by kernel_rfl) (by kernel_rfl) (g := 0) (by kernel_rfl) hm hS ha hp.1.1 hp.1.2 hp.2
  · cases h
theorem bytes_IndexRune_sound : SoundG G Tryd.prog 106 s_bytes_IndexRune := fun w S hg vals avs r h hS ha => by
  unfold s_bytes_IndexRune at h
  split at h
  · simp only [Prod.mk.injEq] at h
    cases h.1
  · cases h
theorem unicode_utf8_DecodeRune_sound : SoundG G Tryd.prog 109 s_unicode_utf8_DecodeRune := fun w S hg vals avs r h hS ha => by
  unfold s_unicode_utf8_DecodeRune at h
  split at h
  · simp only [Prod.mk.injEq] at h
    obtain ⟨hp, rfl⟩ := h
    obtain ⟨m, hm⟩ := hg
    exact unicode_utf8_DecodeRune_sound' hm.1 hS ha (by simpa [unicode_utf8_DecodeRune_ok] using hp)
  · cases h
theorem bytes_Index_sound : SoundG G Tryd.prog 81 s_bytes_Index := fun w S hg vals avs r h hS ha => by
  unfold s_bytes_Index at h
  split at h
  · simp only [Prod.mk.injEq] at h
    obtain ⟨hp, rfl⟩ := h
    unfold bytes_Index_ok at hp
    simp only [Bool.and_eq_true, decide_eq_true_eq] at hp
    obtain ⟨m, hm⟩ := hg
    have hc : w.cell? ⟨0, 0, none⟩ = some (.int .i64 m) := by
      cases hm.2 0 (.int .i64) m rfl with
      | adr _ _ ad cs h1 h2 =>
        have e : cs = [.int .i64 m] := h1
        subst e
        exact ((h2.2 (by simp)).2 0 _ rfl).2
    exact bytes_Index_sound' hc hS ha (lenOk_le hp.1) (lenOk_le hp.2.1) hp.2.2
  · cases h
theorem bytes_Clone_sound : SoundG G Tryd.prog 60 s_bytes_Clone := fun w S hg vals avs r h hS ha => by
  unfold s_bytes_Clone at h
  split at h
  · simp only [Prod.mk.injEq] at h
    obtain ⟨hp, rfl⟩ := h
    exact bytes_Clone_sound' hS ha (lenOk_le hp)
  · cases h
theorem bytes_trimLeftUnicode_sound : SoundG G Tryd.prog 94 s_bytes_trimLeftUnicode := fun w S hg vals avs r h hS ha => by
  unfold s_bytes_trimLeftUnicode at h
  split at h
  · simp only [Prod.mk.injEq] at h
    cases h.1
  · cases h
theorem bytes_trimRightUnicode_sound : SoundG G Tryd.prog 115 s_bytes_trimRightUnicode := fun w S hg vals avs r h hS ha => by
  unfold s_bytes_trimRightUnicode at h
  split at h
  · simp only [Prod.mk.injEq] at h
    cases h.1
  · cases h


/-! internal/stringslite.IndexByte -/

noncomputable def E_internal_stringslite_IndexByte : EnvP := ⟨⟨tiOf tis, fnsOf [(105, s_internal_bytealg_IndexByteString)], cnsOf [], [], 8, (fun _ => none), (fun _ => none), some [4]⟩, fun _ => none, fun _ => none, fun _ => []⟩
noncomputable def C_internal_stringslite_IndexByte : Code := Tryd.f128.body.getD .skip
noncomputable def R_internal_stringslite_IndexByte : Array ResultVar := Tryd.f128.results
theorem internal_stringslite_IndexByte_ev (n : Nat) (s0 : List UInt8) (o0 : Lab) (c1 : UInt8) (o1 : Lab) : evFnP E_internal_stringslite_IndexByte n C_internal_stringslite_IndexByte R_internal_stringslite_IndexByte [.dat .str s0 o0, .dat .byte c1 o1] = internal_stringslite_IndexByte_sh n s0 c1 := by
  kernel_rfl
theorem internal_stringslite_IndexByte_sound : SoundG G Tryd.prog 128 s_internal_stringslite_IndexByte := by
  refine sound_of_evP' G_stays (E := E_internal_stringslite_IndexByte) (fn := Tryd.f128) (c := C_internal_stringslite_IndexByte) (tyOk_of_table rfl tis_ok) (fun w S hg => ⟨⟨(fns_cons (internal_bytealg_IndexByteString_sound w S hg) fns_nil), fun f sp h => cns_nil f sp h w S⟩, gl_none w S hg⟩) follows Tryd.func128 (by kernel_rfl) (by kernel_rfl) (by kernel_rfl) ?_
  intro avs r h
  unfold s_internal_stringslite_IndexByte at h
  split at h
  · simp only [Prod.mk.injEq, true_and] at h
    subst h
    obtain ⟨n, hn⟩ := internal_stringslite_IndexByte_math _ _
    exact ⟨n, _, (internal_stringslite_IndexByte_ev n _ _ _ _).trans hn, .inl rfl⟩
  · cases h

/-! strings.IndexByte -/

noncomputable def E_strings_IndexByte : EnvP := ⟨⟨tiOf tis, fnsOf [(128, s_internal_stringslite_IndexByte)], cnsOf [], [], 8, (fun _ => none), (fun _ => none), some [4]⟩, fun _ => none, fun _ => none, fun _ => []⟩
noncomputable def C_strings_IndexByte : Code := Tryd.f122.body.getD .skip
noncomputable def R_strings_IndexByte : Array ResultVar := Tryd.f122.results
theorem strings_IndexByte_ev (n : Nat) (s0 : List UInt8) (o0 : Lab) (c1 : UInt8) (o1 : Lab) : evFnP E_strings_IndexByte n C_strings_IndexByte R_strings_IndexByte [.dat .str s0 o0, .dat .byte c1 o1] = strings_IndexByte_sh n s0 c1 := by
  kernel_rfl
theorem strings_IndexByte_sound : SoundG G Tryd.prog 122 s_strings_IndexByte := by
  refine sound_of_evP' G_stays (E := E_strings_IndexByte) (fn := Tryd.f122) (c := C_strings_IndexByte) (tyOk_of_table rfl tis_ok) (fun w S hg => ⟨⟨(fns_cons (internal_stringslite_IndexByte_sound w S hg) fns_nil), fun f sp h => cns_nil f sp h w S⟩, gl_none w S hg⟩) follows Tryd.func122 (by kernel_rfl) (by kernel_rfl) (by kernel_rfl) ?_
  intro avs r h
  unfold s_strings_IndexByte at h
  split at h
  · simp only [Prod.mk.injEq, true_and] at h
    subst h
    obtain ⟨n, hn⟩ := strings_IndexByte_math _ _
    exact ⟨n, _, (strings_IndexByte_ev n _ _ _ _).trans hn, .inl rfl⟩
  · cases h

/-! sheave/octet.plain -/

noncomputable def E_octet_plain : EnvP := ⟨⟨tiOf tis, fnsOf [], cnsOf [], [], 46, (fun _ => none), (fun x => if x = 0 then some [3] else none), some [2]⟩, fun _ => none, fun _ => none, fun _ => []⟩
noncomputable def C_octet_plain : Code := Tryd.f103.body.getD .skip
noncomputable def R_octet_plain : Array ResultVar := Tryd.f103.results
theorem octet_plain_ev (n : Nat) (c0 : UInt8) (o0 : Lab) : evFnP E_octet_plain n C_octet_plain R_octet_plain [.dat .byte c0 o0] = octet_plain_sh n c0 := by
  kernel_rfl
theorem octet_plain_sound : SoundG G Tryd.prog 103 s_octet_plain := by
  refine sound_of_evP' G_stays (E := E_octet_plain) (fn := Tryd.f103) (c := C_octet_plain) (tyOk_of_table rfl tis_ok) (fun w S hg => ⟨⟨fns_nil, fun f sp h => cns_nil f sp h w S⟩, gl_none w S hg⟩) follows Tryd.func103 (by kernel_rfl) (by kernel_rfl) (by kernel_rfl) ?_
  intro avs r h
  unfold s_octet_plain at h
  split at h
  · simp only [Prod.mk.injEq, true_and] at h
    subst h
    obtain ⟨n, hn⟩ := octet_plain_math _
    exact ⟨n, _, (octet_plain_ev n _ _).trans hn, .inl rfl⟩
  · cases h

/-! sheave/octet.in -/

noncomputable def E_octet_in : EnvP := ⟨⟨tiOf tis, fnsOf [(122, s_strings_IndexByte)], cnsOf [], [], 9, (fun _ => none), (fun _ => none), some [4]⟩, fun _ => none, fun _ => none, fun _ => []⟩
noncomputable def C_octet_in : Code := Tryd.f104.body.getD .skip
noncomputable def R_octet_in : Array ResultVar := Tryd.f104.results
theorem octet_in_ev (n : Nat) (s0 : List UInt8) (o0 : Lab) (c1 : UInt8) (o1 : Lab) : evFnP E_octet_in n C_octet_in R_octet_in [.dat .str s0 o0, .dat .byte c1 o1] = octet_in_sh n s0 c1 := by
  kernel_rfl
theorem octet_in_sound : SoundG G Tryd.prog 104 s_octet_in := by
  refine sound_of_evP' G_stays (E := E_octet_in) (fn := Tryd.f104) (c := C_octet_in) (tyOk_of_table rfl tis_ok) (fun w S hg => ⟨⟨(fns_cons (strings_IndexByte_sound w S hg) fns_nil), fun f sp h => cns_nil f sp h w S⟩, gl_none w S hg⟩) follows Tryd.func104 (by kernel_rfl) (by kernel_rfl) (by kernel_rfl) ?_
  intro avs r h
  unfold s_octet_in at h
  split at h
  · simp only [Prod.mk.injEq, true_and] at h
    subst h
    obtain ⟨n, hn⟩ := octet_in_math _ _
    exact ⟨n, _, (octet_in_ev n _ _ _ _).trans hn, .inl rfl⟩
  · cases h

/-! sheave/octet.Kinds -/

noncomputable def E_octet_Kinds : EnvP := ⟨⟨tiOf tis, fnsOf [(103, s_octet_plain), (104, s_octet_in)], cnsOf [], [], 35, (fun _ => none), (fun _ => none), some [2]⟩, fun _ => none, fun _ => none, fun _ => []⟩
noncomputable def C_octet_Kinds : Code := Tryd.f82.body.getD .skip
noncomputable def R_octet_Kinds : Array ResultVar := Tryd.f82.results
theorem octet_Kinds_ev (n : Nat) (c0 : UInt8) (o0 : Lab) : evFnP E_octet_Kinds n C_octet_Kinds R_octet_Kinds [.dat .byte c0 o0] = octet_Kinds_sh n c0 := by
  kernel_rfl
theorem octet_Kinds_sound : SoundG G Tryd.prog 82 s_octet_Kinds := by
  refine sound_of_evP' G_stays (E := E_octet_Kinds) (fn := Tryd.f82) (c := C_octet_Kinds) (tyOk_of_table rfl tis_ok) (fun w S hg => ⟨⟨(fns_cons (octet_plain_sound w S hg) (fns_cons (octet_in_sound w S hg) fns_nil)), fun f sp h => cns_nil f sp h w S⟩, gl_none w S hg⟩) follows Tryd.func82 (by kernel_rfl) (by kernel_rfl) (by kernel_rfl) ?_
  intro avs r h
  unfold s_octet_Kinds at h
  split at h
  · simp only [Prod.mk.injEq, true_and] at h
    subst h
    obtain ⟨n, hn⟩ := octet_Kinds_math _
    exact ⟨n, _, (octet_Kinds_ev n _ _).trans hn, .inl rfl⟩
  · cases h

/-! sheave/octet.Is -/

noncomputable def E_octet_Is : EnvP := ⟨⟨tiOf tis, fnsOf [(82, s_octet_Kinds)], cnsOf [], [], 10, (fun _ => none), (fun _ => none), some [4]⟩, fun _ => none, fun _ => none, fun _ => []⟩
noncomputable def C_octet_Is : Code := Tryd.f52.body.getD .skip
noncomputable def R_octet_Is : Array ResultVar := Tryd.f52.results
theorem octet_Is_ev (n : Nat) (c0 : UInt8) (o0 : Lab) (kinds1 : Int) (o1 : Lab) : evFnP E_octet_Is n C_octet_Is R_octet_Is [.dat .byte c0 o0, .dat (.int .i64) kinds1 o1] = octet_Is_sh n c0 kinds1 := by
  kernel_rfl
theorem octet_Is_sound : SoundG G Tryd.prog 52 s_octet_Is := by
  refine sound_of_evP' G_stays (E := E_octet_Is) (fn := Tryd.f52) (c := C_octet_Is) (tyOk_of_table rfl tis_ok) (fun w S hg => ⟨⟨(fns_cons (octet_Kinds_sound w S hg) fns_nil), fun f sp h => cns_nil f sp h w S⟩, gl_none w S hg⟩) follows Tryd.func52 (by kernel_rfl) (by kernel_rfl) (by kernel_rfl) ?_
  intro avs r h
  unfold s_octet_Is at h
  split at h
  · simp only [Prod.mk.injEq, true_and] at h
    subst h
    obtain ⟨n, hn⟩ := octet_Is_math _ _
    exact ⟨n, _, (octet_Is_ev n _ _ _ _).trans hn, .inl rfl⟩
  · cases h

/-! bytes.Cut -/

noncomputable def E_bytes_Cut : EnvP := ⟨⟨tiOf tis, fnsOf [(81, s_bytes_Index)], cnsOf [], [], 23, (fun _ => none), (fun _ => none), some [4, 1000005, 6]⟩, fun _ => none, fun _ => none, fun _ => []⟩
noncomputable def C_bytes_Cut : Code := Tryd.f51.body.getD .skip
noncomputable def R_bytes_Cut : Array ResultVar := Tryd.f51.results
theorem bytes_Cut_ev (n : Nat) (s0 : List UInt8) (o0 : Lab) (sep1 : List UInt8) (o1 : Lab) : evFnP E_bytes_Cut n C_bytes_Cut R_bytes_Cut [.dat (.sl .byte) s0 o0, .dat (.sl .byte) sep1 o1] = bytes_Cut_sh n s0 sep1 := by
  kernel_rfl
theorem bytes_Cut_sound : SoundG G Tryd.prog 51 s_bytes_Cut := by
  refine sound_of_evP' G_stays (E := E_bytes_Cut) (fn := Tryd.f51) (c := C_bytes_Cut) (tyOk_of_table rfl tis_ok) (fun w S hg => ⟨⟨(fns_cons (bytes_Index_sound w S hg) fns_nil), fun f sp h => cns_nil f sp h w S⟩, gl_none w S hg⟩) follows Tryd.func51 (by kernel_rfl) (by kernel_rfl) (by kernel_rfl) ?_
  intro avs r h
  unfold s_bytes_Cut at h
  split at h
  · simp only [Prod.mk.injEq] at h
    obtain ⟨hp, rfl⟩ := h
    obtain ⟨n, hn⟩ := bytes_Cut_math _ _ hp
    exact ⟨n, _, (bytes_Cut_ev n _ _ _ _).trans hn, .inl rfl⟩
  · cases h

/-! sheave/fold.Unfold -/

noncomputable def E_fold_Unfold : EnvP := ⟨⟨tiOf tis, fnsOf [(51, s_bytes_Cut), (52, s_octet_Is)], cnsOf [], [], 34, (fun x => if x = 2 then some [0, 3] else none), (fun x => if x = 0 then some [2] else if x = 1 then some [0, 3] else none), some [2]⟩, fun _ => none, fun _ => none, fun _ => []⟩
noncomputable def C_fold_Unfold : Code := Tryd.f16.body.getD .skip
noncomputable def R_fold_Unfold : Array ResultVar := Tryd.f16.results
theorem fold_Unfold_l2_ok (K : Ex → Fr → Option AV) : ∀ (n : Nat) (s0 : List UInt8) (out3 : List UInt8), evLP E_fold_Unfold n (sub C_fold_Unfold [1, 1, 0, 0]) K (frOf [(0, (.dat (.sl .byte) s0 none)), (3, (.dat (.sl .byte) out3 (some (3, 5))))]) = fold_Unfold_l2 (fun s2 => K .ret (frOf [(2, (.dat (.sl .byte) s2 (some (2, 5))))])) n s0 out3 := by
  intro n
  induction n with
  | zero => intros; rfl
  | succ n IH =>
  intro s0 out3
  have ih : (fun s0 out3 => evLP E_fold_Unfold n (sub C_fold_Unfold [1, 1, 0, 0]) K (frOf [(0, (.dat (.sl .byte) s0 none)), (3, (.dat (.sl .byte) out3 (some (3, 5))))])) = fold_Unfold_l2 (fun s2 => K .ret (frOf [(2, (.dat (.sl .byte) s2 (some (2, 5))))])) n := by
    funext s0 out3
    exact IH s0 out3
  show _ = fold_Unfold_l2_b (fun s2 => K .ret (frOf [(2, (.dat (.sl .byte) s2 (some (2, 5))))])) (fold_Unfold_l2 (fun s2 => K .ret (frOf [(2, (.dat (.sl .byte) s2 (some (2, 5))))])) n) n s0 out3
  rw [← ih]
  kernel_rfl
theorem fold_Unfold_ev (n : Nat) (s0 : List UInt8) (o0 : Lab) : evFnP E_fold_Unfold n C_fold_Unfold R_fold_Unfold [.dat (.sl .byte) s0 o0] = fold_Unfold_sh n s0 := by
  unfold fold_Unfold_sh
  rw [show fold_Unfold_l2 fold_Unfold_ret n = (fun s0 out3 => evLP E_fold_Unfold n (sub C_fold_Unfold [1, 1, 0, 0]) (kBlockP 0 (E_fold_Unfold.cutb 0) (kFnP E_fold_Unfold R_fold_Unfold)) (frOf [(0, (.dat (.sl .byte) s0 none)), (3, (.dat (.sl .byte) out3 (some (3, 5))))])) from by
    funext s0 out3
    refine Eq.trans ?_ (fold_Unfold_l2_ok (kBlockP 0 (E_fold_Unfold.cutb 0) (kFnP E_fold_Unfold R_fold_Unfold)) n s0 out3).symm
    all_goals kernel_rfl]
  kernel_rfl
theorem fold_Unfold_sound : SoundG G Tryd.prog 16 s_fold_Unfold := by
  refine sound_of_evP' G_stays (E := E_fold_Unfold) (fn := Tryd.f16) (c := C_fold_Unfold) (tyOk_of_table rfl tis_ok) (fun w S hg => ⟨⟨(fns_cons (bytes_Cut_sound w S hg) (fns_cons (octet_Is_sound w S hg) fns_nil)), fun f sp h => cns_nil f sp h w S⟩, gl_none w S hg⟩) follows Tryd.func16 (by kernel_rfl) (by kernel_rfl) (by kernel_rfl) ?_
  intro avs r h
  unfold s_fold_Unfold at h
  split at h
  · simp only [Prod.mk.injEq] at h
    obtain ⟨hp, rfl⟩ := h
    obtain ⟨n, hn⟩ := fold_Unfold_math _ hp
    exact ⟨n, _, (fold_Unfold_ev n _ _).trans hn, .inl rfl⟩
  · cases h

/-! sheave/fold.Folds -/

noncomputable def E_fold_Folds : EnvP := ⟨⟨tiOf tis, fnsOf [(16, s_fold_Unfold)], cnsOf [], [], 10, (fun _ => none), (fun _ => none), some [2]⟩, fun _ => none, fun _ => none, fun _ => []⟩
noncomputable def C_fold_Folds : Code := Tryd.f17.body.getD .skip
noncomputable def R_fold_Folds : Array ResultVar := Tryd.f17.results
theorem fold_Folds_ev (n : Nat) (s0 : List UInt8) (o0 : Lab) : evFnP E_fold_Folds n C_fold_Folds R_fold_Folds [.dat (.sl .byte) s0 o0] = fold_Folds_sh n s0 := by
  kernel_rfl
theorem fold_Folds_sound : SoundG G Tryd.prog 17 s_fold_Folds := by
  refine sound_of_evP' G_stays (E := E_fold_Folds) (fn := Tryd.f17) (c := C_fold_Folds) (tyOk_of_table rfl tis_ok) (fun w S hg => ⟨⟨(fns_cons (fold_Unfold_sound w S hg) fns_nil), fun f sp h => cns_nil f sp h w S⟩, gl_none w S hg⟩) follows Tryd.func17 (by kernel_rfl) (by kernel_rfl) (by kernel_rfl) ?_
  intro avs r h
  unfold s_fold_Folds at h
  split at h
  · simp only [Prod.mk.injEq] at h
    obtain ⟨hp, rfl⟩ := h
    obtain ⟨n, hn⟩ := fold_Folds_math _ hp
    exact ⟨n, _, (fold_Folds_ev n _ _).trans hn, .inl rfl⟩
  · cases h

/-! bytes.makeASCIISet -/

noncomputable def E_bytes_makeASCIISet : EnvP := ⟨⟨tiOf tis, fnsOf [], cnsOf [], [], 21, (fun x => if x = 2 then some [0, 2, 4] else none), (fun x => if x = 0 then some [2] else if x = 1 then some [0, 2, 4] else none), some [2, 3]⟩, fun _ => none, fun _ => none, fun _ => []⟩
noncomputable def C_bytes_makeASCIISet : Code := Tryd.f92.body.getD .skip
noncomputable def R_bytes_makeASCIISet : Array ResultVar := Tryd.f92.results
theorem bytes_makeASCIISet_l2_ok (K : Ex → Fr → Option AV) : ∀ (n : Nat) (chars0 : List UInt8) (as2 : List Bool) (i4 : Int), evLP E_bytes_makeASCIISet n (sub C_bytes_makeASCIISet [1, 0, 1, 0, 0]) K (frOf [(0, (.dat .str chars0 none)), (2, (.box (.arr 256 .bool) as2)), (4, (.dat (.int .i64) i4 none))]) = bytes_makeASCIISet_l2 (fun as2 ok3 => K .ret (frOf [(2, (.box (.arr 256 .bool) as2)), (3, (.dat .bool ok3 none))])) (fun as2 => K (.exit 0) (frOf [(2, (.box (.arr 256 .bool) as2))])) n chars0 as2 i4 := by
  intro n
  induction n with
  | zero => intros; rfl
  | succ n IH =>
  intro chars0 as2 i4
  have ih : (fun chars0 as2 i4 => evLP E_bytes_makeASCIISet n (sub C_bytes_makeASCIISet [1, 0, 1, 0, 0]) K (frOf [(0, (.dat .str chars0 none)), (2, (.box (.arr 256 .bool) as2)), (4, (.dat (.int .i64) i4 none))])) = bytes_makeASCIISet_l2 (fun as2 ok3 => K .ret (frOf [(2, (.box (.arr 256 .bool) as2)), (3, (.dat .bool ok3 none))])) (fun as2 => K (.exit 0) (frOf [(2, (.box (.arr 256 .bool) as2))])) n := by
    funext chars0 as2 i4
    exact IH chars0 as2 i4
  show _ = bytes_makeASCIISet_l2_b (fun as2 ok3 => K .ret (frOf [(2, (.box (.arr 256 .bool) as2)), (3, (.dat .bool ok3 none))])) (fun as2 => K (.exit 0) (frOf [(2, (.box (.arr 256 .bool) as2))])) (bytes_makeASCIISet_l2 (fun as2 ok3 => K .ret (frOf [(2, (.box (.arr 256 .bool) as2)), (3, (.dat .bool ok3 none))])) (fun as2 => K (.exit 0) (frOf [(2, (.box (.arr 256 .bool) as2))])) n) n chars0 as2 i4
  rw [← ih]
  kernel_rfl
theorem bytes_makeASCIISet_k2_0_ok (n : Nat) (as2 : List Bool) : (kBlockP 0 (E_bytes_makeASCIISet.cutb 0) (kSeq (evCP E_bytes_makeASCIISet (evLP E_bytes_makeASCIISet n) (sub C_bytes_makeASCIISet [1, 1])) (kFnP E_bytes_makeASCIISet R_bytes_makeASCIISet))) (.exit 0) (frOf [(2, (.box (.arr 256 .bool) as2))]) = bytes_makeASCIISet_k2_0 n as2 := by
  kernel_rfl
theorem bytes_makeASCIISet_ev (n : Nat) (chars0 : List UInt8) (o0 : Lab) : evFnP E_bytes_makeASCIISet n C_bytes_makeASCIISet R_bytes_makeASCIISet [.dat .str chars0 o0] = bytes_makeASCIISet_sh n chars0 := by
  unfold bytes_makeASCIISet_sh
  rw [show bytes_makeASCIISet_l2 bytes_makeASCIISet_ret (bytes_makeASCIISet_k2_0 n) n = (fun chars0 as2 i4 => evLP E_bytes_makeASCIISet n (sub C_bytes_makeASCIISet [1, 0, 1, 0, 0]) (kBlockP 0 (E_bytes_makeASCIISet.cutb 0) (kSeq (evCP E_bytes_makeASCIISet (evLP E_bytes_makeASCIISet n) (sub C_bytes_makeASCIISet [1, 1])) (kFnP E_bytes_makeASCIISet R_bytes_makeASCIISet))) (frOf [(0, (.dat .str chars0 none)), (2, (.box (.arr 256 .bool) as2)), (4, (.dat (.int .i64) i4 none))])) from by
    funext chars0 as2 i4
    refine Eq.trans ?_ (bytes_makeASCIISet_l2_ok (kBlockP 0 (E_bytes_makeASCIISet.cutb 0) (kSeq (evCP E_bytes_makeASCIISet (evLP E_bytes_makeASCIISet n) (sub C_bytes_makeASCIISet [1, 1])) (kFnP E_bytes_makeASCIISet R_bytes_makeASCIISet))) n chars0 as2 i4).symm
    rw [show (fun as2 => (kBlockP 0 (E_bytes_makeASCIISet.cutb 0) (kSeq (evCP E_bytes_makeASCIISet (evLP E_bytes_makeASCIISet n) (sub C_bytes_makeASCIISet [1, 1])) (kFnP E_bytes_makeASCIISet R_bytes_makeASCIISet))) (.exit 0) (frOf [(2, (.box (.arr 256 .bool) as2))])) = (bytes_makeASCIISet_k2_0 n) from by
      funext as2
      exact bytes_makeASCIISet_k2_0_ok n as2]
    all_goals kernel_rfl]
  kernel_rfl
theorem bytes_makeASCIISet_sound : SoundG G Tryd.prog 92 s_bytes_makeASCIISet := by
  refine sound_of_evP' G_stays (E := E_bytes_makeASCIISet) (fn := Tryd.f92) (c := C_bytes_makeASCIISet) (tyOk_of_table rfl tis_ok) (fun w S hg => ⟨⟨fns_nil, fun f sp h => cns_nil f sp h w S⟩, gl_none w S hg⟩) follows Tryd.func92 (by kernel_rfl) (by kernel_rfl) (by kernel_rfl) ?_
  intro avs r h
  unfold s_bytes_makeASCIISet at h
  split at h
  · simp only [Prod.mk.injEq] at h
    obtain ⟨hp, rfl⟩ := h
    obtain ⟨n, hn⟩ := bytes_makeASCIISet_math _ hp
    exact ⟨n, _, (bytes_makeASCIISet_ev n _ _).trans hn, .inl rfl⟩
  · cases h

/-! bytes.shouldUseASCIISet -/

noncomputable def E_bytes_shouldUseASCIISet : EnvP := ⟨⟨tiOf tis, fnsOf [], cnsOf [], [], 5, (fun _ => none), (fun _ => none), some [2]⟩, fun _ => none, fun _ => none, fun _ => []⟩
noncomputable def C_bytes_shouldUseASCIISet : Code := Tryd.f107.body.getD .skip
noncomputable def R_bytes_shouldUseASCIISet : Array ResultVar := Tryd.f107.results
theorem bytes_shouldUseASCIISet_ev (n : Nat) (bufLen0 : Int) (o0 : Lab) : evFnP E_bytes_shouldUseASCIISet n C_bytes_shouldUseASCIISet R_bytes_shouldUseASCIISet [.dat (.int .i64) bufLen0 o0] = bytes_shouldUseASCIISet_sh n bufLen0 := by
  kernel_rfl
theorem bytes_shouldUseASCIISet_sound : SoundG G Tryd.prog 107 s_bytes_shouldUseASCIISet := by
  refine sound_of_evP' G_stays (E := E_bytes_shouldUseASCIISet) (fn := Tryd.f107) (c := C_bytes_shouldUseASCIISet) (tyOk_of_table rfl tis_ok) (fun w S hg => ⟨⟨fns_nil, fun f sp h => cns_nil f sp h w S⟩, gl_none w S hg⟩) follows Tryd.func107 (by kernel_rfl) (by kernel_rfl) (by kernel_rfl) ?_
  intro avs r h
  unfold s_bytes_shouldUseASCIISet at h
  split at h
  · simp only [Prod.mk.injEq, true_and] at h
    subst h
    obtain ⟨n, hn⟩ := bytes_shouldUseASCIISet_math _
    exact ⟨n, _, (bytes_shouldUseASCIISet_ev n _ _).trans hn, .inl rfl⟩
  · cases h

/-! (*bytes.asciiSet).contains -/

noncomputable def E___bytes_asciiSet__contains : EnvP := ⟨⟨tiOf tis, fnsOf [], cnsOf [], [], 10, (fun _ => none), (fun _ => none), some [4]⟩, fun _ => none, fun _ => none, fun _ => []⟩
noncomputable def C___bytes_asciiSet__contains : Code := Tryd.f108.body.getD .skip
noncomputable def R___bytes_asciiSet__contains : Array ResultVar := Tryd.f108.results
theorem __bytes_asciiSet__contains_ev (n : Nat) (as0 : List Bool) (c1 : UInt8) (o1 : Lab) : evFnP E___bytes_asciiSet__contains n C___bytes_asciiSet__contains R___bytes_asciiSet__contains [.adr (.arr 256 .bool) as0, .dat .byte c1 o1] = __bytes_asciiSet__contains_sh n as0 c1 := by
  kernel_rfl
theorem __bytes_asciiSet__contains_sound : SoundG G Tryd.prog 108 s___bytes_asciiSet__contains := by
  refine sound_of_evP' G_stays (E := E___bytes_asciiSet__contains) (fn := Tryd.f108) (c := C___bytes_asciiSet__contains) (tyOk_of_table rfl tis_ok) (fun w S hg => ⟨⟨fns_nil, fun f sp h => cns_nil f sp h w S⟩, gl_none w S hg⟩) follows Tryd.func108 (by kernel_rfl) (by kernel_rfl) (by kernel_rfl) ?_
  intro avs r h
  unfold s___bytes_asciiSet__contains at h
  split at h
  · simp only [Prod.mk.injEq, true_and] at h
    subst h
    obtain ⟨n, hn⟩ := __bytes_asciiSet__contains_math _ _
    exact ⟨n, _, (__bytes_asciiSet__contains_ev n _ _ _).trans hn, .inl rfl⟩
  · cases h

end Go.Av
