import Derived.Test.YtcfhfjjohmdaoaaDoorFoP7
import Derived.Test.YtcfhfjjohmdaoaaDoorFoN
import Derived.Test.YtcfhfjjohmdaoaaDoorProg
import Derived.KernelRfl
namespace Go.Av
open Go.Proofs
set_option maxRecDepth 100000
def tis : List (TypeId × TI) := [(2, ⟨some (.int .i64), 8, 0⟩),
  (3, ⟨some (.int .i64), 8, 0⟩),
  (4, ⟨some .bool, 1, 0⟩),
  (5, ⟨some .byte, 1, 0⟩),
  (6, ⟨some .byte, 1, 0⟩),
  (7, ⟨some (.pair (.int .i64) (.pair (.int .i64) (.pair .bool (.pair .byte .unit)))), 24, 0⟩),
  (8, ⟨some (.pair (.int .i64) (.pair (.int .i64) (.pair .bool (.pair .byte .unit)))), 24, 0⟩),
  (9, ⟨some .str, 16, 0⟩),
  (10, ⟨some .str, 16, 0⟩),
  (11, ⟨some .str, 16, 0⟩),
  (12, ⟨some (.int .u64), 8, 0⟩),
  (13, ⟨some (.pair .str (.pair (.int .u64) .unit)), 24, 0⟩),
  (14, ⟨some (.pair .str (.pair (.int .u64) .unit)), 24, 0⟩),
  (21, ⟨some (.int .i32), 4, 0⟩),
  (22, ⟨some (.sl .byte), 24, 5⟩),
  (30, ⟨some (.int .i64), 8, 0⟩),
  (35, ⟨some (.sl (.pair (.sl .byte) (.pair (.sl .byte) .unit))), 24, 47⟩),
  (38, ⟨some (.sl (.pair (.sl .byte) (.pair (.sl .byte) .unit))), 24, 50⟩),
  (41, ⟨some (.sl (.sl .byte)), 24, 22⟩),
  (46, ⟨some (.pair (.sl .byte) (.pair (.sl .byte) .unit)), 48, 0⟩),
  (47, ⟨some (.pair (.sl .byte) (.pair (.sl .byte) .unit)), 48, 0⟩),
  (50, ⟨some (.pair (.sl .byte) (.pair (.sl .byte) .unit)), 48, 0⟩),
  (57, ⟨some (.sl (.pair (.int .i64) (.pair (.sl .byte) .unit))), 24, 77⟩),
  (59, ⟨some (.sl (.pair (.int .i64) (.pair (.sl .byte) .unit))), 24, 79⟩),
  (76, ⟨some (.pair (.int .i64) (.pair (.sl .byte) .unit)), 32, 0⟩),
  (77, ⟨some (.pair (.int .i64) (.pair (.sl .byte) .unit)), 32, 0⟩),
  (79, ⟨some (.pair (.int .i64) (.pair (.sl .byte) .unit)), 32, 0⟩),
  (81, ⟨some (.pair (.sl (.pair (.int .i64) (.pair (.sl .byte) .unit))) (.pair .bool .unit)), 32, 0⟩),
  (82, ⟨some (.pair (.sl (.pair (.int .i64) (.pair (.sl .byte) .unit))) (.pair .bool .unit)), 32, 0⟩),
  (98, ⟨some (.arr 256 .bool), 256, 4⟩),
  (99, ⟨some (.arr 256 .bool), 256, 4⟩),
  (104, ⟨some (.int .u64), 8, 0⟩),
  (119, ⟨some (.int .u32), 4, 0⟩),
  (122, ⟨some (.int .u64), 8, 0⟩),
  (127, ⟨some (.arr 4 .byte), 4, 5⟩),
  (129, ⟨some (.arr 256 .byte), 256, 5⟩),
  (130, ⟨some (.pair .byte (.pair .byte .unit)), 2, 0⟩),
  (131, ⟨some (.pair .byte (.pair .byte .unit)), 2, 0⟩),
  (132, ⟨some (.arr 16 (.pair .byte (.pair .byte .unit))), 32, 131⟩),
  (140, ⟨some .byte, 1, 0⟩),
  (141, ⟨some .byte, 1, 0⟩),
  (144, ⟨some (.int .i32), 4, 0⟩),
  (145, ⟨some (.int .i32), 4, 0⟩)]
theorem tis_ok : (tis.all fun p => tyB Tryd.prog (tiOf tis) p.1) = true := by kernel_rfl
theorem follows : Tryd.prog.follows .mixedOrders = true := by kernel_rfl
def s_internal_bytealg_IndexByteString : List AV → Bool × AV
  | [.dat .str a0 _, .dat .byte a1 _] => (true, (.dat (.int .i64) (internal_bytealg_IndexByteString a0 a1) none))
  | _ => (false, .bad)
def s_internal_stringslite_IndexByte : List AV → Bool × AV
  | [.dat .str a0 _, .dat .byte a1 _] => (true, (.dat (.int .i64) (internal_stringslite_IndexByte a0 a1) none))
  | _ => (false, .bad)
def s_strings_IndexByte : List AV → Bool × AV
  | [.dat .str a0 _, .dat .byte a1 _] => (true, (.dat (.int .i64) (strings_IndexByte a0 a1) none))
  | _ => (false, .bad)
def s_octet_plain : List AV → Bool × AV
  | [.dat .byte a0 _] => (true, (.dat (.int .i64) (octet_plain a0) none))
  | _ => (false, .bad)
def s_octet_in : List AV → Bool × AV
  | [.dat .str a0 _, .dat .byte a1 _] => (true, (.dat .bool (octet_in a0 a1) none))
  | _ => (false, .bad)
def s_octet_Kinds : List AV → Bool × AV
  | [.dat .byte a0 _] => (true, (.dat (.int .i64) (octet_Kinds a0) none))
  | _ => (false, .bad)
def s_octet_Is : List AV → Bool × AV
  | [.dat .byte a0 _, .dat (.int .i64) a1 _] => (true, (.dat .bool (octet_Is a0 a1) none))
  | _ => (false, .bad)
def s_bytes_Index : List AV → Bool × AV
  | [.dat (.sl .byte) a0 _, .dat (.sl .byte) a1 _] => (bytes_Index_ok a0 a1, (.dat (.int .i64) (bytes_Index a0 a1) none))
  | _ => (false, .bad)
def s_bytes_Cut : List AV → Bool × AV
  | [.dat (.sl .byte) a0 _, .dat (.sl .byte) a1 _] => (bytes_Cut_ok a0 a1, (.tup [(.dat (.sl .byte) ((bytes_Cut a0 a1).1) none), (.dat (.sl .byte) ((bytes_Cut a0 a1).2.1) none), (.dat .bool ((bytes_Cut a0 a1).2.2) none)]))
  | _ => (false, .bad)
def s_fold_Unfold : List AV → Bool × AV
  | [.dat (.sl .byte) a0 _] => (fold_Unfold_ok a0, (.dat (.sl .byte) (fold_Unfold a0) (some (2, 5))))
  | _ => (false, .bad)
def s_fold_Folds : List AV → Bool × AV
  | [.dat (.sl .byte) a0 _] => (fold_Folds_ok a0, (.dat (.int .i64) (fold_Folds a0) none))
  | _ => (false, .bad)
def s_bytes_makeASCIISet : List AV → Bool × AV
  | [.dat .str a0 _] => (bytes_makeASCIISet_ok a0, (.tup [(.dat (.arr 256 .bool) ((bytes_makeASCIISet a0).1) none), (.dat .bool ((bytes_makeASCIISet a0).2) none)]))
  | _ => (false, .bad)
def s_bytes_shouldUseASCIISet : List AV → Bool × AV
  | [.dat (.int .i64) a0 _] => (true, (.dat .bool (bytes_shouldUseASCIISet a0) none))
  | _ => (false, .bad)
def s___bytes_asciiSet__contains : List AV → Bool × AV
  | [.adr (.arr 256 .bool) a0, .dat .byte a1 _] => (true, (.dat .bool (__bytes_asciiSet__contains a0 a1) none))
  | _ => (false, .bad)
def s_unicode_utf8_DecodeRune : List AV → Bool × AV
  | [.dat (.sl .byte) a0 _] => (unicode_utf8_DecodeRune_ok a0, (.tup [(.dat (.int .i32) ((unicode_utf8_DecodeRune a0).1) none), (.dat (.int .i64) ((unicode_utf8_DecodeRune a0).2) none)]))
  | _ => (false, .bad)
def s_bytes_IndexRune : List AV → Bool × AV
  | [.dat (.sl .byte) a0 _, .dat (.int .i32) a1 _] => (bytes_IndexRune_ok a0 a1, (.dat (.int .i64) (bytes_IndexRune a0 a1) none))
  | _ => (false, .bad)
def s_bytes_IndexAny : List AV → Bool × AV
  | [.dat (.sl .byte) a0 _, .dat .str a1 _] => (bytes_IndexAny_ok a0 a1, (.dat (.int .i64) (bytes_IndexAny a0 a1) none))
  | _ => (false, .bad)
def s_bytes_ContainsAny : List AV → Bool × AV
  | [.dat (.sl .byte) a0 _, .dat .str a1 _] => (bytes_ContainsAny_ok a0 a1, (.dat .bool (bytes_ContainsAny a0 a1) none))
  | _ => (false, .bad)
def s_fold_Right : List AV → Bool × AV
  | [.dat (.sl .byte) a0 _] => (fold_Right_ok a0, (.dat .bool (fold_Right a0) none))
  | _ => (false, .bad)
def s_fold_check : List AV → Bool × AV
  | [.dat (.sl .byte) a0 _, .dat (.int .i64) a1 _, .dat (.int .i64) a2 _] => (fold_check_ok a0 a1 a2, (.dat (.int .i64) (fold_check a0 a1 a2) none))
  | _ => (false, .bad)
def s_lines_Join : List AV → Bool × AV
  | [.dat (.sl (.sl .byte)) a0 _] => (lines_Join_ok a0, (.dat (.sl .byte) (lines_Join a0) (some (2, 5))))
  | _ => (false, .bad)
def s_fold_Fold : List AV → Bool × AV
  | [.dat (.sl .byte) a0 _, .dat (.int .i64) a1 _, .dat (.int .i64) a2 _] => (fold_Fold_ok a0 a1 a2, (.tup [(.dat (.sl .byte) ((fold_Fold a0 a1 a2).1) none), (.dat (.int .i64) ((fold_Fold a0 a1 a2).2) none)]))
  | _ => (false, .bad)
def s_law27_alive : List AV → Bool × AV
  | [] => (true, (.dat .bool law27_alive none))
  | _ => (false, .bad)
def s_ref27_folds : List AV → Bool × AV
  | [.dat (.sl .byte) a0 _, .dat (.int .i64) a1 _] => (ref27_folds_ok a0 a1, (.dat .bool (ref27_folds a0 a1) none))
  | _ => (false, .bad)
def s_ref27_Unfold : List AV → Bool × AV
  | [.dat (.sl .byte) a0 _] => (ref27_Unfold_ok a0, (.tup [(.dat (.sl .byte) ((ref27_Unfold a0).1) none), (.dat (.int .i64) ((ref27_Unfold a0).2) none)]))
  | _ => (false, .bad)
def s_ref01_Like : List AV → Bool × AV
  | [.dat (.sl .byte) a0 _, .dat (.sl .byte) a1 _] => (ref01_Like_ok a0 a1, (.dat .bool (ref01_Like a0 a1) none))
  | _ => (false, .bad)
def s_ref27_Right : List AV → Bool × AV
  | [.dat (.sl .byte) a0 _] => (ref27_Right_ok a0, (.dat .bool (ref27_Right a0) none))
  | _ => (false, .bad)
def s_law27_FoldUnfolds : List AV → Bool × AV
  | [.dat (.sl .byte) a0 _] => (true, (.dat .bool (law27_FoldUnfolds a0) none))
  | _ => (false, .bad)
def s_law27_FoldBack : List AV → Bool × AV
  | [.dat (.sl .byte) a0 _, .dat (.int .i64) a1 _, .dat (.int .i64) a2 _] => (true, (.dat .bool (law27_FoldBack a0 a1 a2) none))
  | _ => (false, .bad)
def s_ref27_Fold : List AV → Bool × AV
  | [.dat (.sl .byte) a0 _, .dat (.int .i64) a1 _, .dat (.int .i64) a2 _] => (ref27_Fold_ok a0 a1 a2, (.tup [(.dat (.sl .byte) ((ref27_Fold a0 a1 a2).1) none), (.dat (.int .i64) ((ref27_Fold a0 a1 a2).2) none)]))
  | _ => (false, .bad)
def s_fold_Again : List AV → Bool × AV
  | [.dat (.sl .byte) a0 _, .dat (.int .i64) a1 _, .dat (.int .i64) a2 _] => (fold_Again_ok a0 a1 a2, (.tup [(.dat (.sl .byte) ((fold_Again a0 a1 a2).1) none), (.dat (.int .i64) ((fold_Again a0 a1 a2).2) none)]))
  | _ => (false, .bad)
def s_law27_FoldFolds : List AV → Bool × AV
  | [.dat (.sl .byte) a0 _, .dat (.int .i64) a1 _, .dat (.int .i64) a2 _] => (true, (.dat .bool (law27_FoldFolds a0 a1 a2) none))
  | _ => (false, .bad)

/-! what has no body -/

theorem internal_bytealg_IndexByteString_sound : SoundG G Tryd.prog 105 s_internal_bytealg_IndexByteString := fun w S hg vals avs r h hS ha => by
  unfold s_internal_bytealg_IndexByteString at h
  split at h
  · simp only [Prod.mk.injEq, true_and] at h
    subst h
    exact internal_bytealg_IndexByteString_sound' Tryd.func105 (by kernel_rfl) (by kernel_rfl) (by kernel_rfl) (by kernel_rfl) hS ha
  · cases h
def s_internal_bytealg_IndexString (m0 : Int) : List AV → Bool × AV
  | [.dat .str a0 _, .dat .str a1 _] => (internal_bytealg_IndexString_ok m0 a0 a1, (.dat (.int .i64) (internal_bytealg_IndexString a0 a1) none))
  | _ => (false, .bad)
theorem internal_bytealg_IndexString_sound (m0 : Int) : SoundG (Gm m0) Tryd.prog 110 (s_internal_bytealg_IndexString m0) := fun w S hg vals avs r h hS ha => by
  unfold s_internal_bytealg_IndexString at h
  split at h
  · simp only [Prod.mk.injEq] at h
    obtain ⟨hp, rfl⟩ := h
    simp only [internal_bytealg_IndexString_ok, Bool.and_eq_true, decide_eq_true_eq] at hp
    have hm : w.cell? ⟨0, 0, none⟩ = some (.int .i64 m0) := by
      cases hg.2 0 (.int .i64) m0 rfl with
      | adr _ _ ad cs h1 h2 =>
        have e : cs = [.int .i64 m0] := h1
        subst e
        exact ((h2.2 (by simp)).2 0 _ rfl).2
    exact internal_bytealg_IndexString_sound' Tryd.func110 (by kernel_rfl) (by kernel_rfl) (by kernel_rfl) (by kernel_rfl) (g := 0) (by kernel_rfl) hm hS ha hp.1.1 hp.1.2 hp.2
  · cases h
theorem bytes_IndexRune_sound : SoundG G Tryd.prog 106 s_bytes_IndexRune := fun w S hg vals avs r h hS ha => by
  unfold s_bytes_IndexRune at h
  split at h
  · simp only [Prod.mk.injEq] at h
    cases h.1
  · cases h
theorem unicode_utf8_DecodeRune_sound : SoundG G Tryd.prog 109 s_unicode_utf8_DecodeRune := fun w S hg vals avs r h hS ha => by
  unfold s_unicode_utf8_DecodeRune at h
  split at h
  · simp only [Prod.mk.injEq] at h
    obtain ⟨hp, rfl⟩ := h
    obtain ⟨m, hm⟩ := hg
    exact unicode_utf8_DecodeRune_sound' hm.1 hS ha (by simpa [unicode_utf8_DecodeRune_ok] using hp)
  · cases h
theorem bytes_Index_sound : SoundG G Tryd.prog 81 s_bytes_Index := fun w S hg vals avs r h hS ha => by
  unfold s_bytes_Index at h
  split at h
  · simp only [Prod.mk.injEq] at h
    obtain ⟨hp, rfl⟩ := h
    unfold bytes_Index_ok at hp
    simp only [Bool.and_eq_true, decide_eq_true_eq] at hp
    obtain ⟨m, hm⟩ := hg
    have hc : w.cell? ⟨0, 0, none⟩ = some (.int .i64 m) := by
      cases hm.2 0 (.int .i64) m rfl with
      | adr _ _ ad cs h1 h2 =>
        have e : cs = [.int .i64 m] := h1
        subst e
        exact ((h2.2 (by simp)).2 0 _ rfl).2
    exact bytes_Index_sound' hc hS ha (lenOk_le hp.1) (lenOk_le hp.2.1) hp.2.2
  · cases h


/-! internal/stringslite.IndexByte -/

noncomputable def E_internal_stringslite_IndexByte : EnvP := ⟨⟨tiOf tis, fnsOf [(105, s_internal_bytealg_IndexByteString)], cnsOf [], [], 8, (fun _ => none), (fun _ => none), some [4]⟩, fun _ => none, fun _ => none, fun _ => []⟩
noncomputable def C_internal_stringslite_IndexByte : Code := Tryd.f128.body.getD .skip
noncomputable def R_internal_stringslite_IndexByte : Array ResultVar := Tryd.f128.results
theorem internal_stringslite_IndexByte_ev (n : Nat) (s0 : List UInt8) (o0 : Lab) (c1 : UInt8) (o1 : Lab) : evFnP E_internal_stringslite_IndexByte n C_internal_stringslite_IndexByte R_internal_stringslite_IndexByte [.dat .str s0 o0, .dat .byte c1 o1] = internal_stringslite_IndexByte_sh n s0 c1 := by
  kernel_rfl
theorem internal_stringslite_IndexByte_sound : SoundG G Tryd.prog 128 s_internal_stringslite_IndexByte := by
  refine sound_of_evP' G_stays (E := E_internal_stringslite_IndexByte) (fn := Tryd.f128) (c := C_internal_stringslite_IndexByte) (tyOk_of_table rfl tis_ok) (fun w S hg => ⟨⟨(fns_cons (internal_bytealg_IndexByteString_sound w S hg) fns_nil), fun f sp h => cns_nil f sp h w S⟩, gl_none w S hg⟩) follows Tryd.func128 (by kernel_rfl) (by kernel_rfl) (by kernel_rfl) ?_
  intro avs r h
  unfold s_internal_stringslite_IndexByte at h
  split at h
  · simp only [Prod.mk.injEq, true_and] at h
    subst h
    obtain ⟨n, hn⟩ := internal_stringslite_IndexByte_math _ _
    exact ⟨n, _, (internal_stringslite_IndexByte_ev n _ _ _ _).trans hn, .inl rfl⟩
  · cases h

/-! strings.IndexByte -/

noncomputable def E_strings_IndexByte : EnvP := ⟨⟨tiOf tis, fnsOf [(128, s_internal_stringslite_IndexByte)], cnsOf [], [], 8, (fun _ => none), (fun _ => none), some [4]⟩, fun _ => none, fun _ => none, fun _ => []⟩
noncomputable def C_strings_IndexByte : Code := Tryd.f122.body.getD .skip
noncomputable def R_strings_IndexByte : Array ResultVar := Tryd.f122.results
theorem strings_IndexByte_ev (n : Nat) (s0 : List UInt8) (o0 : Lab) (c1 : UInt8) (o1 : Lab) : evFnP E_strings_IndexByte n C_strings_IndexByte R_strings_IndexByte [.dat .str s0 o0, .dat .byte c1 o1] = strings_IndexByte_sh n s0 c1 := by
  kernel_rfl
theorem strings_IndexByte_sound : SoundG G Tryd.prog 122 s_strings_IndexByte := by
  refine sound_of_evP' G_stays (E := E_strings_IndexByte) (fn := Tryd.f122) (c := C_strings_IndexByte) (tyOk_of_table rfl tis_ok) (fun w S hg => ⟨⟨(fns_cons (internal_stringslite_IndexByte_sound w S hg) fns_nil), fun f sp h => cns_nil f sp h w S⟩, gl_none w S hg⟩) follows Tryd.func122 (by kernel_rfl) (by kernel_rfl) (by kernel_rfl) ?_
  intro avs r h
  unfold s_strings_IndexByte at h
  split at h
  · simp only [Prod.mk.injEq, true_and] at h
    subst h
    obtain ⟨n, hn⟩ := strings_IndexByte_math _ _
    exact ⟨n, _, (strings_IndexByte_ev n _ _ _ _).trans hn, .inl rfl⟩
  · cases h

/-! sheave/octet.plain -/

noncomputable def E_octet_plain : EnvP := ⟨⟨tiOf tis, fnsOf [], cnsOf [], [], 46, (fun _ => none), (fun x => if x = 0 then some [3] else none), some [2]⟩, fun _ => none, fun _ => none, fun _ => []⟩
noncomputable def C_octet_plain : Code := Tryd.f103.body.getD .skip
noncomputable def R_octet_plain : Array ResultVar := Tryd.f103.results
theorem octet_plain_ev (n : Nat) (c0 : UInt8) (o0 : Lab) : evFnP E_octet_plain n C_octet_plain R_octet_plain [.dat .byte c0 o0] = octet_plain_sh n c0 := by
  kernel_rfl
theorem octet_plain_sound : SoundG G Tryd.prog 103 s_octet_plain := by
  refine sound_of_evP' G_stays (E := E_octet_plain) (fn := Tryd.f103) (c := C_octet_plain) (tyOk_of_table rfl tis_ok) (fun w S hg => ⟨⟨fns_nil, fun f sp h => cns_nil f sp h w S⟩, gl_none w S hg⟩) follows Tryd.func103 (by kernel_rfl) (by kernel_rfl) (by kernel_rfl) ?_
  intro avs r h
  unfold s_octet_plain at h
  split at h
  · simp only [Prod.mk.injEq, true_and] at h
    subst h
    obtain ⟨n, hn⟩ := octet_plain_math _
    exact ⟨n, _, (octet_plain_ev n _ _).trans hn, .inl rfl⟩
  · cases h

/-! sheave/octet.in -/

noncomputable def E_octet_in : EnvP := ⟨⟨tiOf tis, fnsOf [(122, s_strings_IndexByte)], cnsOf [], [], 9, (fun _ => none), (fun _ => none), some [4]⟩, fun _ => none, fun _ => none, fun _ => []⟩
noncomputable def C_octet_in : Code := Tryd.f104.body.getD .skip
noncomputable def R_octet_in : Array ResultVar := Tryd.f104.results
theorem octet_in_ev (n : Nat) (s0 : List UInt8) (o0 : Lab) (c1 : UInt8) (o1 : Lab) : evFnP E_octet_in n C_octet_in R_octet_in [.dat .str s0 o0, .dat .byte c1 o1] = octet_in_sh n s0 c1 := by
  kernel_rfl
theorem octet_in_sound : SoundG G Tryd.prog 104 s_octet_in := by
  refine sound_of_evP' G_stays (E := E_octet_in) (fn := Tryd.f104) (c := C_octet_in) (tyOk_of_table rfl tis_ok) (fun w S hg => ⟨⟨(fns_cons (strings_IndexByte_sound w S hg) fns_nil), fun f sp h => cns_nil f sp h w S⟩, gl_none w S hg⟩) follows Tryd.func104 (by kernel_rfl) (by kernel_rfl) (by kernel_rfl) ?_
  intro avs r h
  unfold s_octet_in at h
  split at h
  · simp only [Prod.mk.injEq, true_and] at h
    subst h
    obtain ⟨n, hn⟩ := octet_in_math _ _
    exact ⟨n, _, (octet_in_ev n _ _ _ _).trans hn, .inl rfl⟩
  · cases h

/-! sheave/octet.Kinds -/

noncomputable def E_octet_Kinds : EnvP := ⟨⟨tiOf tis, fnsOf [(103, s_octet_plain), (104, s_octet_in)], cnsOf [], [], 35, (fun _ => none), (fun _ => none), some [2]⟩, fun _ => none, fun _ => none, fun _ => []⟩
noncomputable def C_octet_Kinds : Code := Tryd.f82.body.getD .skip
noncomputable def R_octet_Kinds : Array ResultVar := Tryd.f82.results
theorem octet_Kinds_ev (n : Nat) (c0 : UInt8) (o0 : Lab) : evFnP E_octet_Kinds n C_octet_Kinds R_octet_Kinds [.dat .byte c0 o0] = octet_Kinds_sh n c0 := by
  kernel_rfl
theorem octet_Kinds_sound : SoundG G Tryd.prog 82 s_octet_Kinds := by
  refine sound_of_evP' G_stays (E := E_octet_Kinds) (fn := Tryd.f82) (c := C_octet_Kinds) (tyOk_of_table rfl tis_ok) (fun w S hg => ⟨⟨(fns_cons (octet_plain_sound w S hg) (fns_cons (octet_in_sound w S hg) fns_nil)), fun f sp h => cns_nil f sp h w S⟩, gl_none w S hg⟩) follows Tryd.func82 (by kernel_rfl) (by kernel_rfl) (by kernel_rfl) ?_
  intro avs r h
  unfold s_octet_Kinds at h
  split at h
  · simp only [Prod.mk.injEq, true_and] at h
    subst h
    obtain ⟨n, hn⟩ := octet_Kinds_math _
    exact ⟨n, _, (octet_Kinds_ev n _ _).trans hn, .inl rfl⟩
  · cases h

/-! sheave/octet.Is -/

noncomputable def E_octet_Is : EnvP := ⟨⟨tiOf tis, fnsOf [(82, s_octet_Kinds)], cnsOf [], [], 10, (fun _ => none), (fun _ => none), some [4]⟩, fun _ => none, fun _ => none, fun _ => []⟩
noncomputable def C_octet_Is : Code := Tryd.f52.body.getD .skip
noncomputable def R_octet_Is : Array ResultVar := Tryd.f52.results
theorem octet_Is_ev (n : Nat) (c0 : UInt8) (o0 : Lab) (kinds1 : Int) (o1 : Lab) : evFnP E_octet_Is n C_octet_Is R_octet_Is [.dat .byte c0 o0, .dat (.int .i64) kinds1 o1] = octet_Is_sh n c0 kinds1 := by
  kernel_rfl
theorem octet_Is_sound : SoundG G Tryd.prog 52 s_octet_Is := by
  refine sound_of_evP' G_stays (E := E_octet_Is) (fn := Tryd.f52) (c := C_octet_Is) (tyOk_of_table rfl tis_ok) (fun w S hg => ⟨⟨(fns_cons (octet_Kinds_sound w S hg) fns_nil), fun f sp h => cns_nil f sp h w S⟩, gl_none w S hg⟩) follows Tryd.func52 (by kernel_rfl) (by kernel_rfl) (by kernel_rfl) ?_
  intro avs r h
  unfold s_octet_Is at h
  split at h
  · simp only [Prod.mk.injEq, true_and] at h
    subst h
    obtain ⟨n, hn⟩ := octet_Is_math _ _
    exact ⟨n, _, (octet_Is_ev n _ _ _ _).trans hn, .inl rfl⟩
  · cases h

/-! bytes.Cut -/

noncomputable def E_bytes_Cut : EnvP := ⟨⟨tiOf tis, fnsOf [(81, s_bytes_Index)], cnsOf [], [], 23, (fun _ => none), (fun _ => none), some [4, 1000005, 6]⟩, fun _ => none, fun _ => none, fun _ => []⟩
noncomputable def C_bytes_Cut : Code := Tryd.f51.body.getD .skip
noncomputable def R_bytes_Cut : Array ResultVar := Tryd.f51.results
theorem bytes_Cut_ev (n : Nat) (s0 : List UInt8) (o0 : Lab) (sep1 : List UInt8) (o1 : Lab) : evFnP E_bytes_Cut n C_bytes_Cut R_bytes_Cut [.dat (.sl .byte) s0 o0, .dat (.sl .byte) sep1 o1] = bytes_Cut_sh n s0 sep1 := by
  kernel_rfl
theorem bytes_Cut_sound : SoundG G Tryd.prog 51 s_bytes_Cut := by
  refine sound_of_evP' G_stays (E := E_bytes_Cut) (fn := Tryd.f51) (c := C_bytes_Cut) (tyOk_of_table rfl tis_ok) (fun w S hg => ⟨⟨(fns_cons (bytes_Index_sound w S hg) fns_nil), fun f sp h => cns_nil f sp h w S⟩, gl_none w S hg⟩) follows Tryd.func51 (by kernel_rfl) (by kernel_rfl) (by kernel_rfl) ?_
  intro avs r h
  unfold s_bytes_Cut at h
  split at h
  · simp only [Prod.mk.injEq] at h
    obtain ⟨hp, rfl⟩ := h
    obtain ⟨n, hn⟩ := bytes_Cut_math _ _ hp
    exact ⟨n, _, (bytes_Cut_ev n _ _ _ _).trans hn, .inl rfl⟩
  · cases h

/-! sheave/fold.Unfold -/

noncomputable def E_fold_Unfold : EnvP := ⟨⟨tiOf tis, fnsOf [(51, s_bytes_Cut), (52, s_octet_Is)], cnsOf [], [], 34, (fun x => if x = 2 then some [0, 3] else none), (fun x => if x = 0 then some [2] else if x = 1 then some [0, 3] else none), some [2]⟩, fun _ => none, fun _ => none, fun _ => []⟩
noncomputable def C_fold_Unfold : Code := Tryd.f16.body.getD .skip
noncomputable def R_fold_Unfold : Array ResultVar := Tryd.f16.results
theorem fold_Unfold_l2_ok (K : Ex → Fr → Option AV) : ∀ (n : Nat) (s0 : List UInt8) (out3 : List UInt8), evLP E_fold_Unfold n (sub C_fold_Unfold [1, 1, 0, 0]) K (frOf [(0, (.dat (.sl .byte) s0 none)), (3, (.dat (.sl .byte) out3 (some (3, 5))))]) = fold_Unfold_l2 (fun s2 => K .ret (frOf [(2, (.dat (.sl .byte) s2 (some (2, 5))))])) n s0 out3 := by
  intro n
  induction n with
  | zero => intros; rfl
  | succ n IH =>
  intro s0 out3
  have ih : (fun s0 out3 => evLP E_fold_Unfold n (sub C_fold_Unfold [1, 1, 0, 0]) K (frOf [(0, (.dat (.sl .byte) s0 none)), (3, (.dat (.sl .byte) out3 (some (3, 5))))])) = fold_Unfold_l2 (fun s2 => K .ret (frOf [(2, (.dat (.sl .byte) s2 (some (2, 5))))])) n := by
    funext s0 out3
    exact IH s0 out3
  show _ = fold_Unfold_l2_b (fun s2 => K .ret (frOf [(2, (.dat (.sl .byte) s2 (some (2, 5))))])) (fold_Unfold_l2 (fun s2 => K .ret (frOf [(2, (.dat (.sl .byte) s2 (some (2, 5))))])) n) n s0 out3
  rw [← ih]
  kernel_rfl
theorem fold_Unfold_ev (n : Nat) (s0 : List UInt8) (o0 : Lab) : evFnP E_fold_Unfold n C_fold_Unfold R_fold_Unfold [.dat (.sl .byte) s0 o0] = fold_Unfold_sh n s0 := by
  unfold fold_Unfold_sh
  rw [show fold_Unfold_l2 fold_Unfold_ret n = (fun s0 out3 => evLP E_fold_Unfold n (sub C_fold_Unfold [1, 1, 0, 0]) (kBlockP 0 (E_fold_Unfold.cutb 0) (kFnP E_fold_Unfold R_fold_Unfold)) (frOf [(0, (.dat (.sl .byte) s0 none)), (3, (.dat (.sl .byte) out3 (some (3, 5))))])) from by
    funext s0 out3
    refine Eq.trans ?_ (fold_Unfold_l2_ok (kBlockP 0 (E_fold_Unfold.cutb 0) (kFnP E_fold_Unfold R_fold_Unfold)) n s0 out3).symm
    all_goals kernel_rfl]
  kernel_rfl
theorem fold_Unfold_sound : SoundG G Tryd.prog 16 s_fold_Unfold := by
  refine sound_of_evP' G_stays (E := E_fold_Unfold) (fn := Tryd.f16) (c := C_fold_Unfold) (tyOk_of_table rfl tis_ok) (fun w S hg => ⟨⟨(fns_cons (bytes_Cut_sound w S hg) (fns_cons (octet_Is_sound w S hg) fns_nil)), fun f sp h => cns_nil f sp h w S⟩, gl_none w S hg⟩) follows Tryd.func16 (by kernel_rfl) (by kernel_rfl) (by kernel_rfl) ?_
  intro avs r h
  unfold s_fold_Unfold at h
  split at h
  · simp only [Prod.mk.injEq] at h
    obtain ⟨hp, rfl⟩ := h
    obtain ⟨n, hn⟩ := fold_Unfold_math _ hp
    exact ⟨n, _, (fold_Unfold_ev n _ _).trans hn, .inl rfl⟩
  · cases h

/-! sheave/fold.Folds -/

noncomputable def E_fold_Folds : EnvP := ⟨⟨tiOf tis, fnsOf [(16, s_fold_Unfold)], cnsOf [], [], 10, (fun _ => none), (fun _ => none), some [2]⟩, fun _ => none, fun _ => none, fun _ => []⟩
noncomputable def C_fold_Folds : Code := Tryd.f17.body.getD .skip
noncomputable def R_fold_Folds : Array ResultVar := Tryd.f17.results
theorem fold_Folds_ev (n : Nat) (s0 : List UInt8) (o0 : Lab) : evFnP E_fold_Folds n C_fold_Folds R_fold_Folds [.dat (.sl .byte) s0 o0] = fold_Folds_sh n s0 := by
  kernel_rfl
theorem fold_Folds_sound : SoundG G Tryd.prog 17 s_fold_Folds := by
  refine sound_of_evP' G_stays (E := E_fold_Folds) (fn := Tryd.f17) (c := C_fold_Folds) (tyOk_of_table rfl tis_ok) (fun w S hg => ⟨⟨(fns_cons (fold_Unfold_sound w S hg) fns_nil), fun f sp h => cns_nil f sp h w S⟩, gl_none w S hg⟩) follows Tryd.func17 (by kernel_rfl) (by kernel_rfl) (by kernel_rfl) ?_
  intro avs r h
  unfold s_fold_Folds at h
  split at h
  · simp only [Prod.mk.injEq] at h
    obtain ⟨hp, rfl⟩ := h
    obtain ⟨n, hn⟩ := fold_Folds_math _ hp
    exact ⟨n, _, (fold_Folds_ev n _ _).trans hn, .inl rfl⟩
  · cases h

/-! bytes.makeASCIISet -/

noncomputable def E_bytes_makeASCIISet : EnvP := ⟨⟨tiOf tis, fnsOf [], cnsOf [], [], 21, (fun x => if x = 2 then some [0, 2, 4] else none), (fun x => if x = 0 then some [2] else if x = 1 then some [0, 2, 4] else none), some [2, 3]⟩, fun _ => none, fun _ => none, fun _ => []⟩
noncomputable def C_bytes_makeASCIISet : Code := Tryd.f92.body.getD .skip
noncomputable def R_bytes_makeASCIISet : Array ResultVar := Tryd.f92.results
theorem bytes_makeASCIISet_l2_ok (K : Ex → Fr → Option AV) : ∀ (n : Nat) (chars0 : List UInt8) (as2 : List Bool) (i4 : Int), evLP E_bytes_makeASCIISet n (sub C_bytes_makeASCIISet [1, 0, 1, 0, 0]) K (frOf [(0, (.dat .str chars0 none)), (2, (.box (.arr 256 .bool) as2)), (4, (.dat (.int .i64) i4 none))]) = bytes_makeASCIISet_l2 (fun as2 ok3 => K .ret (frOf [(2, (.box (.arr 256 .bool) as2)), (3, (.dat .bool ok3 none))])) (fun as2 => K (.exit 0) (frOf [(2, (.box (.arr 256 .bool) as2))])) n chars0 as2 i4 := by
  intro n
  induction n with
  | zero => intros; rfl
  | succ n IH =>
  intro chars0 as2 i4
  have ih : (fun chars0 as2 i4 => evLP E_bytes_makeASCIISet n (sub C_bytes_makeASCIISet [1, 0, 1, 0, 0]) K (frOf [(0, (.dat .str chars0 none)), (2, (.box (.arr 256 .bool) as2)), (4, (.dat (.int .i64) i4 none))])) = bytes_makeASCIISet_l2 (fun as2 ok3 => K .ret (frOf [(2, (.box (.arr 256 .bool) as2)), (3, (.dat .bool ok3 none))])) (fun as2 => K (.exit 0) (frOf [(2, (.box (.arr 256 .bool) as2))])) n := by
    funext chars0 as2 i4
    exact IH chars0 as2 i4
  show _ = bytes_makeASCIISet_l2_b (fun as2 ok3 => K .ret (frOf [(2, (.box (.arr 256 .bool) as2)), (3, (.dat .bool ok3 none))])) (fun as2 => K (.exit 0) (frOf [(2, (.box (.arr 256 .bool) as2))])) (bytes_makeASCIISet_l2 (fun as2 ok3 => K .ret (frOf [(2, (.box (.arr 256 .bool) as2)), (3, (.dat .bool ok3 none))])) (fun as2 => K (.exit 0) (frOf [(2, (.box (.arr 256 .bool) as2))])) n) n chars0 as2 i4
  rw [← ih]
  kernel_rfl
theorem bytes_makeASCIISet_k2_0_ok (n : Nat) (as2 : List Bool) : (kBlockP 0 (E_bytes_makeASCIISet.cutb 0) (kSeq (evCP E_bytes_makeASCIISet (evLP E_bytes_makeASCIISet n) (sub C_bytes_makeASCIISet [1, 1])) (kFnP E_bytes_makeASCIISet R_bytes_makeASCIISet))) (.exit 0) (frOf [(2, (.box (.arr 256 .bool) as2))]) = bytes_makeASCIISet_k2_0 n as2 := by
  kernel_rfl
theorem bytes_makeASCIISet_ev (n : Nat) (chars0 : List UInt8) (o0 : Lab) : evFnP E_bytes_makeASCIISet n C_bytes_makeASCIISet R_bytes_makeASCIISet [.dat .str chars0 o0] = bytes_makeASCIISet_sh n chars0 := by
  unfold bytes_makeASCIISet_sh
  rw [show bytes_makeASCIISet_l2 bytes_makeASCIISet_ret (bytes_makeASCIISet_k2_0 n) n = (fun chars0 as2 i4 => evLP E_bytes_makeASCIISet n (sub C_bytes_makeASCIISet [1, 0, 1, 0, 0]) (kBlockP 0 (E_bytes_makeASCIISet.cutb 0) (kSeq (evCP E_bytes_makeASCIISet (evLP E_bytes_makeASCIISet n) (sub C_bytes_makeASCIISet [1, 1])) (kFnP E_bytes_makeASCIISet R_bytes_makeASCIISet))) (frOf [(0, (.dat .str chars0 none)), (2, (.box (.arr 256 .bool) as2)), (4, (.dat (.int .i64) i4 none))])) from by
    funext chars0 as2 i4
    refine Eq.trans ?_ (bytes_makeASCIISet_l2_ok (kBlockP 0 (E_bytes_makeASCIISet.cutb 0) (kSeq (evCP E_bytes_makeASCIISet (evLP E_bytes_makeASCIISet n) (sub C_bytes_makeASCIISet [1, 1])) (kFnP E_bytes_makeASCIISet R_bytes_makeASCIISet))) n chars0 as2 i4).symm
    rw [show (fun as2 => (kBlockP 0 (E_bytes_makeASCIISet.cutb 0) (kSeq (evCP E_bytes_makeASCIISet (evLP E_bytes_makeASCIISet n) (sub C_bytes_makeASCIISet [1, 1])) (kFnP E_bytes_makeASCIISet R_bytes_makeASCIISet))) (.exit 0) (frOf [(2, (.box (.arr 256 .bool) as2))])) = (bytes_makeASCIISet_k2_0 n) from by
      funext as2
      exact bytes_makeASCIISet_k2_0_ok n as2]
    all_goals kernel_rfl]
  kernel_rfl
theorem bytes_makeASCIISet_sound : SoundG G Tryd.prog 92 s_bytes_makeASCIISet := by
  refine sound_of_evP' G_stays (E := E_bytes_makeASCIISet) (fn := Tryd.f92) (c := C_bytes_makeASCIISet) (tyOk_of_table rfl tis_ok) (fun w S hg => ⟨⟨fns_nil, fun f sp h => cns_nil f sp h w S⟩, gl_none w S hg⟩) follows Tryd.func92 (by kernel_rfl) (by kernel_rfl) (by kernel_rfl) ?_
  intro avs r h
  unfold s_bytes_makeASCIISet at h
  split at h
  · simp only [Prod.mk.injEq] at h
    obtain ⟨hp, rfl⟩ := h
    obtain ⟨n, hn⟩ := bytes_makeASCIISet_math _ hp
    exact ⟨n, _, (bytes_makeASCIISet_ev n _ _).trans hn, .inl rfl⟩
  · cases h

/-! bytes.shouldUseASCIISet -/

noncomputable def E_bytes_shouldUseASCIISet : EnvP := ⟨⟨tiOf tis, fnsOf [], cnsOf [], [], 5, (fun _ => none), (fun _ => none), some [2]⟩, fun _ => none, fun _ => none, fun _ => []⟩
noncomputable def C_bytes_shouldUseASCIISet : Code := Tryd.f107.body.getD .skip
noncomputable def R_bytes_shouldUseASCIISet : Array ResultVar := Tryd.f107.results
theorem bytes_shouldUseASCIISet_ev (n : Nat) (bufLen0 : Int) (o0 : Lab) : evFnP E_bytes_shouldUseASCIISet n C_bytes_shouldUseASCIISet R_bytes_shouldUseASCIISet [.dat (.int .i64) bufLen0 o0] = bytes_shouldUseASCIISet_sh n bufLen0 := by
  kernel_rfl
theorem bytes_shouldUseASCIISet_sound : SoundG G Tryd.prog 107 s_bytes_shouldUseASCIISet := by
  refine sound_of_evP' G_stays (E := E_bytes_shouldUseASCIISet) (fn := Tryd.f107) (c := C_bytes_shouldUseASCIISet) (tyOk_of_table rfl tis_ok) (fun w S hg => ⟨⟨fns_nil, fun f sp h => cns_nil f sp h w S⟩, gl_none w S hg⟩) follows Tryd.func107 (by kernel_rfl) (by kernel_rfl) (by kernel_rfl) ?_
  intro avs r h
  unfold s_bytes_shouldUseASCIISet at h
  split at h
  · simp only [Prod.mk.injEq, true_and] at h
    subst h
    obtain ⟨n, hn⟩ := bytes_shouldUseASCIISet_math _
    exact ⟨n, _, (bytes_shouldUseASCIISet_ev n _ _).trans hn, .inl rfl⟩
  · cases h

/-! (*bytes.asciiSet).contains -/

noncomputable def E___bytes_asciiSet__contains : EnvP := ⟨⟨tiOf tis, fnsOf [], cnsOf [], [], 10, (fun _ => none), (fun _ => none), some [4]⟩, fun _ => none, fun _ => none, fun _ => []⟩
noncomputable def C___bytes_asciiSet__contains : Code := Tryd.f108.body.getD .skip
noncomputable def R___bytes_asciiSet__contains : Array ResultVar := Tryd.f108.results
theorem __bytes_asciiSet__contains_ev (n : Nat) (as0 : List Bool) (c1 : UInt8) (o1 : Lab) : evFnP E___bytes_asciiSet__contains n C___bytes_asciiSet__contains R___bytes_asciiSet__contains [.adr (.arr 256 .bool) as0, .dat .byte c1 o1] = __bytes_asciiSet__contains_sh n as0 c1 := by
  kernel_rfl
theorem __bytes_asciiSet__contains_sound : SoundG G Tryd.prog 108 s___bytes_asciiSet__contains := by
  refine sound_of_evP' G_stays (E := E___bytes_asciiSet__contains) (fn := Tryd.f108) (c := C___bytes_asciiSet__contains) (tyOk_of_table rfl tis_ok) (fun w S hg => ⟨⟨fns_nil, fun f sp h => cns_nil f sp h w S⟩, gl_none w S hg⟩) follows Tryd.func108 (by kernel_rfl) (by kernel_rfl) (by kernel_rfl) ?_
  intro avs r h
  unfold s___bytes_asciiSet__contains at h
  split at h
  · simp only [Prod.mk.injEq, true_and] at h
    subst h
    obtain ⟨n, hn⟩ := __bytes_asciiSet__contains_math _ _
    exact ⟨n, _, (__bytes_asciiSet__contains_ev n _ _ _).trans hn, .inl rfl⟩
  · cases h

/-! bytes.IndexAny -/

noncomputable def E_bytes_IndexAny (m0 : Int) : EnvP := ⟨⟨tiOf tis, fnsOf [(92, s_bytes_makeASCIISet), (105, s_internal_bytealg_IndexByteString), (106, s_bytes_IndexRune), (107, s_bytes_shouldUseASCIISet), (108, s___bytes_asciiSet__contains), (109, s_unicode_utf8_DecodeRune), (110, (s_internal_bytealg_IndexString m0))], cnsOf [], [], 129, (fun x => if x = 7 then some [28] else if x = 24 then some [7, 60, 61, 62] else if x = 32 then some [0, 1, 12] else if x = 48 then some [0, 1, 11, 12, 13, 121] else none), (fun x => if x = 0 then some [] else if x = 1 then some [28] else if x = 2 then some [] else if x = 3 then some [7, 60, 61, 62] else if x = 4 then some [] else if x = 5 then some [0, 1, 11, 12] else if x = 6 then some [0, 1, 11, 12] else if x = 7 then some [0, 1, 11, 12, 13, 121] else none), some [4]⟩, fun _ => none, glm m0, (fun x => if x = 24 then [7] else [])⟩
noncomputable def C_bytes_IndexAny : Code := Tryd.f83.body.getD .skip
noncomputable def R_bytes_IndexAny : Array ResultVar := Tryd.f83.results
theorem bytes_IndexAny_l7_ok (m0 : Int) (K : Ex → Fr → Option AV) : ∀ (n : Nat) (s28 : List UInt8) (s28p : Nat), evLP (E_bytes_IndexAny m0) n (sub C_bytes_IndexAny [1, 1, 0, 1, 0, 1, 0, 1, 0, 0, 1, 0, 0]) K (frOf [(28, (.itr s28 s28p))]) = (bytes_IndexAny_l7 m0) (fun s4 => K .ret (frOf [(4, (.dat (.int .i64) s4 none))])) (K (.exit 0) (frOf [])) n s28 s28p := by
  intro n
  induction n with
  | zero => intros; rfl
  | succ n IH =>
  intro s28 s28p
  have ih : (fun s28 s28p => evLP (E_bytes_IndexAny m0) n (sub C_bytes_IndexAny [1, 1, 0, 1, 0, 1, 0, 1, 0, 0, 1, 0, 0]) K (frOf [(28, (.itr s28 s28p))])) = (bytes_IndexAny_l7 m0) (fun s4 => K .ret (frOf [(4, (.dat (.int .i64) s4 none))])) (K (.exit 0) (frOf [])) n := by
    funext s28 s28p
    exact IH s28 s28p
  show _ = (bytes_IndexAny_l7_b m0) (fun s4 => K .ret (frOf [(4, (.dat (.int .i64) s4 none))])) (K (.exit 0) (frOf [])) ((bytes_IndexAny_l7 m0) (fun s4 => K .ret (frOf [(4, (.dat (.int .i64) s4 none))])) (K (.exit 0) (frOf [])) n) n s28 s28p
  rw [← ih]
  kernel_rfl
theorem bytes_IndexAny_k7_0_ok (m0 : Int) (n : Nat)  : (kBlockP 0 ((E_bytes_IndexAny m0).cutb 0) (kSeq (evCP (E_bytes_IndexAny m0) (evLP (E_bytes_IndexAny m0) n) (sub C_bytes_IndexAny [1, 1, 0, 1, 0, 1, 0, 1, 0, 1])) (kSeq (evCP (E_bytes_IndexAny m0) (evLP (E_bytes_IndexAny m0) n) (sub C_bytes_IndexAny [1, 1, 0, 1, 0, 1, 1])) (kSeq (evCP (E_bytes_IndexAny m0) (evLP (E_bytes_IndexAny m0) n) (sub C_bytes_IndexAny [1, 1, 1])) (kFnP (E_bytes_IndexAny m0) R_bytes_IndexAny))))) (.exit 0) (frOf []) = (bytes_IndexAny_k7_0 m0) n  := by
  kernel_rfl
theorem bytes_IndexAny_l24_ok (m0 : Int) (K : Ex → Fr → Option AV) : ∀ (n : Nat) (as7 : List Bool) (s60 : List UInt8) (s61 : Int) (s62 : Int), evLP (E_bytes_IndexAny m0) n (sub C_bytes_IndexAny [1, 1, 1, 1, 0, 1, 0, 1, 1, 0, 0, 1, 0, 0]) K (frOf [(7, (.adr (.arr 256 .bool) as7)), (60, (.dat (.sl .byte) s60 none)), (61, (.dat (.int .i64) s61 none)), (62, (.dat (.int .i64) s62 none))]) = (bytes_IndexAny_l24 m0) (fun s4 => K .ret (frOf [(4, (.dat (.int .i64) s4 none))])) (K (.exit 2) (frOf [])) n as7 s60 s61 s62 := by
  intro n
  induction n with
  | zero => intros; rfl
  | succ n IH =>
  intro as7 s60 s61 s62
  have ih : (fun as7 s60 s61 s62 => evLP (E_bytes_IndexAny m0) n (sub C_bytes_IndexAny [1, 1, 1, 1, 0, 1, 0, 1, 1, 0, 0, 1, 0, 0]) K (frOf [(7, (.adr (.arr 256 .bool) as7)), (60, (.dat (.sl .byte) s60 none)), (61, (.dat (.int .i64) s61 none)), (62, (.dat (.int .i64) s62 none))])) = (bytes_IndexAny_l24 m0) (fun s4 => K .ret (frOf [(4, (.dat (.int .i64) s4 none))])) (K (.exit 2) (frOf [])) n := by
    funext as7 s60 s61 s62
    exact IH as7 s60 s61 s62
  show _ = (bytes_IndexAny_l24_b m0) (fun s4 => K .ret (frOf [(4, (.dat (.int .i64) s4 none))])) (K (.exit 2) (frOf [])) ((bytes_IndexAny_l24 m0) (fun s4 => K .ret (frOf [(4, (.dat (.int .i64) s4 none))])) (K (.exit 2) (frOf [])) n) n as7 s60 s61 s62
  rw [← ih]
  kernel_rfl
theorem bytes_IndexAny_k24_2_ok (m0 : Int) (n : Nat)  : (kBlockP 2 ((E_bytes_IndexAny m0).cutb 2) (kSeq (evCP (E_bytes_IndexAny m0) (evLP (E_bytes_IndexAny m0) n) (sub C_bytes_IndexAny [1, 1, 1, 1, 0, 1, 0, 1, 1, 0, 1])) (kSeq (evCP (E_bytes_IndexAny m0) (evLP (E_bytes_IndexAny m0) n) (sub C_bytes_IndexAny [1, 1, 1, 1, 1])) (kFnP (E_bytes_IndexAny m0) R_bytes_IndexAny)))) (.exit 2) (frOf []) = (bytes_IndexAny_k24_2 m0) n  := by
  kernel_rfl
theorem bytes_IndexAny_l48_ok (m0 : Int) (K : Ex → Fr → Option AV) : ∀ (n : Nat) (s0 : List UInt8) (chars1 : List UInt8) (width11 : Int) (i12 : Int) (r13 : Int) (s121 : List UInt8) (s121p : Nat), evLP (E_bytes_IndexAny m0) n (sub C_bytes_IndexAny [1, 1, 1, 1, 1, 1, 0, 1, 0, 0, 1, 0, 0, 1, 1, 1, 1, 1, 0, 0]) K (frOf [(0, (.dat (.sl .byte) s0 none)), (1, (.dat .str chars1 none)), (11, (.dat (.int .i64) width11 none)), (12, (.dat (.int .i64) i12 none)), (13, (.dat (.int .i32) r13 none)), (121, (.itr s121 s121p))]) = (bytes_IndexAny_l48 m0) (fun s4 => K .ret (frOf [(4, (.dat (.int .i64) s4 none))])) (fun s0 chars1 width11 i12 => K (.exit 6) (frOf [(0, (.dat (.sl .byte) s0 none)), (1, (.dat .str chars1 none)), (11, (.dat (.int .i64) width11 none)), (12, (.dat (.int .i64) i12 none))])) n s0 chars1 width11 i12 r13 s121 s121p := by
  intro n
  induction n with
  | zero => intros; rfl
  | succ n IH =>
  intro s0 chars1 width11 i12 r13 s121 s121p
  have ih : (fun s0 chars1 width11 i12 r13 s121 s121p => evLP (E_bytes_IndexAny m0) n (sub C_bytes_IndexAny [1, 1, 1, 1, 1, 1, 0, 1, 0, 0, 1, 0, 0, 1, 1, 1, 1, 1, 0, 0]) K (frOf [(0, (.dat (.sl .byte) s0 none)), (1, (.dat .str chars1 none)), (11, (.dat (.int .i64) width11 none)), (12, (.dat (.int .i64) i12 none)), (13, (.dat (.int .i32) r13 none)), (121, (.itr s121 s121p))])) = (bytes_IndexAny_l48 m0) (fun s4 => K .ret (frOf [(4, (.dat (.int .i64) s4 none))])) (fun s0 chars1 width11 i12 => K (.exit 6) (frOf [(0, (.dat (.sl .byte) s0 none)), (1, (.dat .str chars1 none)), (11, (.dat (.int .i64) width11 none)), (12, (.dat (.int .i64) i12 none))])) n := by
    funext s0 chars1 width11 i12 r13 s121 s121p
    exact IH s0 chars1 width11 i12 r13 s121 s121p
  show _ = (bytes_IndexAny_l48_b m0) (fun s4 => K .ret (frOf [(4, (.dat (.int .i64) s4 none))])) (fun s0 chars1 width11 i12 => K (.exit 6) (frOf [(0, (.dat (.sl .byte) s0 none)), (1, (.dat .str chars1 none)), (11, (.dat (.int .i64) width11 none)), (12, (.dat (.int .i64) i12 none))])) ((bytes_IndexAny_l48 m0) (fun s4 => K .ret (frOf [(4, (.dat (.int .i64) s4 none))])) (fun s0 chars1 width11 i12 => K (.exit 6) (frOf [(0, (.dat (.sl .byte) s0 none)), (1, (.dat .str chars1 none)), (11, (.dat (.int .i64) width11 none)), (12, (.dat (.int .i64) i12 none))])) n) n s0 chars1 width11 i12 r13 s121 s121p
  rw [← ih]
  kernel_rfl
theorem bytes_IndexAny_k48_6_ok (m0 : Int) (K : Ex → Fr → Option AV) (n : Nat) (s0 : List UInt8) (chars1 : List UInt8) (width11 : Int) (i12 : Int) : (kBlockP 6 ((E_bytes_IndexAny m0).cutb 6) (kBlockP 5 ((E_bytes_IndexAny m0).cutb 5) (kSeq (evCP (E_bytes_IndexAny m0) (evLP (E_bytes_IndexAny m0) n) (sub C_bytes_IndexAny [1, 1, 1, 1, 1, 1, 0, 1, 0, 0, 1, 1])) (kSeq (fun K fr => evLP (E_bytes_IndexAny m0) n (sub C_bytes_IndexAny [1, 1, 1, 1, 1, 1, 0, 1, 0, 0]) K (cutFP ((E_bytes_IndexAny m0).cuts 32) fr)) K)))) (.exit 6) (frOf [(0, (.dat (.sl .byte) s0 none)), (1, (.dat .str chars1 none)), (11, (.dat (.int .i64) width11 none)), (12, (.dat (.int .i64) i12 none))]) = (bytes_IndexAny_k48_6 m0) (fun s4 => K .ret (frOf [(4, (.dat (.int .i64) s4 none))])) (K (.exit 4) (frOf [])) (fun s0 chars1 i12 => evLP (E_bytes_IndexAny m0) n (sub C_bytes_IndexAny [1, 1, 1, 1, 1, 1, 0, 1, 0, 0]) K (frOf [(0, (.dat (.sl .byte) s0 none)), (1, (.dat .str chars1 none)), (12, (.dat (.int .i64) i12 none))])) n s0 chars1 width11 i12 := by
  kernel_rfl
theorem bytes_IndexAny_l32_ok (m0 : Int) (K : Ex → Fr → Option AV) : ∀ (n : Nat) (s0 : List UInt8) (chars1 : List UInt8) (i12 : Int), evLP (E_bytes_IndexAny m0) n (sub C_bytes_IndexAny [1, 1, 1, 1, 1, 1, 0, 1, 0, 0]) K (frOf [(0, (.dat (.sl .byte) s0 none)), (1, (.dat .str chars1 none)), (12, (.dat (.int .i64) i12 none))]) = (bytes_IndexAny_l32 m0) (fun s4 => K .ret (frOf [(4, (.dat (.int .i64) s4 none))])) (K (.exit 4) (frOf [])) n s0 chars1 i12 := by
  intro n
  induction n with
  | zero => intros; rfl
  | succ n IH =>
  intro s0 chars1 i12
  have ih : (fun s0 chars1 i12 => evLP (E_bytes_IndexAny m0) n (sub C_bytes_IndexAny [1, 1, 1, 1, 1, 1, 0, 1, 0, 0]) K (frOf [(0, (.dat (.sl .byte) s0 none)), (1, (.dat .str chars1 none)), (12, (.dat (.int .i64) i12 none))])) = (bytes_IndexAny_l32 m0) (fun s4 => K .ret (frOf [(4, (.dat (.int .i64) s4 none))])) (K (.exit 4) (frOf [])) n := by
    funext s0 chars1 i12
    exact IH s0 chars1 i12
  show _ = (bytes_IndexAny_l32_b m0) (fun s4 => K .ret (frOf [(4, (.dat (.int .i64) s4 none))])) (K (.exit 4) (frOf [])) ((bytes_IndexAny_l32 m0) (fun s4 => K .ret (frOf [(4, (.dat (.int .i64) s4 none))])) (K (.exit 4) (frOf [])) n) n s0 chars1 i12
  rw [← ih]
  unfold bytes_IndexAny_l32_b
  rw [show (bytes_IndexAny_l48 m0) (fun s4 => K .ret (frOf [(4, (.dat (.int .i64) s4 none))])) ((bytes_IndexAny_k48_6 m0) (fun s4 => K .ret (frOf [(4, (.dat (.int .i64) s4 none))])) (K (.exit 4) (frOf [])) (fun s0 chars1 i12 => evLP (E_bytes_IndexAny m0) n (sub C_bytes_IndexAny [1, 1, 1, 1, 1, 1, 0, 1, 0, 0]) K (frOf [(0, (.dat (.sl .byte) s0 none)), (1, (.dat .str chars1 none)), (12, (.dat (.int .i64) i12 none))])) n) n = (fun s0 chars1 width11 i12 r13 s121 s121p => evLP (E_bytes_IndexAny m0) n (sub C_bytes_IndexAny [1, 1, 1, 1, 1, 1, 0, 1, 0, 0, 1, 0, 0, 1, 1, 1, 1, 1, 0, 0]) (kBlockP 6 ((E_bytes_IndexAny m0).cutb 6) (kBlockP 5 ((E_bytes_IndexAny m0).cutb 5) (kSeq (evCP (E_bytes_IndexAny m0) (evLP (E_bytes_IndexAny m0) n) (sub C_bytes_IndexAny [1, 1, 1, 1, 1, 1, 0, 1, 0, 0, 1, 1])) (kSeq (fun K fr => evLP (E_bytes_IndexAny m0) n (sub C_bytes_IndexAny [1, 1, 1, 1, 1, 1, 0, 1, 0, 0]) K (cutFP ((E_bytes_IndexAny m0).cuts 32) fr)) K)))) (frOf [(0, (.dat (.sl .byte) s0 none)), (1, (.dat .str chars1 none)), (11, (.dat (.int .i64) width11 none)), (12, (.dat (.int .i64) i12 none)), (13, (.dat (.int .i32) r13 none)), (121, (.itr s121 s121p))])) from by
    funext s0 chars1 width11 i12 r13 s121 s121p
    refine Eq.trans ?_ ((bytes_IndexAny_l48_ok m0) (kBlockP 6 ((E_bytes_IndexAny m0).cutb 6) (kBlockP 5 ((E_bytes_IndexAny m0).cutb 5) (kSeq (evCP (E_bytes_IndexAny m0) (evLP (E_bytes_IndexAny m0) n) (sub C_bytes_IndexAny [1, 1, 1, 1, 1, 1, 0, 1, 0, 0, 1, 1])) (kSeq (fun K fr => evLP (E_bytes_IndexAny m0) n (sub C_bytes_IndexAny [1, 1, 1, 1, 1, 1, 0, 1, 0, 0]) K (cutFP ((E_bytes_IndexAny m0).cuts 32) fr)) K)))) n s0 chars1 width11 i12 r13 s121 s121p).symm
    rw [show (fun s0 chars1 width11 i12 => (kBlockP 6 ((E_bytes_IndexAny m0).cutb 6) (kBlockP 5 ((E_bytes_IndexAny m0).cutb 5) (kSeq (evCP (E_bytes_IndexAny m0) (evLP (E_bytes_IndexAny m0) n) (sub C_bytes_IndexAny [1, 1, 1, 1, 1, 1, 0, 1, 0, 0, 1, 1])) (kSeq (fun K fr => evLP (E_bytes_IndexAny m0) n (sub C_bytes_IndexAny [1, 1, 1, 1, 1, 1, 0, 1, 0, 0]) K (cutFP ((E_bytes_IndexAny m0).cuts 32) fr)) K)))) (.exit 6) (frOf [(0, (.dat (.sl .byte) s0 none)), (1, (.dat .str chars1 none)), (11, (.dat (.int .i64) width11 none)), (12, (.dat (.int .i64) i12 none))])) = ((bytes_IndexAny_k48_6 m0) (fun s4 => K .ret (frOf [(4, (.dat (.int .i64) s4 none))])) (K (.exit 4) (frOf [])) (fun s0 chars1 i12 => evLP (E_bytes_IndexAny m0) n (sub C_bytes_IndexAny [1, 1, 1, 1, 1, 1, 0, 1, 0, 0]) K (frOf [(0, (.dat (.sl .byte) s0 none)), (1, (.dat .str chars1 none)), (12, (.dat (.int .i64) i12 none))])) n) from by
      funext s0 chars1 width11 i12
      exact (bytes_IndexAny_k48_6_ok m0) K n s0 chars1 width11 i12]
    all_goals kernel_rfl]
  kernel_rfl
theorem bytes_IndexAny_k32_4_ok (m0 : Int) (n : Nat)  : (kBlockP 4 ((E_bytes_IndexAny m0).cutb 4) (kSeq (evCP (E_bytes_IndexAny m0) (evLP (E_bytes_IndexAny m0) n) (sub C_bytes_IndexAny [1, 1, 1, 1, 1, 1, 1])) (kFnP (E_bytes_IndexAny m0) R_bytes_IndexAny))) (.exit 4) (frOf []) = (bytes_IndexAny_k32_4 m0) n  := by
  kernel_rfl
theorem bytes_IndexAny_ev (m0 : Int) (n : Nat) (s0 : List UInt8) (o0 : Lab) (chars1 : List UInt8) (o1 : Lab) : evFnP (E_bytes_IndexAny m0) n C_bytes_IndexAny R_bytes_IndexAny [.dat (.sl .byte) s0 o0, .dat .str chars1 o1] = (bytes_IndexAny_sh m0) n s0 chars1 := by
  unfold bytes_IndexAny_sh
  rw [show (bytes_IndexAny_l7 m0) bytes_IndexAny_ret ((bytes_IndexAny_k7_0 m0) n) n = (fun s28 s28p => evLP (E_bytes_IndexAny m0) n (sub C_bytes_IndexAny [1, 1, 0, 1, 0, 1, 0, 1, 0, 0, 1, 0, 0]) (kBlockP 0 ((E_bytes_IndexAny m0).cutb 0) (kSeq (evCP (E_bytes_IndexAny m0) (evLP (E_bytes_IndexAny m0) n) (sub C_bytes_IndexAny [1, 1, 0, 1, 0, 1, 0, 1, 0, 1])) (kSeq (evCP (E_bytes_IndexAny m0) (evLP (E_bytes_IndexAny m0) n) (sub C_bytes_IndexAny [1, 1, 0, 1, 0, 1, 1])) (kSeq (evCP (E_bytes_IndexAny m0) (evLP (E_bytes_IndexAny m0) n) (sub C_bytes_IndexAny [1, 1, 1])) (kFnP (E_bytes_IndexAny m0) R_bytes_IndexAny))))) (frOf [(28, (.itr s28 s28p))])) from by
    funext s28 s28p
    refine Eq.trans ?_ ((bytes_IndexAny_l7_ok m0) (kBlockP 0 ((E_bytes_IndexAny m0).cutb 0) (kSeq (evCP (E_bytes_IndexAny m0) (evLP (E_bytes_IndexAny m0) n) (sub C_bytes_IndexAny [1, 1, 0, 1, 0, 1, 0, 1, 0, 1])) (kSeq (evCP (E_bytes_IndexAny m0) (evLP (E_bytes_IndexAny m0) n) (sub C_bytes_IndexAny [1, 1, 0, 1, 0, 1, 1])) (kSeq (evCP (E_bytes_IndexAny m0) (evLP (E_bytes_IndexAny m0) n) (sub C_bytes_IndexAny [1, 1, 1])) (kFnP (E_bytes_IndexAny m0) R_bytes_IndexAny))))) n s28 s28p).symm
    rw [show ((kBlockP 0 ((E_bytes_IndexAny m0).cutb 0) (kSeq (evCP (E_bytes_IndexAny m0) (evLP (E_bytes_IndexAny m0) n) (sub C_bytes_IndexAny [1, 1, 0, 1, 0, 1, 0, 1, 0, 1])) (kSeq (evCP (E_bytes_IndexAny m0) (evLP (E_bytes_IndexAny m0) n) (sub C_bytes_IndexAny [1, 1, 0, 1, 0, 1, 1])) (kSeq (evCP (E_bytes_IndexAny m0) (evLP (E_bytes_IndexAny m0) n) (sub C_bytes_IndexAny [1, 1, 1])) (kFnP (E_bytes_IndexAny m0) R_bytes_IndexAny))))) (.exit 0) (frOf [])) = ((bytes_IndexAny_k7_0 m0) n) from by
      exact (bytes_IndexAny_k7_0_ok m0) n ]
    all_goals kernel_rfl]
  rw [show (bytes_IndexAny_l24 m0) bytes_IndexAny_ret ((bytes_IndexAny_k24_2 m0) n) n = (fun as7 s60 s61 s62 => evLP (E_bytes_IndexAny m0) n (sub C_bytes_IndexAny [1, 1, 1, 1, 0, 1, 0, 1, 1, 0, 0, 1, 0, 0]) (kBlockP 2 ((E_bytes_IndexAny m0).cutb 2) (kSeq (evCP (E_bytes_IndexAny m0) (evLP (E_bytes_IndexAny m0) n) (sub C_bytes_IndexAny [1, 1, 1, 1, 0, 1, 0, 1, 1, 0, 1])) (kSeq (evCP (E_bytes_IndexAny m0) (evLP (E_bytes_IndexAny m0) n) (sub C_bytes_IndexAny [1, 1, 1, 1, 1])) (kFnP (E_bytes_IndexAny m0) R_bytes_IndexAny)))) (frOf [(7, (.adr (.arr 256 .bool) as7)), (60, (.dat (.sl .byte) s60 none)), (61, (.dat (.int .i64) s61 none)), (62, (.dat (.int .i64) s62 none))])) from by
    funext as7 s60 s61 s62
    refine Eq.trans ?_ ((bytes_IndexAny_l24_ok m0) (kBlockP 2 ((E_bytes_IndexAny m0).cutb 2) (kSeq (evCP (E_bytes_IndexAny m0) (evLP (E_bytes_IndexAny m0) n) (sub C_bytes_IndexAny [1, 1, 1, 1, 0, 1, 0, 1, 1, 0, 1])) (kSeq (evCP (E_bytes_IndexAny m0) (evLP (E_bytes_IndexAny m0) n) (sub C_bytes_IndexAny [1, 1, 1, 1, 1])) (kFnP (E_bytes_IndexAny m0) R_bytes_IndexAny)))) n as7 s60 s61 s62).symm
    rw [show ((kBlockP 2 ((E_bytes_IndexAny m0).cutb 2) (kSeq (evCP (E_bytes_IndexAny m0) (evLP (E_bytes_IndexAny m0) n) (sub C_bytes_IndexAny [1, 1, 1, 1, 0, 1, 0, 1, 1, 0, 1])) (kSeq (evCP (E_bytes_IndexAny m0) (evLP (E_bytes_IndexAny m0) n) (sub C_bytes_IndexAny [1, 1, 1, 1, 1])) (kFnP (E_bytes_IndexAny m0) R_bytes_IndexAny)))) (.exit 2) (frOf [])) = ((bytes_IndexAny_k24_2 m0) n) from by
      exact (bytes_IndexAny_k24_2_ok m0) n ]
    all_goals kernel_rfl]
  rw [show (bytes_IndexAny_l32 m0) bytes_IndexAny_ret ((bytes_IndexAny_k32_4 m0) n) n = (fun s0 chars1 i12 => evLP (E_bytes_IndexAny m0) n (sub C_bytes_IndexAny [1, 1, 1, 1, 1, 1, 0, 1, 0, 0]) (kBlockP 4 ((E_bytes_IndexAny m0).cutb 4) (kSeq (evCP (E_bytes_IndexAny m0) (evLP (E_bytes_IndexAny m0) n) (sub C_bytes_IndexAny [1, 1, 1, 1, 1, 1, 1])) (kFnP (E_bytes_IndexAny m0) R_bytes_IndexAny))) (frOf [(0, (.dat (.sl .byte) s0 none)), (1, (.dat .str chars1 none)), (12, (.dat (.int .i64) i12 none))])) from by
    funext s0 chars1 i12
    refine Eq.trans ?_ ((bytes_IndexAny_l32_ok m0) (kBlockP 4 ((E_bytes_IndexAny m0).cutb 4) (kSeq (evCP (E_bytes_IndexAny m0) (evLP (E_bytes_IndexAny m0) n) (sub C_bytes_IndexAny [1, 1, 1, 1, 1, 1, 1])) (kFnP (E_bytes_IndexAny m0) R_bytes_IndexAny))) n s0 chars1 i12).symm
    rw [show ((kBlockP 4 ((E_bytes_IndexAny m0).cutb 4) (kSeq (evCP (E_bytes_IndexAny m0) (evLP (E_bytes_IndexAny m0) n) (sub C_bytes_IndexAny [1, 1, 1, 1, 1, 1, 1])) (kFnP (E_bytes_IndexAny m0) R_bytes_IndexAny))) (.exit 4) (frOf [])) = ((bytes_IndexAny_k32_4 m0) n) from by
      exact (bytes_IndexAny_k32_4_ok m0) n ]
    all_goals kernel_rfl]
  kernel_rfl
theorem bytes_IndexAny_soundm (m0 : Int) : SoundG (Gm m0) Tryd.prog 83 s_bytes_IndexAny := by
  refine sound_of_evP' (Gm_stays m0) (E := E_bytes_IndexAny m0) (fn := Tryd.f83) (c := C_bytes_IndexAny) (tyOk_of_table rfl tis_ok) (fun w S hg => ⟨⟨(fns_cons (bytes_makeASCIISet_sound w S (G_of m0 hg)) (fns_cons (internal_bytealg_IndexByteString_sound w S (G_of m0 hg)) (fns_cons (bytes_IndexRune_sound w S (G_of m0 hg)) (fns_cons (bytes_shouldUseASCIISet_sound w S (G_of m0 hg)) (fns_cons (__bytes_asciiSet__contains_sound w S (G_of m0 hg)) (fns_cons (unicode_utf8_DecodeRune_sound w S (G_of m0 hg)) (fns_cons (internal_bytealg_IndexString_sound m0 w S hg) fns_nil))))))), fun f sp h => cns_nil f sp h w S⟩, hg.2⟩) follows Tryd.func83 (by kernel_rfl) (by kernel_rfl) (by kernel_rfl) ?_
  intro avs r h
  unfold s_bytes_IndexAny at h
  split at h
  · simp only [Prod.mk.injEq] at h
    obtain ⟨hp, rfl⟩ := h
    obtain ⟨n, hn⟩ := bytes_IndexAny_math m0 _ _ hp
    exact ⟨n, _, (bytes_IndexAny_ev m0 n _ _ _ _).trans hn, .inl rfl⟩
  · cases h
theorem bytes_IndexAny_sound : SoundG G Tryd.prog 83 s_bytes_IndexAny := fun w S hg => by obtain ⟨m, h⟩ := G_to hg; exact bytes_IndexAny_soundm m w S h

/-! bytes.ContainsAny -/

noncomputable def E_bytes_ContainsAny : EnvP := ⟨⟨tiOf tis, fnsOf [(83, s_bytes_IndexAny)], cnsOf [], [], 9, (fun _ => none), (fun _ => none), some [4]⟩, fun _ => none, fun _ => none, fun _ => []⟩
noncomputable def C_bytes_ContainsAny : Code := Tryd.f53.body.getD .skip
noncomputable def R_bytes_ContainsAny : Array ResultVar := Tryd.f53.results
theorem bytes_ContainsAny_ev (n : Nat) (b0 : List UInt8) (o0 : Lab) (chars1 : List UInt8) (o1 : Lab) : evFnP E_bytes_ContainsAny n C_bytes_ContainsAny R_bytes_ContainsAny [.dat (.sl .byte) b0 o0, .dat .str chars1 o1] = bytes_ContainsAny_sh n b0 chars1 := by
  kernel_rfl
theorem bytes_ContainsAny_sound : SoundG G Tryd.prog 53 s_bytes_ContainsAny := by
  refine sound_of_evP' G_stays (E := E_bytes_ContainsAny) (fn := Tryd.f53) (c := C_bytes_ContainsAny) (tyOk_of_table rfl tis_ok) (fun w S hg => ⟨⟨(fns_cons (bytes_IndexAny_sound w S hg) fns_nil), fun f sp h => cns_nil f sp h w S⟩, gl_none w S hg⟩) follows Tryd.func53 (by kernel_rfl) (by kernel_rfl) (by kernel_rfl) ?_
  intro avs r h
  unfold s_bytes_ContainsAny at h
  split at h
  · simp only [Prod.mk.injEq] at h
    obtain ⟨hp, rfl⟩ := h
    obtain ⟨n, hn⟩ := bytes_ContainsAny_math _ _ hp
    exact ⟨n, _, (bytes_ContainsAny_ev n _ _ _ _).trans hn, .inl rfl⟩
  · cases h

/-! sheave/fold.Right -/

noncomputable def E_fold_Right : EnvP := ⟨⟨tiOf tis, fnsOf [(16, s_fold_Unfold), (53, s_bytes_ContainsAny)], cnsOf [], [], 7, (fun _ => none), (fun _ => none), some [2]⟩, fun _ => none, fun _ => none, fun _ => []⟩
noncomputable def C_fold_Right : Code := Tryd.f18.body.getD .skip
noncomputable def R_fold_Right : Array ResultVar := Tryd.f18.results
theorem fold_Right_ev (n : Nat) (s0 : List UInt8) (o0 : Lab) : evFnP E_fold_Right n C_fold_Right R_fold_Right [.dat (.sl .byte) s0 o0] = fold_Right_sh n s0 := by
  kernel_rfl
theorem fold_Right_sound : SoundG G Tryd.prog 18 s_fold_Right := by
  refine sound_of_evP' G_stays (E := E_fold_Right) (fn := Tryd.f18) (c := C_fold_Right) (tyOk_of_table rfl tis_ok) (fun w S hg => ⟨⟨(fns_cons (fold_Unfold_sound w S hg) (fns_cons (bytes_ContainsAny_sound w S hg) fns_nil)), fun f sp h => cns_nil f sp h w S⟩, gl_none w S hg⟩) follows Tryd.func18 (by kernel_rfl) (by kernel_rfl) (by kernel_rfl) ?_
  intro avs r h
  unfold s_fold_Right at h
  split at h
  · simp only [Prod.mk.injEq] at h
    obtain ⟨hp, rfl⟩ := h
    obtain ⟨n, hn⟩ := fold_Right_math _ hp
    exact ⟨n, _, (fold_Right_ev n _ _).trans hn, .inl rfl⟩
  · cases h

/-! sheave/fold.check -/

noncomputable def E_fold_check : EnvP := ⟨⟨tiOf tis, fnsOf [], cnsOf [], [], 37, (fun x => if x = 4 then some [24, 25, 26] else none), (fun x => if x = 0 then some [] else if x = 1 then some [24, 25, 26] else none), some [6]⟩, fun _ => none, fun _ => none, fun _ => []⟩
noncomputable def C_fold_check : Code := Tryd.f54.body.getD .skip
noncomputable def R_fold_check : Array ResultVar := Tryd.f54.results
theorem fold_check_l4_ok (K : Ex → Fr → Option AV) : ∀ (n : Nat) (s24 : List UInt8) (s25 : Int) (s26 : Int), evLP E_fold_check n (sub C_fold_check [1, 1, 0, 1, 0, 0]) K (frOf [(24, (.dat (.sl .byte) s24 none)), (25, (.dat (.int .i64) s25 none)), (26, (.dat (.int .i64) s26 none))]) = fold_check_l4 (fun s6 => K .ret (frOf [(6, (.dat (.int .i64) s6 none))])) (K (.exit 0) (frOf [])) n s24 s25 s26 := by
  intro n
  induction n with
  | zero => intros; rfl
  | succ n IH =>
  intro s24 s25 s26
  have ih : (fun s24 s25 s26 => evLP E_fold_check n (sub C_fold_check [1, 1, 0, 1, 0, 0]) K (frOf [(24, (.dat (.sl .byte) s24 none)), (25, (.dat (.int .i64) s25 none)), (26, (.dat (.int .i64) s26 none))])) = fold_check_l4 (fun s6 => K .ret (frOf [(6, (.dat (.int .i64) s6 none))])) (K (.exit 0) (frOf [])) n := by
    funext s24 s25 s26
    exact IH s24 s25 s26
  show _ = fold_check_l4_b (fun s6 => K .ret (frOf [(6, (.dat (.int .i64) s6 none))])) (K (.exit 0) (frOf [])) (fold_check_l4 (fun s6 => K .ret (frOf [(6, (.dat (.int .i64) s6 none))])) (K (.exit 0) (frOf [])) n) n s24 s25 s26
  rw [← ih]
  kernel_rfl
theorem fold_check_k4_0_ok (n : Nat)  : (kBlockP 0 (E_fold_check.cutb 0) (kSeq (evCP E_fold_check (evLP E_fold_check n) (sub C_fold_check [1, 1, 1])) (kFnP E_fold_check R_fold_check))) (.exit 0) (frOf []) = fold_check_k4_0 n  := by
  kernel_rfl
theorem fold_check_ev (n : Nat) (s0 : List UInt8) (o0 : Lab) (first1 : Int) (o1 : Lab) (most2 : Int) (o2 : Lab) : evFnP E_fold_check n C_fold_check R_fold_check [.dat (.sl .byte) s0 o0, .dat (.int .i64) first1 o1, .dat (.int .i64) most2 o2] = fold_check_sh n s0 first1 most2 := by
  unfold fold_check_sh
  rw [show fold_check_l4 fold_check_ret (fold_check_k4_0 n) n = (fun s24 s25 s26 => evLP E_fold_check n (sub C_fold_check [1, 1, 0, 1, 0, 0]) (kBlockP 0 (E_fold_check.cutb 0) (kSeq (evCP E_fold_check (evLP E_fold_check n) (sub C_fold_check [1, 1, 1])) (kFnP E_fold_check R_fold_check))) (frOf [(24, (.dat (.sl .byte) s24 none)), (25, (.dat (.int .i64) s25 none)), (26, (.dat (.int .i64) s26 none))])) from by
    funext s24 s25 s26
    refine Eq.trans ?_ (fold_check_l4_ok (kBlockP 0 (E_fold_check.cutb 0) (kSeq (evCP E_fold_check (evLP E_fold_check n) (sub C_fold_check [1, 1, 1])) (kFnP E_fold_check R_fold_check))) n s24 s25 s26).symm
    rw [show ((kBlockP 0 (E_fold_check.cutb 0) (kSeq (evCP E_fold_check (evLP E_fold_check n) (sub C_fold_check [1, 1, 1])) (kFnP E_fold_check R_fold_check))) (.exit 0) (frOf [])) = (fold_check_k4_0 n) from by
      exact fold_check_k4_0_ok n ]
    all_goals kernel_rfl]
  kernel_rfl
theorem fold_check_sound : SoundG G Tryd.prog 54 s_fold_check := by
  refine sound_of_evP' G_stays (E := E_fold_check) (fn := Tryd.f54) (c := C_fold_check) (tyOk_of_table rfl tis_ok) (fun w S hg => ⟨⟨fns_nil, fun f sp h => cns_nil f sp h w S⟩, gl_none w S hg⟩) follows Tryd.func54 (by kernel_rfl) (by kernel_rfl) (by kernel_rfl) ?_
  intro avs r h
  unfold s_fold_check at h
  split at h
  · simp only [Prod.mk.injEq] at h
    obtain ⟨hp, rfl⟩ := h
    obtain ⟨n, hn⟩ := fold_check_math _ _ _ hp
    exact ⟨n, _, (fold_check_ev n _ _ _ _ _ _).trans hn, .inl rfl⟩
  · cases h

/-! sheave/lines.Join -/

noncomputable def E_lines_Join : EnvP := ⟨⟨tiOf tis, fnsOf [], cnsOf [], [], 18, (fun x => if x = 3 then some [3, 6, 7, 8] else none), (fun x => if x = 0 then some [3] else if x = 1 then some [3, 6, 7, 8] else none), some [2]⟩, fun _ => none, fun _ => none, fun _ => []⟩
noncomputable def C_lines_Join : Code := Tryd.f55.body.getD .skip
noncomputable def R_lines_Join : Array ResultVar := Tryd.f55.results
theorem lines_Join_l3_ok (K : Ex → Fr → Option AV) : ∀ (n : Nat) (out3 : List UInt8) (s6 : List (List UInt8)) (s7 : Int) (s8 : Int), evLP E_lines_Join n (sub C_lines_Join [1, 1, 0, 1, 0, 0]) K (frOf [(3, (.dat (.sl .byte) out3 (some (3, 5)))), (6, (.dat (.sl (.sl .byte)) s6 none)), (7, (.dat (.int .i64) s7 none)), (8, (.dat (.int .i64) s8 none))]) = lines_Join_l3 (fun out3 => K (.exit 0) (frOf [(3, (.dat (.sl .byte) out3 (some (3, 5))))])) n out3 s6 s7 s8 := by
  intro n
  induction n with
  | zero => intros; rfl
  | succ n IH =>
  intro out3 s6 s7 s8
  have ih : (fun out3 s6 s7 s8 => evLP E_lines_Join n (sub C_lines_Join [1, 1, 0, 1, 0, 0]) K (frOf [(3, (.dat (.sl .byte) out3 (some (3, 5)))), (6, (.dat (.sl (.sl .byte)) s6 none)), (7, (.dat (.int .i64) s7 none)), (8, (.dat (.int .i64) s8 none))])) = lines_Join_l3 (fun out3 => K (.exit 0) (frOf [(3, (.dat (.sl .byte) out3 (some (3, 5))))])) n := by
    funext out3 s6 s7 s8
    exact IH out3 s6 s7 s8
  show _ = lines_Join_l3_b (fun out3 => K (.exit 0) (frOf [(3, (.dat (.sl .byte) out3 (some (3, 5))))])) (lines_Join_l3 (fun out3 => K (.exit 0) (frOf [(3, (.dat (.sl .byte) out3 (some (3, 5))))])) n) n out3 s6 s7 s8
  rw [← ih]
  kernel_rfl
theorem lines_Join_k3_0_ok (n : Nat) (out3 : List UInt8) : (kBlockP 0 (E_lines_Join.cutb 0) (kSeq (evCP E_lines_Join (evLP E_lines_Join n) (sub C_lines_Join [1, 1, 1])) (kFnP E_lines_Join R_lines_Join))) (.exit 0) (frOf [(3, (.dat (.sl .byte) out3 (some (3, 5))))]) = lines_Join_k3_0 n out3 := by
  kernel_rfl
theorem lines_Join_ev (n : Nat) (l0 : List (List UInt8)) (o0 : Lab) : evFnP E_lines_Join n C_lines_Join R_lines_Join [.dat (.sl (.sl .byte)) l0 o0] = lines_Join_sh n l0 := by
  unfold lines_Join_sh
  rw [show lines_Join_l3 (lines_Join_k3_0 n) n = (fun out3 s6 s7 s8 => evLP E_lines_Join n (sub C_lines_Join [1, 1, 0, 1, 0, 0]) (kBlockP 0 (E_lines_Join.cutb 0) (kSeq (evCP E_lines_Join (evLP E_lines_Join n) (sub C_lines_Join [1, 1, 1])) (kFnP E_lines_Join R_lines_Join))) (frOf [(3, (.dat (.sl .byte) out3 (some (3, 5)))), (6, (.dat (.sl (.sl .byte)) s6 none)), (7, (.dat (.int .i64) s7 none)), (8, (.dat (.int .i64) s8 none))])) from by
    funext out3 s6 s7 s8
    refine Eq.trans ?_ (lines_Join_l3_ok (kBlockP 0 (E_lines_Join.cutb 0) (kSeq (evCP E_lines_Join (evLP E_lines_Join n) (sub C_lines_Join [1, 1, 1])) (kFnP E_lines_Join R_lines_Join))) n out3 s6 s7 s8).symm
    rw [show (fun out3 => (kBlockP 0 (E_lines_Join.cutb 0) (kSeq (evCP E_lines_Join (evLP E_lines_Join n) (sub C_lines_Join [1, 1, 1])) (kFnP E_lines_Join R_lines_Join))) (.exit 0) (frOf [(3, (.dat (.sl .byte) out3 (some (3, 5))))])) = (lines_Join_k3_0 n) from by
      funext out3
      exact lines_Join_k3_0_ok n out3]
    all_goals kernel_rfl]
  kernel_rfl
theorem lines_Join_sound : SoundG G Tryd.prog 55 s_lines_Join := by
  refine sound_of_evP' G_stays (E := E_lines_Join) (fn := Tryd.f55) (c := C_lines_Join) (tyOk_of_table rfl tis_ok) (fun w S hg => ⟨⟨fns_nil, fun f sp h => cns_nil f sp h w S⟩, gl_none w S hg⟩) follows Tryd.func55 (by kernel_rfl) (by kernel_rfl) (by kernel_rfl) ?_
  intro avs r h
  unfold s_lines_Join at h
  split at h
  · simp only [Prod.mk.injEq] at h
    obtain ⟨hp, rfl⟩ := h
    obtain ⟨n, hn⟩ := lines_Join_math _ hp
    exact ⟨n, _, (lines_Join_ev n _ _).trans hn, .inl rfl⟩
  · cases h

/-! sheave/fold.Fold -/

noncomputable def E_fold_Fold : EnvP := ⟨⟨tiOf tis, fnsOf [(54, s_fold_check), (55, s_lines_Join)], cnsOf [], [], 48, (fun x => if x = 6 then some [0, 2, 9, 10] else if x = 8 then some [0, 2, 9, 11] else none), (fun x => if x = 0 then some [0, 9] else if x = 1 then some [0, 2, 9, 10] else if x = 2 then some [] else if x = 3 then some [0, 2, 9, 11] else none), some [6, 7]⟩, fun _ => none, fun _ => none, fun _ => []⟩
noncomputable def C_fold_Fold : Code := Tryd.f20.body.getD .skip
noncomputable def R_fold_Fold : Array ResultVar := Tryd.f20.results
theorem fold_Fold_l8_ok (K : Ex → Fr → Option AV) : ∀ (n : Nat) (s0 : List UInt8) (most2 : Int) (l9 : List (List UInt8)) (at11 : Int), evLP E_fold_Fold n (sub C_fold_Fold [1, 0, 1, 1, 1, 1, 0, 0, 0, 1, 0, 0, 1, 0, 0]) K (frOf [(0, (.dat (.sl .byte) s0 none)), (2, (.dat (.int .i64) most2 none)), (9, (.dat (.sl (.sl .byte)) l9 (some (9, 22)))), (11, (.dat (.int .i64) at11 none))]) = fold_Fold_l8 (fun s0 most2 l9 room10 => K (.exit 1) (frOf [(0, (.dat (.sl .byte) s0 none)), (2, (.dat (.int .i64) most2 none)), (9, (.dat (.sl (.sl .byte)) l9 (some (9, 22)))), (10, (.dat (.int .i64) room10 none))])) (K (.exit 2) (frOf [])) n s0 most2 l9 at11 := by
  intro n
  induction n with
  | zero => intros; rfl
  | succ n IH =>
  intro s0 most2 l9 at11
  have ih : (fun s0 most2 l9 at11 => evLP E_fold_Fold n (sub C_fold_Fold [1, 0, 1, 1, 1, 1, 0, 0, 0, 1, 0, 0, 1, 0, 0]) K (frOf [(0, (.dat (.sl .byte) s0 none)), (2, (.dat (.int .i64) most2 none)), (9, (.dat (.sl (.sl .byte)) l9 (some (9, 22)))), (11, (.dat (.int .i64) at11 none))])) = fold_Fold_l8 (fun s0 most2 l9 room10 => K (.exit 1) (frOf [(0, (.dat (.sl .byte) s0 none)), (2, (.dat (.int .i64) most2 none)), (9, (.dat (.sl (.sl .byte)) l9 (some (9, 22)))), (10, (.dat (.int .i64) room10 none))])) (K (.exit 2) (frOf [])) n := by
    funext s0 most2 l9 at11
    exact IH s0 most2 l9 at11
  show _ = fold_Fold_l8_b (fun s0 most2 l9 room10 => K (.exit 1) (frOf [(0, (.dat (.sl .byte) s0 none)), (2, (.dat (.int .i64) most2 none)), (9, (.dat (.sl (.sl .byte)) l9 (some (9, 22)))), (10, (.dat (.int .i64) room10 none))])) (K (.exit 2) (frOf [])) (fold_Fold_l8 (fun s0 most2 l9 room10 => K (.exit 1) (frOf [(0, (.dat (.sl .byte) s0 none)), (2, (.dat (.int .i64) most2 none)), (9, (.dat (.sl (.sl .byte)) l9 (some (9, 22)))), (10, (.dat (.int .i64) room10 none))])) (K (.exit 2) (frOf [])) n) n s0 most2 l9 at11
  rw [← ih]
  kernel_rfl
theorem fold_Fold_k8_1_ok (K : Ex → Fr → Option AV) (n : Nat) (s0 : List UInt8) (most2 : Int) (l9 : List (List UInt8)) (room10 : Int) : (kBlockP 2 (E_fold_Fold.cutb 2) (kSeq (evCP E_fold_Fold (evLP E_fold_Fold n) (sub C_fold_Fold [1, 0, 1, 1, 1, 1, 0, 0, 0, 1, 0, 1])) (kBlockP 1 (E_fold_Fold.cutb 1) (kSeq (fun K fr => evLP E_fold_Fold n (sub C_fold_Fold [1, 0, 1, 1, 1, 1, 0, 0, 0]) K (cutFP (E_fold_Fold.cuts 6) fr)) K)))) (.exit 1) (frOf [(0, (.dat (.sl .byte) s0 none)), (2, (.dat (.int .i64) most2 none)), (9, (.dat (.sl (.sl .byte)) l9 (some (9, 22)))), (10, (.dat (.int .i64) room10 none))]) = fold_Fold_k8_1 (fun s6 s7 => K .ret (frOf [(6, (.dat (.sl .byte) s6 (some (6, 5)))), (7, (.dat (.int .i64) s7 none))])) (fun s0 l9 => K (.exit 0) (frOf [(0, (.dat (.sl .byte) s0 none)), (9, (.dat (.sl (.sl .byte)) l9 (some (9, 22))))])) (fun s0 most2 l9 room10 => evLP E_fold_Fold n (sub C_fold_Fold [1, 0, 1, 1, 1, 1, 0, 0, 0]) K (frOf [(0, (.dat (.sl .byte) s0 none)), (2, (.dat (.int .i64) most2 none)), (9, (.dat (.sl (.sl .byte)) l9 (some (9, 22)))), (10, (.dat (.int .i64) room10 none))])) n s0 most2 l9 room10 := by
  kernel_rfl
theorem fold_Fold_k8_2_ok (K : Ex → Fr → Option AV) (n : Nat)  : (kBlockP 2 (E_fold_Fold.cutb 2) (kSeq (evCP E_fold_Fold (evLP E_fold_Fold n) (sub C_fold_Fold [1, 0, 1, 1, 1, 1, 0, 0, 0, 1, 0, 1])) (kBlockP 1 (E_fold_Fold.cutb 1) (kSeq (fun K fr => evLP E_fold_Fold n (sub C_fold_Fold [1, 0, 1, 1, 1, 1, 0, 0, 0]) K (cutFP (E_fold_Fold.cuts 6) fr)) K)))) (.exit 2) (frOf []) = fold_Fold_k8_2 (fun s6 s7 => K .ret (frOf [(6, (.dat (.sl .byte) s6 (some (6, 5)))), (7, (.dat (.int .i64) s7 none))])) (fun s0 l9 => K (.exit 0) (frOf [(0, (.dat (.sl .byte) s0 none)), (9, (.dat (.sl (.sl .byte)) l9 (some (9, 22))))])) (fun s0 most2 l9 room10 => evLP E_fold_Fold n (sub C_fold_Fold [1, 0, 1, 1, 1, 1, 0, 0, 0]) K (frOf [(0, (.dat (.sl .byte) s0 none)), (2, (.dat (.int .i64) most2 none)), (9, (.dat (.sl (.sl .byte)) l9 (some (9, 22)))), (10, (.dat (.int .i64) room10 none))])) n  := by
  kernel_rfl
theorem fold_Fold_l6_ok (K : Ex → Fr → Option AV) : ∀ (n : Nat) (s0 : List UInt8) (most2 : Int) (l9 : List (List UInt8)) (room10 : Int), evLP E_fold_Fold n (sub C_fold_Fold [1, 0, 1, 1, 1, 1, 0, 0, 0]) K (frOf [(0, (.dat (.sl .byte) s0 none)), (2, (.dat (.int .i64) most2 none)), (9, (.dat (.sl (.sl .byte)) l9 (some (9, 22)))), (10, (.dat (.int .i64) room10 none))]) = fold_Fold_l6 (fun s6 s7 => K .ret (frOf [(6, (.dat (.sl .byte) s6 (some (6, 5)))), (7, (.dat (.int .i64) s7 none))])) (fun s0 l9 => K (.exit 0) (frOf [(0, (.dat (.sl .byte) s0 none)), (9, (.dat (.sl (.sl .byte)) l9 (some (9, 22))))])) n s0 most2 l9 room10 := by
  intro n
  induction n with
  | zero => intros; rfl
  | succ n IH =>
  intro s0 most2 l9 room10
  have ih : (fun s0 most2 l9 room10 => evLP E_fold_Fold n (sub C_fold_Fold [1, 0, 1, 1, 1, 1, 0, 0, 0]) K (frOf [(0, (.dat (.sl .byte) s0 none)), (2, (.dat (.int .i64) most2 none)), (9, (.dat (.sl (.sl .byte)) l9 (some (9, 22)))), (10, (.dat (.int .i64) room10 none))])) = fold_Fold_l6 (fun s6 s7 => K .ret (frOf [(6, (.dat (.sl .byte) s6 (some (6, 5)))), (7, (.dat (.int .i64) s7 none))])) (fun s0 l9 => K (.exit 0) (frOf [(0, (.dat (.sl .byte) s0 none)), (9, (.dat (.sl (.sl .byte)) l9 (some (9, 22))))])) n := by
    funext s0 most2 l9 room10
    exact IH s0 most2 l9 room10
  show _ = fold_Fold_l6_b (fun s6 s7 => K .ret (frOf [(6, (.dat (.sl .byte) s6 (some (6, 5)))), (7, (.dat (.int .i64) s7 none))])) (fun s0 l9 => K (.exit 0) (frOf [(0, (.dat (.sl .byte) s0 none)), (9, (.dat (.sl (.sl .byte)) l9 (some (9, 22))))])) (fold_Fold_l6 (fun s6 s7 => K .ret (frOf [(6, (.dat (.sl .byte) s6 (some (6, 5)))), (7, (.dat (.int .i64) s7 none))])) (fun s0 l9 => K (.exit 0) (frOf [(0, (.dat (.sl .byte) s0 none)), (9, (.dat (.sl (.sl .byte)) l9 (some (9, 22))))])) n) n s0 most2 l9 room10
  rw [← ih]
  unfold fold_Fold_l6_b
  rw [show fold_Fold_l8 (fold_Fold_k8_1 (fun s6 s7 => K .ret (frOf [(6, (.dat (.sl .byte) s6 (some (6, 5)))), (7, (.dat (.int .i64) s7 none))])) (fun s0 l9 => K (.exit 0) (frOf [(0, (.dat (.sl .byte) s0 none)), (9, (.dat (.sl (.sl .byte)) l9 (some (9, 22))))])) (fun s0 most2 l9 room10 => evLP E_fold_Fold n (sub C_fold_Fold [1, 0, 1, 1, 1, 1, 0, 0, 0]) K (frOf [(0, (.dat (.sl .byte) s0 none)), (2, (.dat (.int .i64) most2 none)), (9, (.dat (.sl (.sl .byte)) l9 (some (9, 22)))), (10, (.dat (.int .i64) room10 none))])) n) (fold_Fold_k8_2 (fun s6 s7 => K .ret (frOf [(6, (.dat (.sl .byte) s6 (some (6, 5)))), (7, (.dat (.int .i64) s7 none))])) (fun s0 l9 => K (.exit 0) (frOf [(0, (.dat (.sl .byte) s0 none)), (9, (.dat (.sl (.sl .byte)) l9 (some (9, 22))))])) (fun s0 most2 l9 room10 => evLP E_fold_Fold n (sub C_fold_Fold [1, 0, 1, 1, 1, 1, 0, 0, 0]) K (frOf [(0, (.dat (.sl .byte) s0 none)), (2, (.dat (.int .i64) most2 none)), (9, (.dat (.sl (.sl .byte)) l9 (some (9, 22)))), (10, (.dat (.int .i64) room10 none))])) n) n = (fun s0 most2 l9 at11 => evLP E_fold_Fold n (sub C_fold_Fold [1, 0, 1, 1, 1, 1, 0, 0, 0, 1, 0, 0, 1, 0, 0]) (kBlockP 2 (E_fold_Fold.cutb 2) (kSeq (evCP E_fold_Fold (evLP E_fold_Fold n) (sub C_fold_Fold [1, 0, 1, 1, 1, 1, 0, 0, 0, 1, 0, 1])) (kBlockP 1 (E_fold_Fold.cutb 1) (kSeq (fun K fr => evLP E_fold_Fold n (sub C_fold_Fold [1, 0, 1, 1, 1, 1, 0, 0, 0]) K (cutFP (E_fold_Fold.cuts 6) fr)) K)))) (frOf [(0, (.dat (.sl .byte) s0 none)), (2, (.dat (.int .i64) most2 none)), (9, (.dat (.sl (.sl .byte)) l9 (some (9, 22)))), (11, (.dat (.int .i64) at11 none))])) from by
    funext s0 most2 l9 at11
    refine Eq.trans ?_ (fold_Fold_l8_ok (kBlockP 2 (E_fold_Fold.cutb 2) (kSeq (evCP E_fold_Fold (evLP E_fold_Fold n) (sub C_fold_Fold [1, 0, 1, 1, 1, 1, 0, 0, 0, 1, 0, 1])) (kBlockP 1 (E_fold_Fold.cutb 1) (kSeq (fun K fr => evLP E_fold_Fold n (sub C_fold_Fold [1, 0, 1, 1, 1, 1, 0, 0, 0]) K (cutFP (E_fold_Fold.cuts 6) fr)) K)))) n s0 most2 l9 at11).symm
    rw [show (fun s0 most2 l9 room10 => (kBlockP 2 (E_fold_Fold.cutb 2) (kSeq (evCP E_fold_Fold (evLP E_fold_Fold n) (sub C_fold_Fold [1, 0, 1, 1, 1, 1, 0, 0, 0, 1, 0, 1])) (kBlockP 1 (E_fold_Fold.cutb 1) (kSeq (fun K fr => evLP E_fold_Fold n (sub C_fold_Fold [1, 0, 1, 1, 1, 1, 0, 0, 0]) K (cutFP (E_fold_Fold.cuts 6) fr)) K)))) (.exit 1) (frOf [(0, (.dat (.sl .byte) s0 none)), (2, (.dat (.int .i64) most2 none)), (9, (.dat (.sl (.sl .byte)) l9 (some (9, 22)))), (10, (.dat (.int .i64) room10 none))])) = (fold_Fold_k8_1 (fun s6 s7 => K .ret (frOf [(6, (.dat (.sl .byte) s6 (some (6, 5)))), (7, (.dat (.int .i64) s7 none))])) (fun s0 l9 => K (.exit 0) (frOf [(0, (.dat (.sl .byte) s0 none)), (9, (.dat (.sl (.sl .byte)) l9 (some (9, 22))))])) (fun s0 most2 l9 room10 => evLP E_fold_Fold n (sub C_fold_Fold [1, 0, 1, 1, 1, 1, 0, 0, 0]) K (frOf [(0, (.dat (.sl .byte) s0 none)), (2, (.dat (.int .i64) most2 none)), (9, (.dat (.sl (.sl .byte)) l9 (some (9, 22)))), (10, (.dat (.int .i64) room10 none))])) n) from by
      funext s0 most2 l9 room10
      exact fold_Fold_k8_1_ok K n s0 most2 l9 room10]
    rw [show ((kBlockP 2 (E_fold_Fold.cutb 2) (kSeq (evCP E_fold_Fold (evLP E_fold_Fold n) (sub C_fold_Fold [1, 0, 1, 1, 1, 1, 0, 0, 0, 1, 0, 1])) (kBlockP 1 (E_fold_Fold.cutb 1) (kSeq (fun K fr => evLP E_fold_Fold n (sub C_fold_Fold [1, 0, 1, 1, 1, 1, 0, 0, 0]) K (cutFP (E_fold_Fold.cuts 6) fr)) K)))) (.exit 2) (frOf [])) = (fold_Fold_k8_2 (fun s6 s7 => K .ret (frOf [(6, (.dat (.sl .byte) s6 (some (6, 5)))), (7, (.dat (.int .i64) s7 none))])) (fun s0 l9 => K (.exit 0) (frOf [(0, (.dat (.sl .byte) s0 none)), (9, (.dat (.sl (.sl .byte)) l9 (some (9, 22))))])) (fun s0 most2 l9 room10 => evLP E_fold_Fold n (sub C_fold_Fold [1, 0, 1, 1, 1, 1, 0, 0, 0]) K (frOf [(0, (.dat (.sl .byte) s0 none)), (2, (.dat (.int .i64) most2 none)), (9, (.dat (.sl (.sl .byte)) l9 (some (9, 22)))), (10, (.dat (.int .i64) room10 none))])) n) from by
      exact fold_Fold_k8_2_ok K n ]
    all_goals kernel_rfl]
  kernel_rfl
theorem fold_Fold_k6_0_ok (n : Nat) (s0 : List UInt8) (l9 : List (List UInt8)) : (kBlockP 0 (E_fold_Fold.cutb 0) (kSeq (evCP E_fold_Fold (evLP E_fold_Fold n) (sub C_fold_Fold [1, 0, 1, 1, 1, 1, 1])) (kFnP E_fold_Fold R_fold_Fold))) (.exit 0) (frOf [(0, (.dat (.sl .byte) s0 none)), (9, (.dat (.sl (.sl .byte)) l9 (some (9, 22))))]) = fold_Fold_k6_0 n s0 l9 := by
  kernel_rfl
theorem fold_Fold_ev (n : Nat) (s0 : List UInt8) (o0 : Lab) (first1 : Int) (o1 : Lab) (most2 : Int) (o2 : Lab) : evFnP E_fold_Fold n C_fold_Fold R_fold_Fold [.dat (.sl .byte) s0 o0, .dat (.int .i64) first1 o1, .dat (.int .i64) most2 o2] = fold_Fold_sh n s0 first1 most2 := by
  unfold fold_Fold_sh
  rw [show fold_Fold_l6 fold_Fold_ret (fold_Fold_k6_0 n) n = (fun s0 most2 l9 room10 => evLP E_fold_Fold n (sub C_fold_Fold [1, 0, 1, 1, 1, 1, 0, 0, 0]) (kBlockP 0 (E_fold_Fold.cutb 0) (kSeq (evCP E_fold_Fold (evLP E_fold_Fold n) (sub C_fold_Fold [1, 0, 1, 1, 1, 1, 1])) (kFnP E_fold_Fold R_fold_Fold))) (frOf [(0, (.dat (.sl .byte) s0 none)), (2, (.dat (.int .i64) most2 none)), (9, (.dat (.sl (.sl .byte)) l9 (some (9, 22)))), (10, (.dat (.int .i64) room10 none))])) from by
    funext s0 most2 l9 room10
    refine Eq.trans ?_ (fold_Fold_l6_ok (kBlockP 0 (E_fold_Fold.cutb 0) (kSeq (evCP E_fold_Fold (evLP E_fold_Fold n) (sub C_fold_Fold [1, 0, 1, 1, 1, 1, 1])) (kFnP E_fold_Fold R_fold_Fold))) n s0 most2 l9 room10).symm
    rw [show (fun s0 l9 => (kBlockP 0 (E_fold_Fold.cutb 0) (kSeq (evCP E_fold_Fold (evLP E_fold_Fold n) (sub C_fold_Fold [1, 0, 1, 1, 1, 1, 1])) (kFnP E_fold_Fold R_fold_Fold))) (.exit 0) (frOf [(0, (.dat (.sl .byte) s0 none)), (9, (.dat (.sl (.sl .byte)) l9 (some (9, 22))))])) = (fold_Fold_k6_0 n) from by
      funext s0 l9
      exact fold_Fold_k6_0_ok n s0 l9]
    all_goals kernel_rfl]
  kernel_rfl
theorem fold_Fold_sound : SoundG G Tryd.prog 20 s_fold_Fold := by
  refine sound_of_evP' G_stays (E := E_fold_Fold) (fn := Tryd.f20) (c := C_fold_Fold) (tyOk_of_table rfl tis_ok) (fun w S hg => ⟨⟨(fns_cons (fold_check_sound w S hg) (fns_cons (lines_Join_sound w S hg) fns_nil)), fun f sp h => cns_nil f sp h w S⟩, gl_none w S hg⟩) follows Tryd.func20 (by kernel_rfl) (by kernel_rfl) (by kernel_rfl) ?_
  intro avs r h
  unfold s_fold_Fold at h
  split at h
  · simp only [Prod.mk.injEq] at h
    obtain ⟨hp, rfl⟩ := h
    obtain ⟨n, hn⟩ := fold_Fold_math _ _ _ hp
    exact ⟨n, _, (fold_Fold_ev n _ _ _ _ _ _).trans hn, .inl rfl⟩
  · cases h

/-! sheave/sheavelaw27.alive -/

noncomputable def E_law27_alive : EnvP := ⟨⟨tiOf tis, fnsOf [(16, s_fold_Unfold), (17, s_fold_Folds), (18, s_fold_Right), (20, s_fold_Fold)], cnsOf [], [], 49, (fun _ => none), (fun _ => none), some [0]⟩, fun _ => none, fun _ => none, fun _ => []⟩
noncomputable def C_law27_alive : Code := Tryd.f13.body.getD .skip
noncomputable def R_law27_alive : Array ResultVar := Tryd.f13.results
theorem law27_alive_ev (n : Nat)  : evFnP E_law27_alive n C_law27_alive R_law27_alive [] = law27_alive_sh n  := by
  kernel_rfl
theorem law27_alive_sound : SoundG G Tryd.prog 13 s_law27_alive := by
  refine sound_of_evP' G_stays (E := E_law27_alive) (fn := Tryd.f13) (c := C_law27_alive) (tyOk_of_table rfl tis_ok) (fun w S hg => ⟨⟨(fns_cons (fold_Unfold_sound w S hg) (fns_cons (fold_Folds_sound w S hg) (fns_cons (fold_Right_sound w S hg) (fns_cons (fold_Fold_sound w S hg) fns_nil)))), fun f sp h => cns_nil f sp h w S⟩, gl_none w S hg⟩) follows Tryd.func13 (by kernel_rfl) (by kernel_rfl) (by kernel_rfl) ?_
  intro avs r h
  unfold s_law27_alive at h
  split at h
  · simp only [Prod.mk.injEq, true_and] at h
    subst h
    obtain ⟨n, hn⟩ := law27_alive_math 
    exact ⟨n, _, (law27_alive_ev n ).trans hn, .inl rfl⟩
  · cases h

/-! sheave/sheaveref27.folds -/

noncomputable def E_ref27_folds : EnvP := ⟨⟨tiOf tis, fnsOf [], cnsOf [], [], 41, (fun _ => none), (fun _ => none), some [4]⟩, fun _ => none, fun _ => none, fun _ => []⟩
noncomputable def C_ref27_folds : Code := Tryd.f50.body.getD .skip
noncomputable def R_ref27_folds : Array ResultVar := Tryd.f50.results
theorem ref27_folds_ev (n : Nat) (s0 : List UInt8) (o0 : Lab) (i1 : Int) (o1 : Lab) : evFnP E_ref27_folds n C_ref27_folds R_ref27_folds [.dat (.sl .byte) s0 o0, .dat (.int .i64) i1 o1] = ref27_folds_sh n s0 i1 := by
  kernel_rfl
theorem ref27_folds_sound : SoundG G Tryd.prog 50 s_ref27_folds := by
  refine sound_of_evP' G_stays (E := E_ref27_folds) (fn := Tryd.f50) (c := C_ref27_folds) (tyOk_of_table rfl tis_ok) (fun w S hg => ⟨⟨fns_nil, fun f sp h => cns_nil f sp h w S⟩, gl_none w S hg⟩) follows Tryd.func50 (by kernel_rfl) (by kernel_rfl) (by kernel_rfl) ?_
  intro avs r h
  unfold s_ref27_folds at h
  split at h
  · simp only [Prod.mk.injEq] at h
    obtain ⟨hp, rfl⟩ := h
    obtain ⟨n, hn⟩ := ref27_folds_math _ _ hp
    exact ⟨n, _, (ref27_folds_ev n _ _ _ _).trans hn, .inl rfl⟩
  · cases h

/-! sheave/sheaveref27.Unfold -/

noncomputable def E_ref27_Unfold : EnvP := ⟨⟨tiOf tis, fnsOf [(50, s_ref27_folds)], cnsOf [], [], 29, (fun x => if x = 4 then some [0, 4, 5, 6] else none), (fun x => if x = 0 then some [4, 5] else if x = 1 then some [0, 4, 5, 6] else none), some [2, 3]⟩, fun _ => none, fun _ => none, fun _ => []⟩
noncomputable def C_ref27_Unfold : Code := Tryd.f14.body.getD .skip
noncomputable def R_ref27_Unfold : Array ResultVar := Tryd.f14.results
theorem ref27_Unfold_l4_ok (K : Ex → Fr → Option AV) : ∀ (n : Nat) (s0 : List UInt8) (out4 : List UInt8) (n5 : Int) (i6 : Int), evLP E_ref27_Unfold n (sub C_ref27_Unfold [1, 1, 1, 0, 1, 0, 0]) K (frOf [(0, (.dat (.sl .byte) s0 none)), (4, (.dat (.sl .byte) out4 (some (4, 5)))), (5, (.dat (.int .i64) n5 none)), (6, (.dat (.int .i64) i6 none))]) = ref27_Unfold_l4 (fun out4 n5 => K (.exit 0) (frOf [(4, (.dat (.sl .byte) out4 (some (4, 5)))), (5, (.dat (.int .i64) n5 none))])) n s0 out4 n5 i6 := by
  intro n
  induction n with
  | zero => intros; rfl
  | succ n IH =>
  intro s0 out4 n5 i6
  have ih : (fun s0 out4 n5 i6 => evLP E_ref27_Unfold n (sub C_ref27_Unfold [1, 1, 1, 0, 1, 0, 0]) K (frOf [(0, (.dat (.sl .byte) s0 none)), (4, (.dat (.sl .byte) out4 (some (4, 5)))), (5, (.dat (.int .i64) n5 none)), (6, (.dat (.int .i64) i6 none))])) = ref27_Unfold_l4 (fun out4 n5 => K (.exit 0) (frOf [(4, (.dat (.sl .byte) out4 (some (4, 5)))), (5, (.dat (.int .i64) n5 none))])) n := by
    funext s0 out4 n5 i6
    exact IH s0 out4 n5 i6
  show _ = ref27_Unfold_l4_b (fun out4 n5 => K (.exit 0) (frOf [(4, (.dat (.sl .byte) out4 (some (4, 5)))), (5, (.dat (.int .i64) n5 none))])) (ref27_Unfold_l4 (fun out4 n5 => K (.exit 0) (frOf [(4, (.dat (.sl .byte) out4 (some (4, 5)))), (5, (.dat (.int .i64) n5 none))])) n) n s0 out4 n5 i6
  rw [← ih]
  kernel_rfl
theorem ref27_Unfold_k4_0_ok (n : Nat) (out4 : List UInt8) (n5 : Int) : (kBlockP 0 (E_ref27_Unfold.cutb 0) (kSeq (evCP E_ref27_Unfold (evLP E_ref27_Unfold n) (sub C_ref27_Unfold [1, 1, 1, 1])) (kFnP E_ref27_Unfold R_ref27_Unfold))) (.exit 0) (frOf [(4, (.dat (.sl .byte) out4 (some (4, 5)))), (5, (.dat (.int .i64) n5 none))]) = ref27_Unfold_k4_0 n out4 n5 := by
  kernel_rfl
theorem ref27_Unfold_ev (n : Nat) (s0 : List UInt8) (o0 : Lab) : evFnP E_ref27_Unfold n C_ref27_Unfold R_ref27_Unfold [.dat (.sl .byte) s0 o0] = ref27_Unfold_sh n s0 := by
  unfold ref27_Unfold_sh
  rw [show ref27_Unfold_l4 (ref27_Unfold_k4_0 n) n = (fun s0 out4 n5 i6 => evLP E_ref27_Unfold n (sub C_ref27_Unfold [1, 1, 1, 0, 1, 0, 0]) (kBlockP 0 (E_ref27_Unfold.cutb 0) (kSeq (evCP E_ref27_Unfold (evLP E_ref27_Unfold n) (sub C_ref27_Unfold [1, 1, 1, 1])) (kFnP E_ref27_Unfold R_ref27_Unfold))) (frOf [(0, (.dat (.sl .byte) s0 none)), (4, (.dat (.sl .byte) out4 (some (4, 5)))), (5, (.dat (.int .i64) n5 none)), (6, (.dat (.int .i64) i6 none))])) from by
    funext s0 out4 n5 i6
    refine Eq.trans ?_ (ref27_Unfold_l4_ok (kBlockP 0 (E_ref27_Unfold.cutb 0) (kSeq (evCP E_ref27_Unfold (evLP E_ref27_Unfold n) (sub C_ref27_Unfold [1, 1, 1, 1])) (kFnP E_ref27_Unfold R_ref27_Unfold))) n s0 out4 n5 i6).symm
    rw [show (fun out4 n5 => (kBlockP 0 (E_ref27_Unfold.cutb 0) (kSeq (evCP E_ref27_Unfold (evLP E_ref27_Unfold n) (sub C_ref27_Unfold [1, 1, 1, 1])) (kFnP E_ref27_Unfold R_ref27_Unfold))) (.exit 0) (frOf [(4, (.dat (.sl .byte) out4 (some (4, 5)))), (5, (.dat (.int .i64) n5 none))])) = (ref27_Unfold_k4_0 n) from by
      funext out4 n5
      exact ref27_Unfold_k4_0_ok n out4 n5]
    all_goals kernel_rfl]
  kernel_rfl
theorem ref27_Unfold_sound : SoundG G Tryd.prog 14 s_ref27_Unfold := by
  refine sound_of_evP' G_stays (E := E_ref27_Unfold) (fn := Tryd.f14) (c := C_ref27_Unfold) (tyOk_of_table rfl tis_ok) (fun w S hg => ⟨⟨(fns_cons (ref27_folds_sound w S hg) fns_nil), fun f sp h => cns_nil f sp h w S⟩, gl_none w S hg⟩) follows Tryd.func14 (by kernel_rfl) (by kernel_rfl) (by kernel_rfl) ?_
  intro avs r h
  unfold s_ref27_Unfold at h
  split at h
  · simp only [Prod.mk.injEq] at h
    obtain ⟨hp, rfl⟩ := h
    obtain ⟨n, hn⟩ := ref27_Unfold_math _ hp
    exact ⟨n, _, (ref27_Unfold_ev n _ _).trans hn, .inl rfl⟩
  · cases h

/-! sheave/sheaveref01.Like -/

noncomputable def E_ref01_Like : EnvP := ⟨⟨tiOf tis, fnsOf [], cnsOf [], [], 26, (fun x => if x = 4 then some [0, 1, 5] else none), (fun x => if x = 0 then some [] else if x = 1 then some [0, 1, 5] else none), some [4]⟩, fun _ => none, fun _ => none, fun _ => []⟩
noncomputable def C_ref01_Like : Code := Tryd.f15.body.getD .skip
noncomputable def R_ref01_Like : Array ResultVar := Tryd.f15.results
theorem ref01_Like_l4_ok (K : Ex → Fr → Option AV) : ∀ (n : Nat) (a0 : List UInt8) (b1 : List UInt8) (i5 : Int), evLP E_ref01_Like n (sub C_ref01_Like [1, 1, 0, 1, 0, 0]) K (frOf [(0, (.dat (.sl .byte) a0 none)), (1, (.dat (.sl .byte) b1 none)), (5, (.dat (.int .i64) i5 none))]) = ref01_Like_l4 (fun s4 => K .ret (frOf [(4, (.dat .bool s4 none))])) (K (.exit 0) (frOf [])) n a0 b1 i5 := by
  intro n
  induction n with
  | zero => intros; rfl
  | succ n IH =>
  intro a0 b1 i5
  have ih : (fun a0 b1 i5 => evLP E_ref01_Like n (sub C_ref01_Like [1, 1, 0, 1, 0, 0]) K (frOf [(0, (.dat (.sl .byte) a0 none)), (1, (.dat (.sl .byte) b1 none)), (5, (.dat (.int .i64) i5 none))])) = ref01_Like_l4 (fun s4 => K .ret (frOf [(4, (.dat .bool s4 none))])) (K (.exit 0) (frOf [])) n := by
    funext a0 b1 i5
    exact IH a0 b1 i5
  show _ = ref01_Like_l4_b (fun s4 => K .ret (frOf [(4, (.dat .bool s4 none))])) (K (.exit 0) (frOf [])) (ref01_Like_l4 (fun s4 => K .ret (frOf [(4, (.dat .bool s4 none))])) (K (.exit 0) (frOf [])) n) n a0 b1 i5
  rw [← ih]
  kernel_rfl
theorem ref01_Like_k4_0_ok (n : Nat)  : (kBlockP 0 (E_ref01_Like.cutb 0) (kSeq (evCP E_ref01_Like (evLP E_ref01_Like n) (sub C_ref01_Like [1, 1, 1])) (kFnP E_ref01_Like R_ref01_Like))) (.exit 0) (frOf []) = ref01_Like_k4_0 n  := by
  kernel_rfl
theorem ref01_Like_ev (n : Nat) (a0 : List UInt8) (o0 : Lab) (b1 : List UInt8) (o1 : Lab) : evFnP E_ref01_Like n C_ref01_Like R_ref01_Like [.dat (.sl .byte) a0 o0, .dat (.sl .byte) b1 o1] = ref01_Like_sh n a0 b1 := by
  unfold ref01_Like_sh
  rw [show ref01_Like_l4 ref01_Like_ret (ref01_Like_k4_0 n) n = (fun a0 b1 i5 => evLP E_ref01_Like n (sub C_ref01_Like [1, 1, 0, 1, 0, 0]) (kBlockP 0 (E_ref01_Like.cutb 0) (kSeq (evCP E_ref01_Like (evLP E_ref01_Like n) (sub C_ref01_Like [1, 1, 1])) (kFnP E_ref01_Like R_ref01_Like))) (frOf [(0, (.dat (.sl .byte) a0 none)), (1, (.dat (.sl .byte) b1 none)), (5, (.dat (.int .i64) i5 none))])) from by
    funext a0 b1 i5
    refine Eq.trans ?_ (ref01_Like_l4_ok (kBlockP 0 (E_ref01_Like.cutb 0) (kSeq (evCP E_ref01_Like (evLP E_ref01_Like n) (sub C_ref01_Like [1, 1, 1])) (kFnP E_ref01_Like R_ref01_Like))) n a0 b1 i5).symm
    rw [show ((kBlockP 0 (E_ref01_Like.cutb 0) (kSeq (evCP E_ref01_Like (evLP E_ref01_Like n) (sub C_ref01_Like [1, 1, 1])) (kFnP E_ref01_Like R_ref01_Like))) (.exit 0) (frOf [])) = (ref01_Like_k4_0 n) from by
      exact ref01_Like_k4_0_ok n ]
    all_goals kernel_rfl]
  kernel_rfl
theorem ref01_Like_sound : SoundG G Tryd.prog 15 s_ref01_Like := by
  refine sound_of_evP' G_stays (E := E_ref01_Like) (fn := Tryd.f15) (c := C_ref01_Like) (tyOk_of_table rfl tis_ok) (fun w S hg => ⟨⟨fns_nil, fun f sp h => cns_nil f sp h w S⟩, gl_none w S hg⟩) follows Tryd.func15 (by kernel_rfl) (by kernel_rfl) (by kernel_rfl) ?_
  intro avs r h
  unfold s_ref01_Like at h
  split at h
  · simp only [Prod.mk.injEq] at h
    obtain ⟨hp, rfl⟩ := h
    obtain ⟨n, hn⟩ := ref01_Like_math _ _ hp
    exact ⟨n, _, (ref01_Like_ev n _ _ _ _).trans hn, .inl rfl⟩
  · cases h

/-! sheave/sheaveref27.Right -/

noncomputable def E_ref27_Right : EnvP := ⟨⟨tiOf tis, fnsOf [(14, s_ref27_Unfold)], cnsOf [], [], 29, (fun x => if x = 3 then some [3, 5] else none), (fun x => if x = 0 then some [] else if x = 1 then some [3, 5] else none), some [2]⟩, fun _ => none, fun _ => none, fun _ => []⟩
noncomputable def C_ref27_Right : Code := Tryd.f19.body.getD .skip
noncomputable def R_ref27_Right : Array ResultVar := Tryd.f19.results
theorem ref27_Right_l3_ok (K : Ex → Fr → Option AV) : ∀ (n : Nat) (out3 : List UInt8) (i5 : Int), evLP E_ref27_Right n (sub C_ref27_Right [1, 1, 0, 1, 0, 0]) K (frOf [(3, (.dat (.sl .byte) out3 none)), (5, (.dat (.int .i64) i5 none))]) = ref27_Right_l3 (fun s2 => K .ret (frOf [(2, (.dat .bool s2 none))])) (K (.exit 0) (frOf [])) n out3 i5 := by
  intro n
  induction n with
  | zero => intros; rfl
  | succ n IH =>
  intro out3 i5
  have ih : (fun out3 i5 => evLP E_ref27_Right n (sub C_ref27_Right [1, 1, 0, 1, 0, 0]) K (frOf [(3, (.dat (.sl .byte) out3 none)), (5, (.dat (.int .i64) i5 none))])) = ref27_Right_l3 (fun s2 => K .ret (frOf [(2, (.dat .bool s2 none))])) (K (.exit 0) (frOf [])) n := by
    funext out3 i5
    exact IH out3 i5
  show _ = ref27_Right_l3_b (fun s2 => K .ret (frOf [(2, (.dat .bool s2 none))])) (K (.exit 0) (frOf [])) (ref27_Right_l3 (fun s2 => K .ret (frOf [(2, (.dat .bool s2 none))])) (K (.exit 0) (frOf [])) n) n out3 i5
  rw [← ih]
  kernel_rfl
theorem ref27_Right_k3_0_ok (n : Nat)  : (kBlockP 0 (E_ref27_Right.cutb 0) (kSeq (evCP E_ref27_Right (evLP E_ref27_Right n) (sub C_ref27_Right [1, 1, 1])) (kFnP E_ref27_Right R_ref27_Right))) (.exit 0) (frOf []) = ref27_Right_k3_0 n  := by
  kernel_rfl
theorem ref27_Right_ev (n : Nat) (s0 : List UInt8) (o0 : Lab) : evFnP E_ref27_Right n C_ref27_Right R_ref27_Right [.dat (.sl .byte) s0 o0] = ref27_Right_sh n s0 := by
  unfold ref27_Right_sh
  rw [show ref27_Right_l3 ref27_Right_ret (ref27_Right_k3_0 n) n = (fun out3 i5 => evLP E_ref27_Right n (sub C_ref27_Right [1, 1, 0, 1, 0, 0]) (kBlockP 0 (E_ref27_Right.cutb 0) (kSeq (evCP E_ref27_Right (evLP E_ref27_Right n) (sub C_ref27_Right [1, 1, 1])) (kFnP E_ref27_Right R_ref27_Right))) (frOf [(3, (.dat (.sl .byte) out3 none)), (5, (.dat (.int .i64) i5 none))])) from by
    funext out3 i5
    refine Eq.trans ?_ (ref27_Right_l3_ok (kBlockP 0 (E_ref27_Right.cutb 0) (kSeq (evCP E_ref27_Right (evLP E_ref27_Right n) (sub C_ref27_Right [1, 1, 1])) (kFnP E_ref27_Right R_ref27_Right))) n out3 i5).symm
    rw [show ((kBlockP 0 (E_ref27_Right.cutb 0) (kSeq (evCP E_ref27_Right (evLP E_ref27_Right n) (sub C_ref27_Right [1, 1, 1])) (kFnP E_ref27_Right R_ref27_Right))) (.exit 0) (frOf [])) = (ref27_Right_k3_0 n) from by
      exact ref27_Right_k3_0_ok n ]
    all_goals kernel_rfl]
  kernel_rfl
theorem ref27_Right_sound : SoundG G Tryd.prog 19 s_ref27_Right := by
  refine sound_of_evP' G_stays (E := E_ref27_Right) (fn := Tryd.f19) (c := C_ref27_Right) (tyOk_of_table rfl tis_ok) (fun w S hg => ⟨⟨(fns_cons (ref27_Unfold_sound w S hg) fns_nil), fun f sp h => cns_nil f sp h w S⟩, gl_none w S hg⟩) follows Tryd.func19 (by kernel_rfl) (by kernel_rfl) (by kernel_rfl) ?_
  intro avs r h
  unfold s_ref27_Right at h
  split at h
  · simp only [Prod.mk.injEq] at h
    obtain ⟨hp, rfl⟩ := h
    obtain ⟨n, hn⟩ := ref27_Right_math _ hp
    exact ⟨n, _, (ref27_Right_ev n _ _).trans hn, .inl rfl⟩
  · cases h

/-! sheave/sheavelaw27.FoldUnfolds -/

noncomputable def E_law27_FoldUnfolds : EnvP := ⟨⟨tiOf tis, fnsOf [(13, s_law27_alive), (14, s_ref27_Unfold), (15, s_ref01_Like), (16, s_fold_Unfold), (17, s_fold_Folds), (18, s_fold_Right), (19, s_ref27_Right)], cnsOf [], [], 34, (fun _ => none), (fun _ => none), some [2]⟩, fun _ => none, fun _ => none, fun _ => []⟩
noncomputable def C_law27_FoldUnfolds : Code := Tryd.f3.body.getD .skip
noncomputable def R_law27_FoldUnfolds : Array ResultVar := Tryd.f3.results
theorem law27_FoldUnfolds_ev (n : Nat) (s0 : List UInt8) (o0 : Lab) : evFnP E_law27_FoldUnfolds n C_law27_FoldUnfolds R_law27_FoldUnfolds [.dat (.sl .byte) s0 o0] = law27_FoldUnfolds_sh n s0 := by
  kernel_rfl
theorem law27_FoldUnfolds_sound : SoundG G Tryd.prog 3 s_law27_FoldUnfolds := by
  refine sound_of_evP' G_stays (E := E_law27_FoldUnfolds) (fn := Tryd.f3) (c := C_law27_FoldUnfolds) (tyOk_of_table rfl tis_ok) (fun w S hg => ⟨⟨(fns_cons (law27_alive_sound w S hg) (fns_cons (ref27_Unfold_sound w S hg) (fns_cons (ref01_Like_sound w S hg) (fns_cons (fold_Unfold_sound w S hg) (fns_cons (fold_Folds_sound w S hg) (fns_cons (fold_Right_sound w S hg) (fns_cons (ref27_Right_sound w S hg) fns_nil))))))), fun f sp h => cns_nil f sp h w S⟩, gl_none w S hg⟩) follows Tryd.func3 (by kernel_rfl) (by kernel_rfl) (by kernel_rfl) ?_
  intro avs r h
  unfold s_law27_FoldUnfolds at h
  split at h
  · simp only [Prod.mk.injEq, true_and] at h
    subst h
    obtain ⟨n, hn⟩ := law27_FoldUnfolds_math _
    exact ⟨n, _, (law27_FoldUnfolds_ev n _ _).trans hn, .inl rfl⟩
  · cases h

/-! sheave/sheavelaw27.FoldBack -/

noncomputable def E_law27_FoldBack : EnvP := ⟨⟨tiOf tis, fnsOf [(13, s_law27_alive), (15, s_ref01_Like), (16, s_fold_Unfold), (18, s_fold_Right), (20, s_fold_Fold)], cnsOf [], [], 106, (fun x => if x = 10 then some [2, 7, 9, 10, 11] else none), (fun x => if x = 0 then some [9, 10] else if x = 1 then some [2, 7, 9, 10, 11] else none), some [6]⟩, fun _ => none, fun _ => none, fun _ => []⟩
noncomputable def C_law27_FoldBack : Code := Tryd.f4.body.getD .skip
noncomputable def R_law27_FoldBack : Array ResultVar := Tryd.f4.results
theorem law27_FoldBack_l10_ok (K : Ex → Fr → Option AV) : ∀ (n : Nat) (most2 : Int) (a7 : List UInt8) (long9 : Int) (room10 : Int) (i11 : Int), evLP E_law27_FoldBack n (sub C_law27_FoldBack [1, 1, 1, 1, 1, 1, 0, 1, 0, 0]) K (frOf [(2, (.dat (.int .i64) most2 none)), (7, (.dat (.sl .byte) a7 none)), (9, (.dat (.int .i64) long9 none)), (10, (.dat (.int .i64) room10 none)), (11, (.dat (.int .i64) i11 none))]) = law27_FoldBack_l10 (fun s6 => K .ret (frOf [(6, (.dat .bool s6 none))])) (fun long9 room10 => K (.exit 0) (frOf [(9, (.dat (.int .i64) long9 none)), (10, (.dat (.int .i64) room10 none))])) n most2 a7 long9 room10 i11 := by
  intro n
  induction n with
  | zero => intros; rfl
  | succ n IH =>
  intro most2 a7 long9 room10 i11
  have ih : (fun most2 a7 long9 room10 i11 => evLP E_law27_FoldBack n (sub C_law27_FoldBack [1, 1, 1, 1, 1, 1, 0, 1, 0, 0]) K (frOf [(2, (.dat (.int .i64) most2 none)), (7, (.dat (.sl .byte) a7 none)), (9, (.dat (.int .i64) long9 none)), (10, (.dat (.int .i64) room10 none)), (11, (.dat (.int .i64) i11 none))])) = law27_FoldBack_l10 (fun s6 => K .ret (frOf [(6, (.dat .bool s6 none))])) (fun long9 room10 => K (.exit 0) (frOf [(9, (.dat (.int .i64) long9 none)), (10, (.dat (.int .i64) room10 none))])) n := by
    funext most2 a7 long9 room10 i11
    exact IH most2 a7 long9 room10 i11
  show _ = law27_FoldBack_l10_b (fun s6 => K .ret (frOf [(6, (.dat .bool s6 none))])) (fun long9 room10 => K (.exit 0) (frOf [(9, (.dat (.int .i64) long9 none)), (10, (.dat (.int .i64) room10 none))])) (law27_FoldBack_l10 (fun s6 => K .ret (frOf [(6, (.dat .bool s6 none))])) (fun long9 room10 => K (.exit 0) (frOf [(9, (.dat (.int .i64) long9 none)), (10, (.dat (.int .i64) room10 none))])) n) n most2 a7 long9 room10 i11
  rw [← ih]
  kernel_rfl
theorem law27_FoldBack_k10_0_ok (n : Nat) (long9 : Int) (room10 : Int) : (kBlockP 0 (E_law27_FoldBack.cutb 0) (kSeq (evCP E_law27_FoldBack (evLP E_law27_FoldBack n) (sub C_law27_FoldBack [1, 1, 1, 1, 1, 1, 1])) (kFnP E_law27_FoldBack R_law27_FoldBack))) (.exit 0) (frOf [(9, (.dat (.int .i64) long9 none)), (10, (.dat (.int .i64) room10 none))]) = law27_FoldBack_k10_0 n long9 room10 := by
  kernel_rfl
theorem law27_FoldBack_ev (n : Nat) (s0 : List UInt8) (o0 : Lab) (first1 : Int) (o1 : Lab) (most2 : Int) (o2 : Lab) : evFnP E_law27_FoldBack n C_law27_FoldBack R_law27_FoldBack [.dat (.sl .byte) s0 o0, .dat (.int .i64) first1 o1, .dat (.int .i64) most2 o2] = law27_FoldBack_sh n s0 first1 most2 := by
  unfold law27_FoldBack_sh
  rw [show law27_FoldBack_l10 law27_FoldBack_ret (law27_FoldBack_k10_0 n) n = (fun most2 a7 long9 room10 i11 => evLP E_law27_FoldBack n (sub C_law27_FoldBack [1, 1, 1, 1, 1, 1, 0, 1, 0, 0]) (kBlockP 0 (E_law27_FoldBack.cutb 0) (kSeq (evCP E_law27_FoldBack (evLP E_law27_FoldBack n) (sub C_law27_FoldBack [1, 1, 1, 1, 1, 1, 1])) (kFnP E_law27_FoldBack R_law27_FoldBack))) (frOf [(2, (.dat (.int .i64) most2 none)), (7, (.dat (.sl .byte) a7 none)), (9, (.dat (.int .i64) long9 none)), (10, (.dat (.int .i64) room10 none)), (11, (.dat (.int .i64) i11 none))])) from by
    funext most2 a7 long9 room10 i11
    refine Eq.trans ?_ (law27_FoldBack_l10_ok (kBlockP 0 (E_law27_FoldBack.cutb 0) (kSeq (evCP E_law27_FoldBack (evLP E_law27_FoldBack n) (sub C_law27_FoldBack [1, 1, 1, 1, 1, 1, 1])) (kFnP E_law27_FoldBack R_law27_FoldBack))) n most2 a7 long9 room10 i11).symm
    rw [show (fun long9 room10 => (kBlockP 0 (E_law27_FoldBack.cutb 0) (kSeq (evCP E_law27_FoldBack (evLP E_law27_FoldBack n) (sub C_law27_FoldBack [1, 1, 1, 1, 1, 1, 1])) (kFnP E_law27_FoldBack R_law27_FoldBack))) (.exit 0) (frOf [(9, (.dat (.int .i64) long9 none)), (10, (.dat (.int .i64) room10 none))])) = (law27_FoldBack_k10_0 n) from by
      funext long9 room10
      exact law27_FoldBack_k10_0_ok n long9 room10]
    all_goals kernel_rfl]
  kernel_rfl
theorem law27_FoldBack_sound : SoundG G Tryd.prog 4 s_law27_FoldBack := by
  refine sound_of_evP' G_stays (E := E_law27_FoldBack) (fn := Tryd.f4) (c := C_law27_FoldBack) (tyOk_of_table rfl tis_ok) (fun w S hg => ⟨⟨(fns_cons (law27_alive_sound w S hg) (fns_cons (ref01_Like_sound w S hg) (fns_cons (fold_Unfold_sound w S hg) (fns_cons (fold_Right_sound w S hg) (fns_cons (fold_Fold_sound w S hg) fns_nil))))), fun f sp h => cns_nil f sp h w S⟩, gl_none w S hg⟩) follows Tryd.func4 (by kernel_rfl) (by kernel_rfl) (by kernel_rfl) ?_
  intro avs r h
  unfold s_law27_FoldBack at h
  split at h
  · simp only [Prod.mk.injEq, true_and] at h
    subst h
    obtain ⟨n, hn⟩ := law27_FoldBack_math _ _ _
    exact ⟨n, _, (law27_FoldBack_ev n _ _ _ _ _ _).trans hn, .inl rfl⟩
  · cases h

/-! sheave/sheaveref27.Fold -/

noncomputable def E_ref27_Fold : EnvP := ⟨⟨tiOf tis, fnsOf [], cnsOf [], [], 92, (fun x => if x = 4 then some [0, 1, 2, 8] else if x = 10 then some [0, 2, 9, 10, 11] else if x = 13 then some [0, 2, 9, 10, 11, 12, 13] else none), (fun x => if x = 0 then some [0, 1, 2] else if x = 1 then some [0, 1, 2, 8] else if x = 2 then some [0, 9, 10] else if x = 3 then some [0, 2, 9, 10, 11] else if x = 4 then some [0, 2, 9, 10, 12] else if x = 5 then some [0, 2, 9, 10, 11, 12, 13] else none), some [6, 7]⟩, fun _ => none, fun _ => none, fun _ => []⟩
noncomputable def C_ref27_Fold : Code := Tryd.f21.body.getD .skip
noncomputable def R_ref27_Fold : Array ResultVar := Tryd.f21.results
theorem ref27_Fold_l4_ok (K : Ex → Fr → Option AV) : ∀ (n : Nat) (s0 : List UInt8) (first1 : Int) (most2 : Int) (i8 : Int), evLP E_ref27_Fold n (sub C_ref27_Fold [1, 1, 0, 1, 0, 0]) K (frOf [(0, (.dat (.sl .byte) s0 none)), (1, (.dat (.int .i64) first1 none)), (2, (.dat (.int .i64) most2 none)), (8, (.dat (.int .i64) i8 none))]) = ref27_Fold_l4 (fun s6 s7 => K .ret (frOf [(6, (.dat (.sl .byte) s6 (some (6, 5)))), (7, (.dat (.int .i64) s7 none))])) (fun s0 first1 most2 => K (.exit 0) (frOf [(0, (.dat (.sl .byte) s0 none)), (1, (.dat (.int .i64) first1 none)), (2, (.dat (.int .i64) most2 none))])) n s0 first1 most2 i8 := by
  intro n
  induction n with
  | zero => intros; rfl
  | succ n IH =>
  intro s0 first1 most2 i8
  have ih : (fun s0 first1 most2 i8 => evLP E_ref27_Fold n (sub C_ref27_Fold [1, 1, 0, 1, 0, 0]) K (frOf [(0, (.dat (.sl .byte) s0 none)), (1, (.dat (.int .i64) first1 none)), (2, (.dat (.int .i64) most2 none)), (8, (.dat (.int .i64) i8 none))])) = ref27_Fold_l4 (fun s6 s7 => K .ret (frOf [(6, (.dat (.sl .byte) s6 (some (6, 5)))), (7, (.dat (.int .i64) s7 none))])) (fun s0 first1 most2 => K (.exit 0) (frOf [(0, (.dat (.sl .byte) s0 none)), (1, (.dat (.int .i64) first1 none)), (2, (.dat (.int .i64) most2 none))])) n := by
    funext s0 first1 most2 i8
    exact IH s0 first1 most2 i8
  show _ = ref27_Fold_l4_b (fun s6 s7 => K .ret (frOf [(6, (.dat (.sl .byte) s6 (some (6, 5)))), (7, (.dat (.int .i64) s7 none))])) (fun s0 first1 most2 => K (.exit 0) (frOf [(0, (.dat (.sl .byte) s0 none)), (1, (.dat (.int .i64) first1 none)), (2, (.dat (.int .i64) most2 none))])) (ref27_Fold_l4 (fun s6 s7 => K .ret (frOf [(6, (.dat (.sl .byte) s6 (some (6, 5)))), (7, (.dat (.int .i64) s7 none))])) (fun s0 first1 most2 => K (.exit 0) (frOf [(0, (.dat (.sl .byte) s0 none)), (1, (.dat (.int .i64) first1 none)), (2, (.dat (.int .i64) most2 none))])) n) n s0 first1 most2 i8
  rw [← ih]
  kernel_rfl
theorem ref27_Fold_l13_ok (K : Ex → Fr → Option AV) : ∀ (n : Nat) (s0 : List UInt8) (most2 : Int) (out9 : List UInt8) (from10 : Int) (room11 : Int) (next12 : Int) (i13 : Int), evLP E_ref27_Fold n (sub C_ref27_Fold [1, 1, 1, 1, 1, 0, 0, 0, 1, 0, 1, 0, 1, 0, 0]) K (frOf [(0, (.dat (.sl .byte) s0 none)), (2, (.dat (.int .i64) most2 none)), (9, (.dat (.sl .byte) out9 (some (9, 5)))), (10, (.dat (.int .i64) from10 none)), (11, (.dat (.int .i64) room11 none)), (12, (.dat (.int .i64) next12 none)), (13, (.dat (.int .i64) i13 none))]) = ref27_Fold_l13 (fun s0 most2 out9 from10 next12 => K (.exit 4) (frOf [(0, (.dat (.sl .byte) s0 none)), (2, (.dat (.int .i64) most2 none)), (9, (.dat (.sl .byte) out9 (some (9, 5)))), (10, (.dat (.int .i64) from10 none)), (12, (.dat (.int .i64) next12 none))])) n s0 most2 out9 from10 room11 next12 i13 := by
  intro n
  induction n with
  | zero => intros; rfl
  | succ n IH =>
  intro s0 most2 out9 from10 room11 next12 i13
  have ih : (fun s0 most2 out9 from10 room11 next12 i13 => evLP E_ref27_Fold n (sub C_ref27_Fold [1, 1, 1, 1, 1, 0, 0, 0, 1, 0, 1, 0, 1, 0, 0]) K (frOf [(0, (.dat (.sl .byte) s0 none)), (2, (.dat (.int .i64) most2 none)), (9, (.dat (.sl .byte) out9 (some (9, 5)))), (10, (.dat (.int .i64) from10 none)), (11, (.dat (.int .i64) room11 none)), (12, (.dat (.int .i64) next12 none)), (13, (.dat (.int .i64) i13 none))])) = ref27_Fold_l13 (fun s0 most2 out9 from10 next12 => K (.exit 4) (frOf [(0, (.dat (.sl .byte) s0 none)), (2, (.dat (.int .i64) most2 none)), (9, (.dat (.sl .byte) out9 (some (9, 5)))), (10, (.dat (.int .i64) from10 none)), (12, (.dat (.int .i64) next12 none))])) n := by
    funext s0 most2 out9 from10 room11 next12 i13
    exact IH s0 most2 out9 from10 room11 next12 i13
  show _ = ref27_Fold_l13_b (fun s0 most2 out9 from10 next12 => K (.exit 4) (frOf [(0, (.dat (.sl .byte) s0 none)), (2, (.dat (.int .i64) most2 none)), (9, (.dat (.sl .byte) out9 (some (9, 5)))), (10, (.dat (.int .i64) from10 none)), (12, (.dat (.int .i64) next12 none))])) (ref27_Fold_l13 (fun s0 most2 out9 from10 next12 => K (.exit 4) (frOf [(0, (.dat (.sl .byte) s0 none)), (2, (.dat (.int .i64) most2 none)), (9, (.dat (.sl .byte) out9 (some (9, 5)))), (10, (.dat (.int .i64) from10 none)), (12, (.dat (.int .i64) next12 none))])) n) n s0 most2 out9 from10 room11 next12 i13
  rw [← ih]
  kernel_rfl
theorem ref27_Fold_k13_4_ok (K : Ex → Fr → Option AV) (n : Nat) (s0 : List UInt8) (most2 : Int) (out9 : List UInt8) (from10 : Int) (next12 : Int) : (kBlockP 4 (E_ref27_Fold.cutb 4) (kSeq (evCP E_ref27_Fold (evLP E_ref27_Fold n) (sub C_ref27_Fold [1, 1, 1, 1, 1, 0, 0, 0, 1, 0, 1, 1])) (kBlockP 3 (E_ref27_Fold.cutb 3) (kSeq (fun K fr => evLP E_ref27_Fold n (sub C_ref27_Fold [1, 1, 1, 1, 1, 0, 0, 0]) K (cutFP (E_ref27_Fold.cuts 10) fr)) K)))) (.exit 4) (frOf [(0, (.dat (.sl .byte) s0 none)), (2, (.dat (.int .i64) most2 none)), (9, (.dat (.sl .byte) out9 (some (9, 5)))), (10, (.dat (.int .i64) from10 none)), (12, (.dat (.int .i64) next12 none))]) = ref27_Fold_k13_4 (fun s6 s7 => K .ret (frOf [(6, (.dat (.sl .byte) s6 (some (6, 5)))), (7, (.dat (.int .i64) s7 none))])) (fun s0 out9 from10 => K (.exit 2) (frOf [(0, (.dat (.sl .byte) s0 none)), (9, (.dat (.sl .byte) out9 (some (9, 5)))), (10, (.dat (.int .i64) from10 none))])) (fun s0 most2 out9 from10 room11 => evLP E_ref27_Fold n (sub C_ref27_Fold [1, 1, 1, 1, 1, 0, 0, 0]) K (frOf [(0, (.dat (.sl .byte) s0 none)), (2, (.dat (.int .i64) most2 none)), (9, (.dat (.sl .byte) out9 (some (9, 5)))), (10, (.dat (.int .i64) from10 none)), (11, (.dat (.int .i64) room11 none))])) n s0 most2 out9 from10 next12 := by
  kernel_rfl
theorem ref27_Fold_l10_ok (K : Ex → Fr → Option AV) : ∀ (n : Nat) (s0 : List UInt8) (most2 : Int) (out9 : List UInt8) (from10 : Int) (room11 : Int), evLP E_ref27_Fold n (sub C_ref27_Fold [1, 1, 1, 1, 1, 0, 0, 0]) K (frOf [(0, (.dat (.sl .byte) s0 none)), (2, (.dat (.int .i64) most2 none)), (9, (.dat (.sl .byte) out9 (some (9, 5)))), (10, (.dat (.int .i64) from10 none)), (11, (.dat (.int .i64) room11 none))]) = ref27_Fold_l10 (fun s6 s7 => K .ret (frOf [(6, (.dat (.sl .byte) s6 (some (6, 5)))), (7, (.dat (.int .i64) s7 none))])) (fun s0 out9 from10 => K (.exit 2) (frOf [(0, (.dat (.sl .byte) s0 none)), (9, (.dat (.sl .byte) out9 (some (9, 5)))), (10, (.dat (.int .i64) from10 none))])) n s0 most2 out9 from10 room11 := by
  intro n
  induction n with
  | zero => intros; rfl
  | succ n IH =>
  intro s0 most2 out9 from10 room11
  have ih : (fun s0 most2 out9 from10 room11 => evLP E_ref27_Fold n (sub C_ref27_Fold [1, 1, 1, 1, 1, 0, 0, 0]) K (frOf [(0, (.dat (.sl .byte) s0 none)), (2, (.dat (.int .i64) most2 none)), (9, (.dat (.sl .byte) out9 (some (9, 5)))), (10, (.dat (.int .i64) from10 none)), (11, (.dat (.int .i64) room11 none))])) = ref27_Fold_l10 (fun s6 s7 => K .ret (frOf [(6, (.dat (.sl .byte) s6 (some (6, 5)))), (7, (.dat (.int .i64) s7 none))])) (fun s0 out9 from10 => K (.exit 2) (frOf [(0, (.dat (.sl .byte) s0 none)), (9, (.dat (.sl .byte) out9 (some (9, 5)))), (10, (.dat (.int .i64) from10 none))])) n := by
    funext s0 most2 out9 from10 room11
    exact IH s0 most2 out9 from10 room11
  show _ = ref27_Fold_l10_b (fun s6 s7 => K .ret (frOf [(6, (.dat (.sl .byte) s6 (some (6, 5)))), (7, (.dat (.int .i64) s7 none))])) (fun s0 out9 from10 => K (.exit 2) (frOf [(0, (.dat (.sl .byte) s0 none)), (9, (.dat (.sl .byte) out9 (some (9, 5)))), (10, (.dat (.int .i64) from10 none))])) (ref27_Fold_l10 (fun s6 s7 => K .ret (frOf [(6, (.dat (.sl .byte) s6 (some (6, 5)))), (7, (.dat (.int .i64) s7 none))])) (fun s0 out9 from10 => K (.exit 2) (frOf [(0, (.dat (.sl .byte) s0 none)), (9, (.dat (.sl .byte) out9 (some (9, 5)))), (10, (.dat (.int .i64) from10 none))])) n) n s0 most2 out9 from10 room11
  rw [← ih]
  unfold ref27_Fold_l10_b
  rw [show ref27_Fold_l13 (ref27_Fold_k13_4 (fun s6 s7 => K .ret (frOf [(6, (.dat (.sl .byte) s6 (some (6, 5)))), (7, (.dat (.int .i64) s7 none))])) (fun s0 out9 from10 => K (.exit 2) (frOf [(0, (.dat (.sl .byte) s0 none)), (9, (.dat (.sl .byte) out9 (some (9, 5)))), (10, (.dat (.int .i64) from10 none))])) (fun s0 most2 out9 from10 room11 => evLP E_ref27_Fold n (sub C_ref27_Fold [1, 1, 1, 1, 1, 0, 0, 0]) K (frOf [(0, (.dat (.sl .byte) s0 none)), (2, (.dat (.int .i64) most2 none)), (9, (.dat (.sl .byte) out9 (some (9, 5)))), (10, (.dat (.int .i64) from10 none)), (11, (.dat (.int .i64) room11 none))])) n) n = (fun s0 most2 out9 from10 room11 next12 i13 => evLP E_ref27_Fold n (sub C_ref27_Fold [1, 1, 1, 1, 1, 0, 0, 0, 1, 0, 1, 0, 1, 0, 0]) (kBlockP 4 (E_ref27_Fold.cutb 4) (kSeq (evCP E_ref27_Fold (evLP E_ref27_Fold n) (sub C_ref27_Fold [1, 1, 1, 1, 1, 0, 0, 0, 1, 0, 1, 1])) (kBlockP 3 (E_ref27_Fold.cutb 3) (kSeq (fun K fr => evLP E_ref27_Fold n (sub C_ref27_Fold [1, 1, 1, 1, 1, 0, 0, 0]) K (cutFP (E_ref27_Fold.cuts 10) fr)) K)))) (frOf [(0, (.dat (.sl .byte) s0 none)), (2, (.dat (.int .i64) most2 none)), (9, (.dat (.sl .byte) out9 (some (9, 5)))), (10, (.dat (.int .i64) from10 none)), (11, (.dat (.int .i64) room11 none)), (12, (.dat (.int .i64) next12 none)), (13, (.dat (.int .i64) i13 none))])) from by
    funext s0 most2 out9 from10 room11 next12 i13
    refine Eq.trans ?_ (ref27_Fold_l13_ok (kBlockP 4 (E_ref27_Fold.cutb 4) (kSeq (evCP E_ref27_Fold (evLP E_ref27_Fold n) (sub C_ref27_Fold [1, 1, 1, 1, 1, 0, 0, 0, 1, 0, 1, 1])) (kBlockP 3 (E_ref27_Fold.cutb 3) (kSeq (fun K fr => evLP E_ref27_Fold n (sub C_ref27_Fold [1, 1, 1, 1, 1, 0, 0, 0]) K (cutFP (E_ref27_Fold.cuts 10) fr)) K)))) n s0 most2 out9 from10 room11 next12 i13).symm
    rw [show (fun s0 most2 out9 from10 next12 => (kBlockP 4 (E_ref27_Fold.cutb 4) (kSeq (evCP E_ref27_Fold (evLP E_ref27_Fold n) (sub C_ref27_Fold [1, 1, 1, 1, 1, 0, 0, 0, 1, 0, 1, 1])) (kBlockP 3 (E_ref27_Fold.cutb 3) (kSeq (fun K fr => evLP E_ref27_Fold n (sub C_ref27_Fold [1, 1, 1, 1, 1, 0, 0, 0]) K (cutFP (E_ref27_Fold.cuts 10) fr)) K)))) (.exit 4) (frOf [(0, (.dat (.sl .byte) s0 none)), (2, (.dat (.int .i64) most2 none)), (9, (.dat (.sl .byte) out9 (some (9, 5)))), (10, (.dat (.int .i64) from10 none)), (12, (.dat (.int .i64) next12 none))])) = (ref27_Fold_k13_4 (fun s6 s7 => K .ret (frOf [(6, (.dat (.sl .byte) s6 (some (6, 5)))), (7, (.dat (.int .i64) s7 none))])) (fun s0 out9 from10 => K (.exit 2) (frOf [(0, (.dat (.sl .byte) s0 none)), (9, (.dat (.sl .byte) out9 (some (9, 5)))), (10, (.dat (.int .i64) from10 none))])) (fun s0 most2 out9 from10 room11 => evLP E_ref27_Fold n (sub C_ref27_Fold [1, 1, 1, 1, 1, 0, 0, 0]) K (frOf [(0, (.dat (.sl .byte) s0 none)), (2, (.dat (.int .i64) most2 none)), (9, (.dat (.sl .byte) out9 (some (9, 5)))), (10, (.dat (.int .i64) from10 none)), (11, (.dat (.int .i64) room11 none))])) n) from by
      funext s0 most2 out9 from10 next12
      exact ref27_Fold_k13_4_ok K n s0 most2 out9 from10 next12]
    all_goals kernel_rfl]
  kernel_rfl
theorem ref27_Fold_k10_2_ok (n : Nat) (s0 : List UInt8) (out9 : List UInt8) (from10 : Int) : (kBlockP 2 (E_ref27_Fold.cutb 2) (kSeq (evCP E_ref27_Fold (evLP E_ref27_Fold n) (sub C_ref27_Fold [1, 1, 1, 1, 1, 1])) (kFnP E_ref27_Fold R_ref27_Fold))) (.exit 2) (frOf [(0, (.dat (.sl .byte) s0 none)), (9, (.dat (.sl .byte) out9 (some (9, 5)))), (10, (.dat (.int .i64) from10 none))]) = ref27_Fold_k10_2 n s0 out9 from10 := by
  kernel_rfl
theorem ref27_Fold_k4_0_ok (n : Nat) (s0 : List UInt8) (first1 : Int) (most2 : Int) : (kBlockP 0 (E_ref27_Fold.cutb 0) (kSeq (evCP E_ref27_Fold (evLP E_ref27_Fold n) (sub C_ref27_Fold [1, 1, 1])) (kFnP E_ref27_Fold R_ref27_Fold))) (.exit 0) (frOf [(0, (.dat (.sl .byte) s0 none)), (1, (.dat (.int .i64) first1 none)), (2, (.dat (.int .i64) most2 none))]) = ref27_Fold_k4_0 n s0 first1 most2 := by
  unfold ref27_Fold_k4_0
  rw [show ref27_Fold_l10 ref27_Fold_ret (ref27_Fold_k10_2 n) n = (fun s0 most2 out9 from10 room11 => evLP E_ref27_Fold n (sub C_ref27_Fold [1, 1, 1, 1, 1, 0, 0, 0]) (kBlockP 2 (E_ref27_Fold.cutb 2) (kSeq (evCP E_ref27_Fold (evLP E_ref27_Fold n) (sub C_ref27_Fold [1, 1, 1, 1, 1, 1])) (kFnP E_ref27_Fold R_ref27_Fold))) (frOf [(0, (.dat (.sl .byte) s0 none)), (2, (.dat (.int .i64) most2 none)), (9, (.dat (.sl .byte) out9 (some (9, 5)))), (10, (.dat (.int .i64) from10 none)), (11, (.dat (.int .i64) room11 none))])) from by
    funext s0 most2 out9 from10 room11
    refine Eq.trans ?_ (ref27_Fold_l10_ok (kBlockP 2 (E_ref27_Fold.cutb 2) (kSeq (evCP E_ref27_Fold (evLP E_ref27_Fold n) (sub C_ref27_Fold [1, 1, 1, 1, 1, 1])) (kFnP E_ref27_Fold R_ref27_Fold))) n s0 most2 out9 from10 room11).symm
    rw [show (fun s0 out9 from10 => (kBlockP 2 (E_ref27_Fold.cutb 2) (kSeq (evCP E_ref27_Fold (evLP E_ref27_Fold n) (sub C_ref27_Fold [1, 1, 1, 1, 1, 1])) (kFnP E_ref27_Fold R_ref27_Fold))) (.exit 2) (frOf [(0, (.dat (.sl .byte) s0 none)), (9, (.dat (.sl .byte) out9 (some (9, 5)))), (10, (.dat (.int .i64) from10 none))])) = (ref27_Fold_k10_2 n) from by
      funext s0 out9 from10
      exact ref27_Fold_k10_2_ok n s0 out9 from10]
    all_goals kernel_rfl]
  kernel_rfl
theorem ref27_Fold_ev (n : Nat) (s0 : List UInt8) (o0 : Lab) (first1 : Int) (o1 : Lab) (most2 : Int) (o2 : Lab) : evFnP E_ref27_Fold n C_ref27_Fold R_ref27_Fold [.dat (.sl .byte) s0 o0, .dat (.int .i64) first1 o1, .dat (.int .i64) most2 o2] = ref27_Fold_sh n s0 first1 most2 := by
  unfold ref27_Fold_sh
  rw [show ref27_Fold_l4 ref27_Fold_ret (ref27_Fold_k4_0 n) n = (fun s0 first1 most2 i8 => evLP E_ref27_Fold n (sub C_ref27_Fold [1, 1, 0, 1, 0, 0]) (kBlockP 0 (E_ref27_Fold.cutb 0) (kSeq (evCP E_ref27_Fold (evLP E_ref27_Fold n) (sub C_ref27_Fold [1, 1, 1])) (kFnP E_ref27_Fold R_ref27_Fold))) (frOf [(0, (.dat (.sl .byte) s0 none)), (1, (.dat (.int .i64) first1 none)), (2, (.dat (.int .i64) most2 none)), (8, (.dat (.int .i64) i8 none))])) from by
    funext s0 first1 most2 i8
    refine Eq.trans ?_ (ref27_Fold_l4_ok (kBlockP 0 (E_ref27_Fold.cutb 0) (kSeq (evCP E_ref27_Fold (evLP E_ref27_Fold n) (sub C_ref27_Fold [1, 1, 1])) (kFnP E_ref27_Fold R_ref27_Fold))) n s0 first1 most2 i8).symm
    rw [show (fun s0 first1 most2 => (kBlockP 0 (E_ref27_Fold.cutb 0) (kSeq (evCP E_ref27_Fold (evLP E_ref27_Fold n) (sub C_ref27_Fold [1, 1, 1])) (kFnP E_ref27_Fold R_ref27_Fold))) (.exit 0) (frOf [(0, (.dat (.sl .byte) s0 none)), (1, (.dat (.int .i64) first1 none)), (2, (.dat (.int .i64) most2 none))])) = (ref27_Fold_k4_0 n) from by
      funext s0 first1 most2
      exact ref27_Fold_k4_0_ok n s0 first1 most2]
    all_goals kernel_rfl]
  kernel_rfl
theorem ref27_Fold_sound : SoundG G Tryd.prog 21 s_ref27_Fold := by
  refine sound_of_evP' G_stays (E := E_ref27_Fold) (fn := Tryd.f21) (c := C_ref27_Fold) (tyOk_of_table rfl tis_ok) (fun w S hg => ⟨⟨fns_nil, fun f sp h => cns_nil f sp h w S⟩, gl_none w S hg⟩) follows Tryd.func21 (by kernel_rfl) (by kernel_rfl) (by kernel_rfl) ?_
  intro avs r h
  unfold s_ref27_Fold at h
  split at h
  · simp only [Prod.mk.injEq] at h
    obtain ⟨hp, rfl⟩ := h
    obtain ⟨n, hn⟩ := ref27_Fold_math _ _ _ hp
    exact ⟨n, _, (ref27_Fold_ev n _ _ _ _ _ _).trans hn, .inl rfl⟩
  · cases h

/-! sheave/fold.Again -/

noncomputable def E_fold_Again : EnvP := ⟨⟨tiOf tis, fnsOf [(16, s_fold_Unfold), (20, s_fold_Fold)], cnsOf [], [], 15, (fun _ => none), (fun _ => none), some [6, 7]⟩, fun _ => none, fun _ => none, fun _ => []⟩
noncomputable def C_fold_Again : Code := Tryd.f22.body.getD .skip
noncomputable def R_fold_Again : Array ResultVar := Tryd.f22.results
theorem fold_Again_ev (n : Nat) (s0 : List UInt8) (o0 : Lab) (first1 : Int) (o1 : Lab) (most2 : Int) (o2 : Lab) : evFnP E_fold_Again n C_fold_Again R_fold_Again [.dat (.sl .byte) s0 o0, .dat (.int .i64) first1 o1, .dat (.int .i64) most2 o2] = fold_Again_sh n s0 first1 most2 := by
  kernel_rfl
theorem fold_Again_sound : SoundG G Tryd.prog 22 s_fold_Again := by
  refine sound_of_evP' G_stays (E := E_fold_Again) (fn := Tryd.f22) (c := C_fold_Again) (tyOk_of_table rfl tis_ok) (fun w S hg => ⟨⟨(fns_cons (fold_Unfold_sound w S hg) (fns_cons (fold_Fold_sound w S hg) fns_nil)), fun f sp h => cns_nil f sp h w S⟩, gl_none w S hg⟩) follows Tryd.func22 (by kernel_rfl) (by kernel_rfl) (by kernel_rfl) ?_
  intro avs r h
  unfold s_fold_Again at h
  split at h
  · simp only [Prod.mk.injEq] at h
    obtain ⟨hp, rfl⟩ := h
    obtain ⟨n, hn⟩ := fold_Again_math _ _ _ hp
    exact ⟨n, _, (fold_Again_ev n _ _ _ _ _ _).trans hn, .inl rfl⟩
  · cases h

/-! sheave/sheavelaw27.FoldFolds -/

noncomputable def E_law27_FoldFolds : EnvP := ⟨⟨tiOf tis, fnsOf [(13, s_law27_alive), (14, s_ref27_Unfold), (15, s_ref01_Like), (20, s_fold_Fold), (21, s_ref27_Fold), (22, s_fold_Again)], cnsOf [], [], 75, (fun _ => none), (fun _ => none), some [6]⟩, fun _ => none, fun _ => none, fun _ => []⟩
noncomputable def C_law27_FoldFolds : Code := Tryd.f5.body.getD .skip
noncomputable def R_law27_FoldFolds : Array ResultVar := Tryd.f5.results
theorem law27_FoldFolds_ev (n : Nat) (s0 : List UInt8) (o0 : Lab) (first1 : Int) (o1 : Lab) (most2 : Int) (o2 : Lab) : evFnP E_law27_FoldFolds n C_law27_FoldFolds R_law27_FoldFolds [.dat (.sl .byte) s0 o0, .dat (.int .i64) first1 o1, .dat (.int .i64) most2 o2] = law27_FoldFolds_sh n s0 first1 most2 := by
  kernel_rfl
theorem law27_FoldFolds_sound : SoundG G Tryd.prog 5 s_law27_FoldFolds := by
  refine sound_of_evP' G_stays (E := E_law27_FoldFolds) (fn := Tryd.f5) (c := C_law27_FoldFolds) (tyOk_of_table rfl tis_ok) (fun w S hg => ⟨⟨(fns_cons (law27_alive_sound w S hg) (fns_cons (ref27_Unfold_sound w S hg) (fns_cons (ref01_Like_sound w S hg) (fns_cons (fold_Fold_sound w S hg) (fns_cons (ref27_Fold_sound w S hg) (fns_cons (fold_Again_sound w S hg) fns_nil)))))), fun f sp h => cns_nil f sp h w S⟩, gl_none w S hg⟩) follows Tryd.func5 (by kernel_rfl) (by kernel_rfl) (by kernel_rfl) ?_
  intro avs r h
  unfold s_law27_FoldFolds at h
  split at h
  · simp only [Prod.mk.injEq, true_and] at h
    subst h
    obtain ⟨n, hn⟩ := law27_FoldFolds_math _ _ _
    exact ⟨n, _, (law27_FoldFolds_ev n _ _ _ _ _ _).trans hn, .inl rfl⟩
  · cases h
end Go.Av
