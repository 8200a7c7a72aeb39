import Derived.Test.YtopepdfipgfakaaEcP8
import Derived.Test.YtopepdfipgfakaaEcN
import Derived.Test.YtopepdfipgfakaaProg
import Derived.KernelRfl
namespace Go.Av
open Go.Proofs
set_option maxRecDepth 100000
set_option linter.unusedVariables false
def tis : List (TypeId × TI) := [(2, ⟨some (.int .i64), 8, 0⟩),
  (3, ⟨some (.int .i64), 8, 0⟩),
  (4, ⟨some .bool, 1, 0⟩),
  (5, ⟨some .byte, 1, 0⟩),
  (6, ⟨some .byte, 1, 0⟩),
  (7, ⟨some (.pair (.int .i64) (.pair (.int .i64) (.pair .bool (.pair .byte .unit)))), 24, 0⟩),
  (8, ⟨some (.pair (.int .i64) (.pair (.int .i64) (.pair .bool (.pair .byte .unit)))), 24, 0⟩),
  (9, ⟨some .str, 16, 0⟩),
  (10, ⟨some .str, 16, 0⟩),
  (11, ⟨some .str, 16, 0⟩),
  (12, ⟨some (.int .u64), 8, 0⟩),
  (13, ⟨some (.pair .str (.pair (.int .u64) .unit)), 24, 0⟩),
  (14, ⟨some (.pair .str (.pair (.int .u64) .unit)), 24, 0⟩),
  (21, ⟨some (.int .i32), 4, 0⟩),
  (22, ⟨some (.pair (.int .i64) (.pair (.int .i64) (.pair (.int .i64) .unit))), 24, 0⟩),
  (23, ⟨some (.pair (.int .i64) (.pair (.int .i64) (.pair (.int .i64) .unit))), 24, 0⟩),
  (24, ⟨some (.sl (.int .i32)), 24, 21⟩),
  (26, ⟨some (.int .i64), 8, 0⟩),
  (38, ⟨some (.sl .byte), 24, 5⟩),
  (60, ⟨some (.sl .str), 24, 9⟩),
  (64, ⟨some .unit, 0, 0⟩),
  (65, ⟨some .unit, 0, 0⟩),
  (66, ⟨some .unit, 0, 0⟩),
  (69, ⟨some (.sl (.int .i64)), 24, 3⟩),
  (82, ⟨some (.int .u64), 8, 0⟩),
  (83, ⟨some (.pair .byte (.pair (.int .i32) .unit)), 8, 0⟩),
  (84, ⟨some (.pair .byte (.pair (.int .i32) .unit)), 8, 0⟩),
  (85, ⟨some (.arr 8 (.pair .byte (.pair (.int .i32) .unit))), 64, 84⟩),
  (91, ⟨some (.arr 32 (.int .i32)), 128, 21⟩),
  (92, ⟨some (.int .u32), 4, 0⟩),
  (100, ⟨some .byte, 1, 0⟩),
  (101, ⟨some .byte, 1, 0⟩),
  (104, ⟨some (.int .i32), 4, 0⟩),
  (105, ⟨some (.int .i32), 4, 0⟩)]
theorem tis_ok : (tis.all fun p => tyB Try.prog (tiOf tis) p.1) = true := by kernel_rfl
theorem follows : Try.prog.follows .mixedOrders = true := by kernel_rfl
abbrev G : World → Stable → Prop := Any
theorem G_stays : Stays G := any_stays
theorem gl_none (w : World) (S : Stable) (_ : G w S) : GlOk (fun _ => none) w S := fun g s x h => by cases h
def s_octet_plain : List AV → Bool × AV
  | [.dat .byte a0 _] => (true, (.dat (.int .i64) (octet_plain a0) none))
  | _ => (false, .bad)
def s_internal_bytealg_IndexByteString : List AV → Bool × AV
  | [.dat .str a0 _, .dat .byte a1 _] => (true, (.dat (.int .i64) (internal_bytealg_IndexByteString a0 a1) none))
  | _ => (false, .bad)
def s_internal_stringslite_IndexByte : List AV → Bool × AV
  | [.dat .str a0 _, .dat .byte a1 _] => (true, (.dat (.int .i64) (internal_stringslite_IndexByte a0 a1) none))
  | _ => (false, .bad)
def s_strings_IndexByte : List AV → Bool × AV
  | [.dat .str a0 _, .dat .byte a1 _] => (true, (.dat (.int .i64) (strings_IndexByte a0 a1) none))
  | _ => (false, .bad)
def s_octet_in : List AV → Bool × AV
  | [.dat .str a0 _, .dat .byte a1 _] => (true, (.dat .bool (octet_in a0 a1) none))
  | _ => (false, .bad)
def s_octet_Kinds : List AV → Bool × AV
  | [.dat .byte a0 _] => (true, (.dat (.int .i64) (octet_Kinds a0) none))
  | _ => (false, .bad)
def s_octet_Is : List AV → Bool × AV
  | [.dat .byte a0 _, .dat (.int .i64) a1 _] => (true, (.dat .bool (octet_Is a0 a1) none))
  | _ => (false, .bad)
def s_ref01_has : List AV → Bool × AV
  | [.dat .str a0 _, .dat .byte a1 _] => (ref01_has_ok a0 a1, (.dat .bool (ref01_has a0 a1) none))
  | _ => (false, .bad)
def s_scalar_Surrogate : List AV → Bool × AV
  | [.dat (.int .i32) a0 _] => (true, (.dat .bool (scalar_Surrogate a0) none))
  | _ => (false, .bad)
def s_scalar_Is : List AV → Bool × AV
  | [.dat (.int .i32) a0 _] => (true, (.dat .bool (scalar_Is a0) none))
  | _ => (false, .bad)
def s_slices_Index___rune_rune_ : List AV → Bool × AV
  | [.dat (.sl (.int .i32)) a0 _, .dat (.int .i32) a1 _] => (slices_Index___rune_rune__ok a0 a1, (.dat (.int .i64) (slices_Index___rune_rune_ a0 a1) none))
  | _ => (false, .bad)
def s_ref02_Digit : List AV → Bool × AV
  | [.dat (.int .i64) a0 _] => (ref02_Digit_ok a0, (.dat .byte (ref02_Digit a0) none))
  | _ => (false, .bad)
def s_winone_others : List AV → Bool × AV
  | [] => (true, (.dat (.sl (.int .i32)) winone_others none))
  | _ => (false, .bad)
def s_winone_Put : List AV → Bool × AV
  | [.dat (.int .i32) a0 _] => (true, (.tup [(.dat .byte ((winone_Put a0).1) none), (.dat .bool ((winone_Put a0).2) none)]))
  | _ => (false, .bad)
def s_winone_Has : List AV → Bool × AV
  | [.dat (.int .i32) a0 _] => (true, (.dat .bool (winone_Has a0) none))
  | _ => (false, .bad)
def s_latin_Has : List AV → Bool × AV
  | [.dat (.int .i32) a0 _] => (true, (.dat .bool (latin_Has a0) none))
  | _ => (false, .bad)
def s_latnine_others : List AV → Bool × AV
  | [] => (true, (.dat (.arr 8 (.pair .byte (.pair (.int .i32) .unit))) latnine_others none))
  | _ => (false, .bad)
def s_latnine_Put : List AV → Bool × AV
  | [.dat (.int .i32) a0 _] => (true, (.tup [(.dat .byte ((latnine_Put a0).1) none), (.dat .bool ((latnine_Put a0).2) none)]))
  | _ => (false, .bad)
def s_latnine_Has : List AV → Bool × AV
  | [.dat (.int .i32) a0 _] => (true, (.dat .bool (latnine_Has a0) none))
  | _ => (false, .bad)
def s_reper_Has : List AV → Bool × AV
  | [.dat (.int .i64) a0 _, .dat (.int .i32) a1 _] => (true, (.dat .bool (reper_Has a0 a1) none))
  | _ => (false, .bad)
def s_ref03_Surrogate : List AV → Bool × AV
  | [.dat (.int .i32) a0 _] => (true, (.dat .bool (ref03_Surrogate a0) none))
  | _ => (false, .bad)
def s_ref01_Kinds : List AV → Bool × AV
  | [.dat .byte a0 _] => (true, (.dat (.int .i64) (ref01_Kinds a0) none))
  | _ => (false, .bad)
def s_ref03_Is : List AV → Bool × AV
  | [.dat (.int .i32) a0 _] => (true, (.dat .bool (ref03_Is a0) none))
  | _ => (false, .bad)
def s_ref08_Sign : List AV → Bool × AV
  | [.dat .byte a0 _] => (true, (.dat (.int .i32) (ref08_Sign a0) none))
  | _ => (false, .bad)
def s_ref09_Sign : List AV → Bool × AV
  | [.dat .byte a0 _] => (true, (.dat (.int .i32) (ref09_Sign a0) none))
  | _ => (false, .bad)
def s_ref10_Sign : List AV → Bool × AV
  | [.dat .byte a0 _] => (true, (.dat (.int .i32) (ref10_Sign a0) none))
  | _ => (false, .bad)
def s_ref01_Is : List AV → Bool × AV
  | [.dat .byte a0 _, .dat (.int .i64) a1 _] => (true, (.dat .bool (ref01_Is a0 a1) none))
  | _ => (false, .bad)
def s_ref02_Put : List AV → Bool × AV
  | [.dat (.sl .byte) a0 _, .dat .byte a1 _, .dat .byte a2 _] => (ref02_Put_ok a0 a1 a2, (.dat (.sl .byte) (ref02_Put a0 a1 a2) (some (6, 5))))
  | _ => (false, .bad)
def s_reper_Lacks : List AV → Bool × AV
  | [.dat (.int .i64) a0 _, .dat (.sl (.int .i32)) a1 _] => (reper_Lacks_ok a0 a1, (.dat (.int .i64) (reper_Lacks a0 a1) none))
  | _ => (false, .bad)
def s_utfone_Len : List AV → Bool × AV
  | [.dat (.int .i32) a0 _] => (true, (.dat (.int .i64) (utfone_Len a0) none))
  | _ => (false, .bad)
def s_utfone_lead : List AV → Bool × AV
  | [.dat (.int .i64) a0 _] => (true, (.dat .byte (utfone_lead a0) none))
  | _ => (false, .bad)
def s_bytes_Clone : List AV → Bool × AV
  | [.dat (.sl .byte) a0 _] => (bytes_Clone_ok a0, (.dat (.sl .byte) (bytes_Clone a0) (some (0, 5))))
  | _ => (false, .bad)
def s_utfone_Put : List AV → Bool × AV
  | [.dat (.sl .byte) a0 _, .dat (.int .i32) a1 _] => (utfone_Put_ok a0 a1, (.tup [(.dat (.sl .byte) ((utfone_Put a0 a1).1) none), (.dat (.int .i64) ((utfone_Put a0 a1).2) none)]))
  | _ => (false, .bad)
def s_winone_Lacks : List AV → Bool × AV
  | [.dat (.sl (.int .i32)) a0 _] => (winone_Lacks_ok a0, (.dat (.int .i64) (winone_Lacks a0) none))
  | _ => (false, .bad)
def s_latin_Lacks : List AV → Bool × AV
  | [.dat (.sl (.int .i32)) a0 _] => (latin_Lacks_ok a0, (.dat (.int .i64) (latin_Lacks a0) none))
  | _ => (false, .bad)
def s_latin_Lay : List AV → Bool × AV
  | [.dat (.sl (.int .i32)) a0 _] => (latin_Lay_ok a0, (.tup [(.dat (.sl .byte) ((latin_Lay a0).1) none), (.dat (.int .i64) ((latin_Lay a0).2) none)]))
  | _ => (false, .bad)
def s_latnine_Lay : List AV → Bool × AV
  | [.dat (.sl (.int .i32)) a0 _] => (latnine_Lay_ok a0, (.tup [(.dat (.sl .byte) ((latnine_Lay a0).1) none), (.dat (.int .i64) ((latnine_Lay a0).2) none)]))
  | _ => (false, .bad)
def s_winone_Lay : List AV → Bool × AV
  | [.dat (.sl (.int .i32)) a0 _] => (winone_Lay_ok a0, (.tup [(.dat (.sl .byte) ((winone_Lay a0).1) none), (.dat (.int .i64) ((winone_Lay a0).2) none)]))
  | _ => (false, .bad)
def s_scalar_First_1 : List AV → Bool × AV
  | [.dat (.int .i32) a0 _] => (true, (.dat .bool (scalar_First_1 a0) none))
  | _ => (false, .bad)
def s_slices_IndexFunc___rune_rune_ : List AV → Bool × AV
  | [.dat (.sl (.int .i32)) a0 _, .fn 89 []] => (slices_IndexFunc___rune_rune__ok a0, (.dat (.int .i64) (slices_IndexFunc___rune_rune_ a0) none))
  | _ => (false, .bad)
def s_scalar_First : List AV → Bool × AV
  | [.dat (.sl (.int .i32)) a0 _] => (scalar_First_ok a0, (.dat (.int .i64) (scalar_First a0) none))
  | _ => (false, .bad)
def s_scalar_Right : List AV → Bool × AV
  | [.dat (.sl (.int .i32)) a0 _] => (scalar_Right_ok a0, (.dat .bool (scalar_Right a0) none))
  | _ => (false, .bad)
def s_utfall_Lay : List AV → Bool × AV
  | [.dat (.sl (.int .i32)) a0 _] => (utfall_Lay_ok a0, (.tup [(.dat (.sl .byte) ((utfall_Lay a0).1) none), (.dat (.int .i64) ((utfall_Lay a0).2) none)]))
  | _ => (false, .bad)
def s_reper_Size : List AV → Bool × AV
  | [.dat (.int .i64) a0 _] => (true, (.dat (.int .i64) (reper_Size a0) none))
  | _ => (false, .bad)
def s_reper_All : List AV → Bool × AV
  | [.dat (.int .i64) a0 _, .dat (.sl (.int .i32)) a1 _] => (reper_All_ok a0 a1, (.dat .bool (reper_All a0 a1) none))
  | _ => (false, .bad)
def s_codec_Lay : List AV → Bool × AV
  | [.dat (.int .i64) a0 _, .dat (.sl (.int .i32)) a1 _] => (codec_Lay_ok a0 a1, (.tup [(.dat (.sl .byte) ((codec_Lay a0 a1).1) none), (.dat (.int .i64) ((codec_Lay a0 a1).2) none)]))
  | _ => (false, .bad)
def s_qword_One : List AV → Bool × AV
  | [.dat .byte a0 _] => (true, (.dat (.int .i64) (qword_One a0) none))
  | _ => (false, .bad)
def s_bcode_Len : List AV → Bool × AV
  | [.dat (.int .i64) a0 _] => (true, (.dat (.int .i64) (bcode_Len a0) none))
  | _ => (false, .bad)
def s_qword_Len : List AV → Bool × AV
  | [.dat (.sl .byte) a0 _] => (qword_Len_ok a0, (.dat (.int .i64) (qword_Len a0) none))
  | _ => (false, .bad)
def s__ewcost_byB__letter : List AV → Bool × AV
  | [.dat .unit a0 _] => (true, (.dat (.int .i64) (_ewcost_byB__letter a0) none))
  | _ => (false, .bad)
def s__ewcost_byQ__letter : List AV → Bool × AV
  | [.dat .unit a0 _] => (true, (.dat (.int .i64) (_ewcost_byQ__letter a0) none))
  | _ => (false, .bad)
def s_ewcost_of : List AV → Bool × AV
  | [.dat (.int .i64) a0 _] => (true, ewcost_of a0)
  | _ => (false, .bad)
def s_ewcost_measure : List AV → Bool × AV
  | [.iface 65 (.dat .unit () none), .dat (.sl .byte) a1 _] => (ewcost_measure_ok a1, .tup [.dat (.int .i64) (bcode_Len ((List.length a1 : Nat) : Int)) none, .dat .bool true none])
  | [.iface 66 (.dat .unit () none), .dat (.sl .byte) a1 _] => (ewcost_measure_ok a1, .tup [.dat (.int .i64) (qword_Len a1) none, .dat .bool true none])
  | [.nilIface, .dat (.sl .byte) a1 _] => (true, .tup [.dat (.int .i64) (0 : Int) none, .dat .bool false none])
  | _ => (false, .bad)
def s_ewcost_measure_v0 : List AV → Bool × AV
  | [.iface 65 (.dat .unit () none), .dat (.sl .byte) a1 _] => (true, .tup [.dat (.int .i64) (bcode_Len ((List.length a1 : Nat) : Int)) none, .dat .bool true none])
  | _ => (false, .bad)
def s_ewcost_measure_v1 : List AV → Bool × AV
  | [.iface 66 (.dat .unit () none), .dat (.sl .byte) a1 _] => (ewcost_measure_ok a1, .tup [.dat (.int .i64) (qword_Len a1) none, .dat .bool true none])
  | _ => (false, .bad)
def s_ewcost_measure_v2 : List AV → Bool × AV
  | [.nilIface, .dat (.sl .byte) a1 _] => (true, .tup [.dat (.int .i64) (0 : Int) none, .dat .bool false none])
  | _ => (false, .bad)
def s_label_Names : List AV → Bool × AV
  | [.dat (.int .i64) a0 _] => (true, (.dat (.sl .str) (label_Names a0) (some (2, 9))))
  | _ => (false, .bad)
def s_label_Name : List AV → Bool × AV
  | [.dat (.int .i64) a0 _] => (true, (.dat .str (label_Name a0) none))
  | _ => (false, .bad)
def s_label_IsCharset : List AV → Bool × AV
  | [.dat (.int .i64) a0 _] => (true, (.dat .bool (label_IsCharset a0) none))
  | _ => (false, .bad)
def s_ewform_letter : List AV → Bool × AV
  | [.dat (.int .i64) a0 _] => (true, (.dat .str (ewform_letter a0) none))
  | _ => (false, .bad)
def s_ewform_frame : List AV → Bool × AV
  | [.dat (.int .i64) a0 _, .dat (.int .i64) a1 _] => (true, (.dat .str (ewform_frame a0 a1) none))
  | _ => (false, .bad)
def s_ewform_Over : List AV → Bool × AV
  | [.dat (.int .i64) a0 _] => (true, (.dat (.int .i64) (ewform_Over a0) none))
  | _ => (false, .bad)
def s_ewcost_text : List AV → Bool × AV
  | [.dat (.int .i64) a0 _, .dat (.int .i64) a1 _, .dat (.sl (.int .i32)) a2 _] => (ewcost_text_ok a0 a1 a2, (.tup [(.dat (.int .i64) ((ewcost_text a0 a1 a2).1) none), (.dat (.int .i64) ((ewcost_text a0 a1 a2).2) none)]))
  | _ => (false, .bad)
def s_ewcost_Len : List AV → Bool × AV
  | [.dat (.int .i64) a0 _, .dat (.int .i64) a1 _, .dat (.sl (.int .i32)) a2 _] => (ewcost_Len_ok a0 a1 a2, (.tup [(.dat (.int .i64) ((ewcost_Len a0 a1 a2).1) none), (.dat (.int .i64) ((ewcost_Len a0 a1 a2).2) none)]))
  | _ => (false, .bad)
def s_ewcost_Text : List AV → Bool × AV
  | [.dat (.int .i64) a0 _, .dat (.int .i64) a1 _, .dat (.sl (.int .i32)) a2 _] => (ewcost_Text_ok a0 a1 a2, (.dat (.int .i64) (ewcost_Text a0 a1 a2) none))
  | _ => (false, .bad)
def s_ewcost_Saved : List AV → Bool × AV
  | [.dat (.int .i64) a0 _, .dat (.sl (.int .i32)) a1 _] => (ewcost_Saved_ok a0 a1, (.dat (.int .i64) (ewcost_Saved a0 a1) none))
  | _ => (false, .bad)
def s_ewcost_Better : List AV → Bool × AV
  | [.dat (.int .i64) a0 _, .dat (.sl (.int .i32)) a1 _] => (ewcost_Better_ok a0 a1, (.tup [(.dat (.int .i64) ((ewcost_Better a0 a1).1) none), (.dat (.int .i64) ((ewcost_Better a0 a1).2) none)]))
  | _ => (false, .bad)
def s_ewcost_Fits : List AV → Bool × AV
  | [.dat (.int .i64) a0 _, .dat (.int .i64) a1 _, .dat (.sl (.int .i32)) a2 _, .dat (.int .i64) a3 _] => (ewcost_Fits_ok a0 a1 a2 a3, (.dat .bool (ewcost_Fits a0 a1 a2 a3) none))
  | _ => (false, .bad)
def s_ewcost_Prefix : List AV → Bool × AV
  | [.dat (.int .i64) a0 _, .dat (.int .i64) a1 _, .dat (.sl (.int .i32)) a2 _, .dat (.int .i64) a3 _] => (ewcost_Prefix_ok a0 a1 a2 a3, (.dat (.int .i64) (ewcost_Prefix a0 a1 a2 a3) none))
  | _ => (false, .bad)
def s_ref14_Digit : List AV → Bool × AV
  | [.dat (.int .i64) a0 _] => (true, (.dat .byte (ref14_Digit a0) none))
  | _ => (false, .bad)
def s_ref14_number : List AV → Bool × AV
  | [.dat (.sl (.int .i64)) a0 _] => (ref14_number_ok a0, (.dat (.int .i64) (ref14_number a0) none))
  | _ => (false, .bad)
def s_ref14_Bits : List AV → Bool × AV
  | [.dat (.sl .byte) a0 _] => (ref14_Bits_ok a0, (.dat (.sl (.int .i64)) (ref14_Bits a0) (some (2, 3))))
  | _ => (false, .bad)
def s_ref14_Bare : List AV → Bool × AV
  | [.dat (.sl .byte) a0 _] => (ref14_Bare_ok a0, (.dat (.sl .byte) (ref14_Bare a0) (some (2, 5))))
  | _ => (false, .bad)
def s_ref14_Lay : List AV → Bool × AV
  | [.dat (.sl .byte) a0 _] => (ref14_Lay_ok a0, (.dat (.sl .byte) (ref14_Lay a0) (some (2, 5))))
  | _ => (false, .bad)
def s_ref20_one : List AV → Bool × AV
  | [.dat .byte a0 _] => (true, (.dat (.sl .byte) (ref20_one a0) (some (2, 5))))
  | _ => (false, .bad)
def s_ref20_Lay : List AV → Bool × AV
  | [.dat (.sl .byte) a0 _] => (ref20_Lay_ok a0, (.dat (.sl .byte) (ref20_Lay a0) (some (2, 5))))
  | _ => (false, .bad)
def s_ref08_Put : List AV → Bool × AV
  | [.dat (.int .i32) a0 _] => (true, (.tup [(.dat .byte ((ref08_Put a0).1) none), (.dat .bool ((ref08_Put a0).2) none)]))
  | _ => (false, .bad)
def s_ref09_Put : List AV → Bool × AV
  | [.dat (.int .i32) a0 _] => (true, (.tup [(.dat .byte ((ref09_Put a0).1) none), (.dat .bool ((ref09_Put a0).2) none)]))
  | _ => (false, .bad)
def s_ref10_Put : List AV → Bool × AV
  | [.dat (.int .i32) a0 _] => (true, (.tup [(.dat .byte ((ref10_Put a0).1) none), (.dat .bool ((ref10_Put a0).2) none)]))
  | _ => (false, .bad)
def s_ref04_Octets : List AV → Bool × AV
  | [.dat (.int .i32) a0 _] => (true, (.dat (.sl .byte) (ref04_Octets a0) (some (2, 5))))
  | _ => (false, .bad)
def s_ref12_Has : List AV → Bool × AV
  | [.dat (.int .i64) a0 _, .dat (.int .i32) a1 _] => (true, (.dat .bool (ref12_Has a0 a1) none))
  | _ => (false, .bad)
def s_ref13_octets : List AV → Bool × AV
  | [.dat (.int .i64) a0 _, .dat (.int .i32) a1 _] => (true, (.dat (.sl .byte) (ref13_octets a0 a1) (some (4, 5))))
  | _ => (false, .bad)
def s_ref11_Names : List AV → Bool × AV
  | [.dat (.int .i64) a0 _] => (true, (.dat (.sl .str) (ref11_Names a0) (some (2, 9))))
  | _ => (false, .bad)
def s_ref11_Name : List AV → Bool × AV
  | [.dat (.int .i64) a0 _] => (true, (.dat .str (ref11_Name a0) none))
  | _ => (false, .bad)
def s_ref29_Over : List AV → Bool × AV
  | [.dat (.int .i64) a0 _] => (true, (.dat (.int .i64) (ref29_Over a0) none))
  | _ => (false, .bad)
def s_ref13_Lay : List AV → Bool × AV
  | [.dat (.int .i64) a0 _, .dat (.sl (.int .i32)) a1 _] => (ref13_Lay_ok a0 a1, (.tup [(.dat (.sl .byte) ((ref13_Lay a0 a1).1) none), (.dat (.int .i64) ((ref13_Lay a0 a1).2) none)]))
  | _ => (false, .bad)
def s_ref29_Lay : List AV → Bool × AV
  | [.dat (.int .i64) a0 _, .dat (.int .i64) a1 _, .dat (.sl .byte) a2 _] => (ref29_Lay_ok a0 a1 a2, (.tup [(.dat (.sl .byte) ((ref29_Lay a0 a1 a2).1) none), (.dat (.int .i64) ((ref29_Lay a0 a1 a2).2) none)]))
  | _ => (false, .bad)
def s_ref30_Len : List AV → Bool × AV
  | [.dat (.int .i64) a0 _, .dat (.int .i64) a1 _, .dat (.sl (.int .i32)) a2 _] => (ref30_Len_ok a0 a1 a2, (.tup [(.dat (.int .i64) ((ref30_Len a0 a1 a2).1) none), (.dat (.int .i64) ((ref30_Len a0 a1 a2).2) none)]))
  | _ => (false, .bad)
def s_ref30_Better : List AV → Bool × AV
  | [.dat (.int .i64) a0 _, .dat (.sl (.int .i32)) a1 _] => (ref30_Better_ok a0 a1, (.tup [(.dat (.int .i64) ((ref30_Better a0 a1).1) none), (.dat (.int .i64) ((ref30_Better a0 a1).2) none)]))
  | _ => (false, .bad)
def s_ref30_Text : List AV → Bool × AV
  | [.dat (.int .i64) a0 _, .dat (.int .i64) a1 _, .dat (.sl (.int .i32)) a2 _] => (ref30_Text_ok a0 a1 a2, (.dat (.int .i64) (ref30_Text a0 a1 a2) none))
  | _ => (false, .bad)
def s_ref30_Fits : List AV → Bool × AV
  | [.dat (.int .i64) a0 _, .dat (.int .i64) a1 _, .dat (.sl (.int .i32)) a2 _, .dat (.int .i64) a3 _] => (ref30_Fits_ok a0 a1 a2 a3, (.dat .bool (ref30_Fits a0 a1 a2 a3) none))
  | _ => (false, .bad)
def s_ref30_Prefix : List AV → Bool × AV
  | [.dat (.int .i64) a0 _, .dat (.int .i64) a1 _, .dat (.sl (.int .i32)) a2 _, .dat (.int .i64) a3 _] => (ref30_Prefix_ok a0 a1 a2 a3, (.dat (.int .i64) (ref30_Prefix a0 a1 a2 a3) none))
  | _ => (false, .bad)
def s_law30_alive : List AV → Bool × AV
  | [] => (true, (.dat .bool law30_alive none))
  | _ => (false, .bad)
def s_law30_EwcostLens : List AV → Bool × AV
  | [.dat (.pair (.int .i64) (.pair (.int .i64) (.pair (.int .i64) .unit))) a0 _, .dat (.sl (.int .i32)) a1 _] => (law30_EwcostLens_ok a0 a1, (.dat .bool (law30_EwcostLens a0 a1) none))
  | _ => (false, .bad)
def s_law30_EwcostFits : List AV → Bool × AV
  | [.dat (.pair (.int .i64) (.pair (.int .i64) (.pair (.int .i64) .unit))) a0 _, .dat (.sl (.int .i32)) a1 _] => (law30_EwcostFits_ok a0 a1, (.dat .bool (law30_EwcostFits a0 a1) none))
  | _ => (false, .bad)
def s_law30_EwcostLaid : List AV → Bool × AV
  | [.dat (.pair (.int .i64) (.pair (.int .i64) (.pair (.int .i64) .unit))) a0 _, .dat (.sl (.int .i32)) a1 _] => (law30_EwcostLaid_ok a0 a1, (.dat .bool (law30_EwcostLaid a0 a1) none))
  | _ => (false, .bad)
def s_law30_EwcostRises : List AV → Bool × AV
  | [.dat (.pair (.int .i64) (.pair (.int .i64) (.pair (.int .i64) .unit))) a0 _, .dat (.sl (.int .i32)) a1 _] => (law30_EwcostRises_ok a0 a1, (.dat .bool (law30_EwcostRises a0 a1) none))
  | _ => (false, .bad)

/-! what has no body -/

theorem internal_bytealg_IndexByteString_sound : SoundG G Try.prog 96 s_internal_bytealg_IndexByteString := fun w S hg vals avs r h hS ha => by
  unfold s_internal_bytealg_IndexByteString at h
  split at h
  · simp only [Prod.mk.injEq, true_and] at h
    subst h
    exact internal_bytealg_IndexByteString_sound' Try.func96 (by kernel_rfl) (by kernel_rfl) (by kernel_rfl) (by kernel_rfl) hS ha
  · cases h
theorem bytes_Clone_sound : SoundG G Try.prog 77 s_bytes_Clone := fun w S hg vals avs r h hS ha => by
  unfold s_bytes_Clone at h
  split at h
  · simp only [Prod.mk.injEq] at h
    obtain ⟨hp, rfl⟩ := h
    exact bytes_Clone_sound' hS ha (lenOk_le hp)
  · cases h


/-! sheave/octet.plain -/

noncomputable def E_octet_plain : EnvP := ⟨⟨tiOf tis, fnsOf [], cnsOf [], [], 46, (fun _ => none), (fun x => if x = 0 then some [3] else none), some [2]⟩, fun _ => none, fun _ => none, fun _ => [], fun _ => none⟩
noncomputable def C_octet_plain : Code := Try.f92.body.getD .skip
noncomputable def R_octet_plain : Array ResultVar := Try.f92.results
theorem octet_plain_ev (n : Nat) (c0 : UInt8) (o0 : Lab) : evFnP E_octet_plain n C_octet_plain R_octet_plain [.dat .byte c0 o0] = octet_plain_sh n c0 := by
  kernel_rfl
theorem octet_plain_sound : SoundG G Try.prog 92 s_octet_plain := by
  refine sound_of_evP' G_stays (E := E_octet_plain) (fn := Try.f92) (c := C_octet_plain) (tyOk_of_table rfl tis_ok) (fun w S hg => ⟨⟨fns_nil, fun f sp h => cns_nil f sp h w S⟩, gl_none w S hg, fun _ _ h => by cases h⟩) follows Try.func92 (by kernel_rfl) (by kernel_rfl) (by kernel_rfl) ?_
  intro avs r h
  unfold s_octet_plain at h
  split at h
  · simp only [Prod.mk.injEq, true_and] at h
    subst h
    obtain ⟨n, hn⟩ := octet_plain_math _
    exact ⟨n, _, (octet_plain_ev n _ _).trans hn, .inl rfl⟩
  · cases h

/-! internal/stringslite.IndexByte -/

noncomputable def E_internal_stringslite_IndexByte : EnvP := ⟨⟨tiOf tis, fnsOf [(96, s_internal_bytealg_IndexByteString)], cnsOf [], [], 8, (fun _ => none), (fun _ => none), some [4]⟩, fun _ => none, fun _ => none, fun _ => [], fun _ => none⟩
noncomputable def C_internal_stringslite_IndexByte : Code := Try.f95.body.getD .skip
noncomputable def R_internal_stringslite_IndexByte : Array ResultVar := Try.f95.results
theorem internal_stringslite_IndexByte_ev (n : Nat) (s0 : List UInt8) (o0 : Lab) (c1 : UInt8) (o1 : Lab) : evFnP E_internal_stringslite_IndexByte n C_internal_stringslite_IndexByte R_internal_stringslite_IndexByte [.dat .str s0 o0, .dat .byte c1 o1] = internal_stringslite_IndexByte_sh n s0 c1 := by
  kernel_rfl
theorem internal_stringslite_IndexByte_sound : SoundG G Try.prog 95 s_internal_stringslite_IndexByte := by
  refine sound_of_evP' G_stays (E := E_internal_stringslite_IndexByte) (fn := Try.f95) (c := C_internal_stringslite_IndexByte) (tyOk_of_table rfl tis_ok) (fun w S hg => ⟨⟨(fns_cons (internal_bytealg_IndexByteString_sound w S hg) fns_nil), fun f sp h => cns_nil f sp h w S⟩, gl_none w S hg, fun _ _ h => by cases h⟩) follows Try.func95 (by kernel_rfl) (by kernel_rfl) (by kernel_rfl) ?_
  intro avs r h
  unfold s_internal_stringslite_IndexByte at h
  split at h
  · simp only [Prod.mk.injEq, true_and] at h
    subst h
    obtain ⟨n, hn⟩ := internal_stringslite_IndexByte_math _ _
    exact ⟨n, _, (internal_stringslite_IndexByte_ev n _ _ _ _).trans hn, .inl rfl⟩
  · cases h

/-! strings.IndexByte -/

noncomputable def E_strings_IndexByte : EnvP := ⟨⟨tiOf tis, fnsOf [(95, s_internal_stringslite_IndexByte)], cnsOf [], [], 8, (fun _ => none), (fun _ => none), some [4]⟩, fun _ => none, fun _ => none, fun _ => [], fun _ => none⟩
noncomputable def C_strings_IndexByte : Code := Try.f94.body.getD .skip
noncomputable def R_strings_IndexByte : Array ResultVar := Try.f94.results
theorem strings_IndexByte_ev (n : Nat) (s0 : List UInt8) (o0 : Lab) (c1 : UInt8) (o1 : Lab) : evFnP E_strings_IndexByte n C_strings_IndexByte R_strings_IndexByte [.dat .str s0 o0, .dat .byte c1 o1] = strings_IndexByte_sh n s0 c1 := by
  kernel_rfl
theorem strings_IndexByte_sound : SoundG G Try.prog 94 s_strings_IndexByte := by
  refine sound_of_evP' G_stays (E := E_strings_IndexByte) (fn := Try.f94) (c := C_strings_IndexByte) (tyOk_of_table rfl tis_ok) (fun w S hg => ⟨⟨(fns_cons (internal_stringslite_IndexByte_sound w S hg) fns_nil), fun f sp h => cns_nil f sp h w S⟩, gl_none w S hg, fun _ _ h => by cases h⟩) follows Try.func94 (by kernel_rfl) (by kernel_rfl) (by kernel_rfl) ?_
  intro avs r h
  unfold s_strings_IndexByte at h
  split at h
  · simp only [Prod.mk.injEq, true_and] at h
    subst h
    obtain ⟨n, hn⟩ := strings_IndexByte_math _ _
    exact ⟨n, _, (strings_IndexByte_ev n _ _ _ _).trans hn, .inl rfl⟩
  · cases h

/-! sheave/octet.in -/

noncomputable def E_octet_in : EnvP := ⟨⟨tiOf tis, fnsOf [(94, s_strings_IndexByte)], cnsOf [], [], 9, (fun _ => none), (fun _ => none), some [4]⟩, fun _ => none, fun _ => none, fun _ => [], fun _ => none⟩
noncomputable def C_octet_in : Code := Try.f93.body.getD .skip
noncomputable def R_octet_in : Array ResultVar := Try.f93.results
theorem octet_in_ev (n : Nat) (s0 : List UInt8) (o0 : Lab) (c1 : UInt8) (o1 : Lab) : evFnP E_octet_in n C_octet_in R_octet_in [.dat .str s0 o0, .dat .byte c1 o1] = octet_in_sh n s0 c1 := by
  kernel_rfl
theorem octet_in_sound : SoundG G Try.prog 93 s_octet_in := by
  refine sound_of_evP' G_stays (E := E_octet_in) (fn := Try.f93) (c := C_octet_in) (tyOk_of_table rfl tis_ok) (fun w S hg => ⟨⟨(fns_cons (strings_IndexByte_sound w S hg) fns_nil), fun f sp h => cns_nil f sp h w S⟩, gl_none w S hg, fun _ _ h => by cases h⟩) follows Try.func93 (by kernel_rfl) (by kernel_rfl) (by kernel_rfl) ?_
  intro avs r h
  unfold s_octet_in at h
  split at h
  · simp only [Prod.mk.injEq, true_and] at h
    subst h
    obtain ⟨n, hn⟩ := octet_in_math _ _
    exact ⟨n, _, (octet_in_ev n _ _ _ _).trans hn, .inl rfl⟩
  · cases h

/-! sheave/octet.Kinds -/

noncomputable def E_octet_Kinds : EnvP := ⟨⟨tiOf tis, fnsOf [(92, s_octet_plain), (93, s_octet_in)], cnsOf [], [], 35, (fun _ => none), (fun _ => none), some [2]⟩, fun _ => none, fun _ => none, fun _ => [], fun _ => none⟩
noncomputable def C_octet_Kinds : Code := Try.f90.body.getD .skip
noncomputable def R_octet_Kinds : Array ResultVar := Try.f90.results
theorem octet_Kinds_ev (n : Nat) (c0 : UInt8) (o0 : Lab) : evFnP E_octet_Kinds n C_octet_Kinds R_octet_Kinds [.dat .byte c0 o0] = octet_Kinds_sh n c0 := by
  kernel_rfl
theorem octet_Kinds_sound : SoundG G Try.prog 90 s_octet_Kinds := by
  refine sound_of_evP' G_stays (E := E_octet_Kinds) (fn := Try.f90) (c := C_octet_Kinds) (tyOk_of_table rfl tis_ok) (fun w S hg => ⟨⟨(fns_cons (octet_plain_sound w S hg) (fns_cons (octet_in_sound w S hg) fns_nil)), fun f sp h => cns_nil f sp h w S⟩, gl_none w S hg, fun _ _ h => by cases h⟩) follows Try.func90 (by kernel_rfl) (by kernel_rfl) (by kernel_rfl) ?_
  intro avs r h
  unfold s_octet_Kinds at h
  split at h
  · simp only [Prod.mk.injEq, true_and] at h
    subst h
    obtain ⟨n, hn⟩ := octet_Kinds_math _
    exact ⟨n, _, (octet_Kinds_ev n _ _).trans hn, .inl rfl⟩
  · cases h

/-! sheave/octet.Is -/

noncomputable def E_octet_Is : EnvP := ⟨⟨tiOf tis, fnsOf [(90, s_octet_Kinds)], cnsOf [], [], 10, (fun _ => none), (fun _ => none), some [4]⟩, fun _ => none, fun _ => none, fun _ => [], fun _ => none⟩
noncomputable def C_octet_Is : Code := Try.f84.body.getD .skip
noncomputable def R_octet_Is : Array ResultVar := Try.f84.results
theorem octet_Is_ev (n : Nat) (c0 : UInt8) (o0 : Lab) (kinds1 : Int) (o1 : Lab) : evFnP E_octet_Is n C_octet_Is R_octet_Is [.dat .byte c0 o0, .dat (.int .i64) kinds1 o1] = octet_Is_sh n c0 kinds1 := by
  kernel_rfl
theorem octet_Is_sound : SoundG G Try.prog 84 s_octet_Is := by
  refine sound_of_evP' G_stays (E := E_octet_Is) (fn := Try.f84) (c := C_octet_Is) (tyOk_of_table rfl tis_ok) (fun w S hg => ⟨⟨(fns_cons (octet_Kinds_sound w S hg) fns_nil), fun f sp h => cns_nil f sp h w S⟩, gl_none w S hg, fun _ _ h => by cases h⟩) follows Try.func84 (by kernel_rfl) (by kernel_rfl) (by kernel_rfl) ?_
  intro avs r h
  unfold s_octet_Is at h
  split at h
  · simp only [Prod.mk.injEq, true_and] at h
    subst h
    obtain ⟨n, hn⟩ := octet_Is_math _ _
    exact ⟨n, _, (octet_Is_ev n _ _ _ _).trans hn, .inl rfl⟩
  · cases h

/-! sheave/sheaveref01.has -/

noncomputable def E_ref01_has : EnvP := ⟨⟨tiOf tis, fnsOf [], cnsOf [], [], 17, (fun x => if x = 2 then some [0, 1, 5] else none), (fun x => if x = 0 then some [] else if x = 1 then some [0, 1, 5] else none), some [4]⟩, fun _ => none, fun _ => none, fun _ => [], fun _ => none⟩
noncomputable def C_ref01_has : Code := Try.f85.body.getD .skip
noncomputable def R_ref01_has : Array ResultVar := Try.f85.results
theorem ref01_has_l2_ok (K : Ex → Fr → Option AV) : ∀ (n : Nat) (s0 : List UInt8) (c1 : UInt8) (i5 : Int), evLP E_ref01_has n (sub C_ref01_has [1, 0, 1, 0, 0]) K (frOf [(0, (.dat .str s0 none)), (1, (.dat .byte c1 none)), (5, (.dat (.int .i64) i5 none))]) = ref01_has_l2 (fun s4 => K .ret (frOf [(4, (.dat .bool s4 none))])) (K (.exit 0) (frOf [])) n s0 c1 i5 := by
  intro n
  induction n with
  | zero => intros; rfl
  | succ n IH =>
  intro s0 c1 i5
  have ih : (fun s0 c1 i5 => evLP E_ref01_has n (sub C_ref01_has [1, 0, 1, 0, 0]) K (frOf [(0, (.dat .str s0 none)), (1, (.dat .byte c1 none)), (5, (.dat (.int .i64) i5 none))])) = ref01_has_l2 (fun s4 => K .ret (frOf [(4, (.dat .bool s4 none))])) (K (.exit 0) (frOf [])) n := by
    funext s0 c1 i5
    exact IH s0 c1 i5
  show _ = ref01_has_l2_b (fun s4 => K .ret (frOf [(4, (.dat .bool s4 none))])) (K (.exit 0) (frOf [])) (ref01_has_l2 (fun s4 => K .ret (frOf [(4, (.dat .bool s4 none))])) (K (.exit 0) (frOf [])) n) n s0 c1 i5
  rw [← ih]
  kernel_rfl
theorem ref01_has_k2_0_ok (n : Nat)  : (kBlockP 0 (E_ref01_has.cutb 0) (kSeq (evCP E_ref01_has (evLP E_ref01_has n) (sub C_ref01_has [1, 1])) (kFnP E_ref01_has R_ref01_has))) (.exit 0) (frOf []) = ref01_has_k2_0 n  := by
  kernel_rfl
theorem ref01_has_ev (n : Nat) (s0 : List UInt8) (o0 : Lab) (c1 : UInt8) (o1 : Lab) : evFnP E_ref01_has n C_ref01_has R_ref01_has [.dat .str s0 o0, .dat .byte c1 o1] = ref01_has_sh n s0 c1 := by
  unfold ref01_has_sh
  rw [show ref01_has_l2 ref01_has_ret (ref01_has_k2_0 n) n = (fun s0 c1 i5 => evLP E_ref01_has n (sub C_ref01_has [1, 0, 1, 0, 0]) (kBlockP 0 (E_ref01_has.cutb 0) (kSeq (evCP E_ref01_has (evLP E_ref01_has n) (sub C_ref01_has [1, 1])) (kFnP E_ref01_has R_ref01_has))) (frOf [(0, (.dat .str s0 none)), (1, (.dat .byte c1 none)), (5, (.dat (.int .i64) i5 none))])) from by
    funext s0 c1 i5
    refine Eq.trans ?_ (ref01_has_l2_ok (kBlockP 0 (E_ref01_has.cutb 0) (kSeq (evCP E_ref01_has (evLP E_ref01_has n) (sub C_ref01_has [1, 1])) (kFnP E_ref01_has R_ref01_has))) n s0 c1 i5).symm
    rw [show ((kBlockP 0 (E_ref01_has.cutb 0) (kSeq (evCP E_ref01_has (evLP E_ref01_has n) (sub C_ref01_has [1, 1])) (kFnP E_ref01_has R_ref01_has))) (.exit 0) (frOf [])) = (ref01_has_k2_0 n) from by
      exact ref01_has_k2_0_ok n ]
    all_goals kernel_rfl]
  kernel_rfl
theorem ref01_has_sound : SoundG G Try.prog 85 s_ref01_has := by
  refine sound_of_evP' G_stays (E := E_ref01_has) (fn := Try.f85) (c := C_ref01_has) (tyOk_of_table rfl tis_ok) (fun w S hg => ⟨⟨fns_nil, fun f sp h => cns_nil f sp h w S⟩, gl_none w S hg, fun _ _ h => by cases h⟩) follows Try.func85 (by kernel_rfl) (by kernel_rfl) (by kernel_rfl) ?_
  intro avs r h
  unfold s_ref01_has at h
  split at h
  · simp only [Prod.mk.injEq] at h
    obtain ⟨hp, rfl⟩ := h
    obtain ⟨n, hn⟩ := ref01_has_math _ _ hp
    exact ⟨n, _, (ref01_has_ev n _ _ _ _).trans hn, .inl rfl⟩
  · cases h

/-! sheave/scalar.Surrogate -/

noncomputable def E_scalar_Surrogate : EnvP := ⟨⟨tiOf tis, fnsOf [], cnsOf [], [], 9, (fun _ => none), (fun _ => none), some [2]⟩, fun _ => none, fun _ => none, fun _ => [], fun _ => none⟩
noncomputable def C_scalar_Surrogate : Code := Try.f91.body.getD .skip
noncomputable def R_scalar_Surrogate : Array ResultVar := Try.f91.results
theorem scalar_Surrogate_ev (n : Nat) (c0 : Int) (o0 : Lab) : evFnP E_scalar_Surrogate n C_scalar_Surrogate R_scalar_Surrogate [.dat (.int .i32) c0 o0] = scalar_Surrogate_sh n c0 := by
  kernel_rfl
theorem scalar_Surrogate_sound : SoundG G Try.prog 91 s_scalar_Surrogate := by
  refine sound_of_evP' G_stays (E := E_scalar_Surrogate) (fn := Try.f91) (c := C_scalar_Surrogate) (tyOk_of_table rfl tis_ok) (fun w S hg => ⟨⟨fns_nil, fun f sp h => cns_nil f sp h w S⟩, gl_none w S hg, fun _ _ h => by cases h⟩) follows Try.func91 (by kernel_rfl) (by kernel_rfl) (by kernel_rfl) ?_
  intro avs r h
  unfold s_scalar_Surrogate at h
  split at h
  · simp only [Prod.mk.injEq, true_and] at h
    subst h
    obtain ⟨n, hn⟩ := scalar_Surrogate_math _
    exact ⟨n, _, (scalar_Surrogate_ev n _ _).trans hn, .inl rfl⟩
  · cases h

/-! sheave/scalar.Is -/

noncomputable def E_scalar_Is : EnvP := ⟨⟨tiOf tis, fnsOf [(91, s_scalar_Surrogate)], cnsOf [], [], 11, (fun _ => none), (fun _ => none), some [2]⟩, fun _ => none, fun _ => none, fun _ => [], fun _ => none⟩
noncomputable def C_scalar_Is : Code := Try.f87.body.getD .skip
noncomputable def R_scalar_Is : Array ResultVar := Try.f87.results
theorem scalar_Is_ev (n : Nat) (c0 : Int) (o0 : Lab) : evFnP E_scalar_Is n C_scalar_Is R_scalar_Is [.dat (.int .i32) c0 o0] = scalar_Is_sh n c0 := by
  kernel_rfl
theorem scalar_Is_sound : SoundG G Try.prog 87 s_scalar_Is := by
  refine sound_of_evP' G_stays (E := E_scalar_Is) (fn := Try.f87) (c := C_scalar_Is) (tyOk_of_table rfl tis_ok) (fun w S hg => ⟨⟨(fns_cons (scalar_Surrogate_sound w S hg) fns_nil), fun f sp h => cns_nil f sp h w S⟩, gl_none w S hg, fun _ _ h => by cases h⟩) follows Try.func87 (by kernel_rfl) (by kernel_rfl) (by kernel_rfl) ?_
  intro avs r h
  unfold s_scalar_Is at h
  split at h
  · simp only [Prod.mk.injEq, true_and] at h
    subst h
    obtain ⟨n, hn⟩ := scalar_Is_math _
    exact ⟨n, _, (scalar_Is_ev n _ _).trans hn, .inl rfl⟩
  · cases h

/-! slices.Index[[]rune,rune] -/

noncomputable def E_slices_Index___rune_rune_ : EnvP := ⟨⟨tiOf tis, fnsOf [], cnsOf [], [], 19, (fun x => if x = 2 then some [0, 1, 7, 8] else none), (fun x => if x = 0 then some [] else if x = 1 then some [0, 1, 7, 8] else none), some [4]⟩, fun _ => none, fun _ => none, fun _ => [], fun _ => none⟩
noncomputable def C_slices_Index___rune_rune_ : Code := Try.f81.body.getD .skip
noncomputable def R_slices_Index___rune_rune_ : Array ResultVar := Try.f81.results
theorem slices_Index___rune_rune__l2_ok (K : Ex → Fr → Option AV) : ∀ (n : Nat) (s0 : List Int) (v1 : Int) (s7 : Int) (s8 : Int), evLP E_slices_Index___rune_rune_ n (sub C_slices_Index___rune_rune_ [1, 0, 1, 0, 0]) K (frOf [(0, (.dat (.sl (.int .i32)) s0 none)), (1, (.dat (.int .i32) v1 none)), (7, (.dat (.int .i64) s7 none)), (8, (.dat (.int .i64) s8 none))]) = slices_Index___rune_rune__l2 (fun s4 => K .ret (frOf [(4, (.dat (.int .i64) s4 none))])) (K (.exit 0) (frOf [])) n s0 v1 s7 s8 := by
  intro n
  induction n with
  | zero => intros; rfl
  | succ n IH =>
  intro s0 v1 s7 s8
  have ih : (fun s0 v1 s7 s8 => evLP E_slices_Index___rune_rune_ n (sub C_slices_Index___rune_rune_ [1, 0, 1, 0, 0]) K (frOf [(0, (.dat (.sl (.int .i32)) s0 none)), (1, (.dat (.int .i32) v1 none)), (7, (.dat (.int .i64) s7 none)), (8, (.dat (.int .i64) s8 none))])) = slices_Index___rune_rune__l2 (fun s4 => K .ret (frOf [(4, (.dat (.int .i64) s4 none))])) (K (.exit 0) (frOf [])) n := by
    funext s0 v1 s7 s8
    exact IH s0 v1 s7 s8
  show _ = slices_Index___rune_rune__l2_b (fun s4 => K .ret (frOf [(4, (.dat (.int .i64) s4 none))])) (K (.exit 0) (frOf [])) (slices_Index___rune_rune__l2 (fun s4 => K .ret (frOf [(4, (.dat (.int .i64) s4 none))])) (K (.exit 0) (frOf [])) n) n s0 v1 s7 s8
  rw [← ih]
  kernel_rfl
theorem slices_Index___rune_rune__k2_0_ok (n : Nat)  : (kBlockP 0 (E_slices_Index___rune_rune_.cutb 0) (kSeq (evCP E_slices_Index___rune_rune_ (evLP E_slices_Index___rune_rune_ n) (sub C_slices_Index___rune_rune_ [1, 1])) (kFnP E_slices_Index___rune_rune_ R_slices_Index___rune_rune_))) (.exit 0) (frOf []) = slices_Index___rune_rune__k2_0 n  := by
  kernel_rfl
theorem slices_Index___rune_rune__ev (n : Nat) (s0 : List Int) (o0 : Lab) (v1 : Int) (o1 : Lab) : evFnP E_slices_Index___rune_rune_ n C_slices_Index___rune_rune_ R_slices_Index___rune_rune_ [.dat (.sl (.int .i32)) s0 o0, .dat (.int .i32) v1 o1] = slices_Index___rune_rune__sh n s0 v1 := by
  unfold slices_Index___rune_rune__sh
  rw [show slices_Index___rune_rune__l2 slices_Index___rune_rune__ret (slices_Index___rune_rune__k2_0 n) n = (fun s0 v1 s7 s8 => evLP E_slices_Index___rune_rune_ n (sub C_slices_Index___rune_rune_ [1, 0, 1, 0, 0]) (kBlockP 0 (E_slices_Index___rune_rune_.cutb 0) (kSeq (evCP E_slices_Index___rune_rune_ (evLP E_slices_Index___rune_rune_ n) (sub C_slices_Index___rune_rune_ [1, 1])) (kFnP E_slices_Index___rune_rune_ R_slices_Index___rune_rune_))) (frOf [(0, (.dat (.sl (.int .i32)) s0 none)), (1, (.dat (.int .i32) v1 none)), (7, (.dat (.int .i64) s7 none)), (8, (.dat (.int .i64) s8 none))])) from by
    funext s0 v1 s7 s8
    refine Eq.trans ?_ (slices_Index___rune_rune__l2_ok (kBlockP 0 (E_slices_Index___rune_rune_.cutb 0) (kSeq (evCP E_slices_Index___rune_rune_ (evLP E_slices_Index___rune_rune_ n) (sub C_slices_Index___rune_rune_ [1, 1])) (kFnP E_slices_Index___rune_rune_ R_slices_Index___rune_rune_))) n s0 v1 s7 s8).symm
    rw [show ((kBlockP 0 (E_slices_Index___rune_rune_.cutb 0) (kSeq (evCP E_slices_Index___rune_rune_ (evLP E_slices_Index___rune_rune_ n) (sub C_slices_Index___rune_rune_ [1, 1])) (kFnP E_slices_Index___rune_rune_ R_slices_Index___rune_rune_))) (.exit 0) (frOf [])) = (slices_Index___rune_rune__k2_0 n) from by
      exact slices_Index___rune_rune__k2_0_ok n ]
    all_goals kernel_rfl]
  kernel_rfl
theorem slices_Index___rune_rune__sound : SoundG G Try.prog 81 s_slices_Index___rune_rune_ := by
  refine sound_of_evP' G_stays (E := E_slices_Index___rune_rune_) (fn := Try.f81) (c := C_slices_Index___rune_rune_) (tyOk_of_table rfl tis_ok) (fun w S hg => ⟨⟨fns_nil, fun f sp h => cns_nil f sp h w S⟩, gl_none w S hg, fun _ _ h => by cases h⟩) follows Try.func81 (by kernel_rfl) (by kernel_rfl) (by kernel_rfl) ?_
  intro avs r h
  unfold s_slices_Index___rune_rune_ at h
  split at h
  · simp only [Prod.mk.injEq] at h
    obtain ⟨hp, rfl⟩ := h
    obtain ⟨n, hn⟩ := slices_Index___rune_rune__math _ _ hp
    exact ⟨n, _, (slices_Index___rune_rune__ev n _ _ _ _).trans hn, .inl rfl⟩
  · cases h

end Go.Av
