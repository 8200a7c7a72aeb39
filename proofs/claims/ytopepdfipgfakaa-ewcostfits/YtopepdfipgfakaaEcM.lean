/-
  What the functions of the layer 'ewcost' compute.
-/
import Derived.Test.YtopepdfipgfakaaAvD
import Derived.Lib.Bytealg
namespace Go.Av
/-! ### octets -/
def internal_bytealg_IndexByteString (s : List UInt8) (c : UInt8) : Int := Lib.indexByte s c
def internal_stringslite_IndexByte (s : List UInt8) (c : UInt8) : Int := Lib.indexByte s c
def strings_IndexByte (s : List UInt8) (c : UInt8) : Int := Lib.indexByte s c
def octet_in (s : List UInt8) (c : UInt8) : Bool := decide ((0 : Int) ≤ Lib.indexByte s c)
def orI (a b : Int) : Int := bits .or .i64 a b
def plainTail (n : Int) (c : UInt8) : Int :=
  bif c == (32 : UInt8) then orI n 2 else bif c == (9 : UInt8) then orI n 2
  else bif decide ((48 : UInt8) ≤ c) && decide (c ≤ (57 : UInt8)) then orI n 648
  else bif (decide ((65 : UInt8) ≤ c) && decide (c ≤ (90 : UInt8))) || (decide ((97 : UInt8) ≤ c) && decide (c ≤ (122 : UInt8))) then orI n 656 else n
def octet_plain (c : UInt8) : Int := plainTail (bif decide (c < (32 : UInt8)) || (c == (127 : UInt8)) then orI 0 1 else 0) c
def kindIf (t : Bool) (k n : Int) : Int := bif t then orI n k else n
def octet_Kinds (c : UInt8) : Int :=
  bif decide (c < (33 : UInt8)) || decide ((126 : UInt8) < c) then octet_plain c
  else
    let n := kindIf (octet_in [43, 47] c) 512 (kindIf (octet_in [33, 42, 43, 45, 47] c) 128 (orI (octet_plain c) 4))
    bif octet_in [40, 41, 60, 62, 64, 44, 59, 58, 92, 34, 47, 91, 93, 63, 61] c then orI n 32
    else kindIf (!(octet_in [42, 39, 37] c)) 256 (orI n 64)
def octet_Is (c : UInt8) (k : Int) : Bool := (bits .and .i64 (octet_Kinds c) k) != 0
def ref01_has_ok (s : List UInt8) (_ : UInt8) : Bool := lenOk s
def ref01_has (s : List UInt8) (c : UInt8) : Bool := s.contains c
def ref01_Kinds (c : UInt8) : Int := octet_Kinds c
def ref01_Is (c : UInt8) (k : Int) : Bool := octet_Is c k
def bytes_Clone (b : List UInt8) : List UInt8 := b
def bytes_Clone_ok (b : List UInt8) : Bool := lenOk b
def hexD : List UInt8 := [48, 49, 50, 51, 52, 53, 54, 55, 56, 57, 65, 66, 67, 68, 69, 70]
def ref02_Digit (n : Int) : UInt8 := List.getD hexD (Int.toNat (n % 16)) 0
def ref02_Digit_ok (n : Int) : Bool := decide (-9223372036854775808 ≤ n ∧ n ≤ 9223372036854775807)
def ref02_Put (b : List UInt8) (sign c : UInt8) : List UInt8 := b ++ [sign, ref02_Digit ((c.toNat / 16 : Nat) : Int), ref02_Digit ((c.toNat % 16 : Nat) : Int)]
def ref02_Put_ok (b : List UInt8) (_ _ : UInt8) : Bool := lenOk b
/-! ### signs -/
def scalar_Surrogate (c : Int) : Bool := decide (55296 ≤ c) && decide (c ≤ 57343)
def scalar_Is (c : Int) : Bool := decide (IntKind.wrap .u32 c ≤ 1114111) && !(scalar_Surrogate c)
def scalar_First_1 (c : Int) : Bool := !(scalar_Is c)
def ref03_Surrogate (c : Int) : Bool := decide (55296 ≤ c) && decide (c ≤ 57343)
def ref03_Is (c : Int) : Bool := decide (0 ≤ c) && (decide (c ≤ 1114111) && !(ref03_Surrogate c))
/-- The first place where p fails, from place i on. -/
def lackAt (p : Int → Bool) : List Int → Int → Int
  | [], _ => -1
  | x :: r, i => bif p x then lackAt p r (i + 1) else i
def slices_Index___rune_rune_ (s : List Int) (v : Int) : Int := lackAt (fun x => !(v == x)) s 0
def slices_Index___rune_rune__ok (s : List Int) (_ : Int) : Bool := lenOk s
def slices_IndexFunc___rune_rune_ (s : List Int) : Int := lackAt scalar_Is s 0
def slices_IndexFunc___rune_rune__ok (s : List Int) : Bool := lenOk s
def scalar_First (t : List Int) : Int := lackAt scalar_Is t 0
def scalar_First_ok (t : List Int) : Bool := lenOk t
def scalar_Right (t : List Int) : Bool := lackAt scalar_Is t 0 == -1
def scalar_Right_ok (t : List Int) : Bool := lenOk t
def utfone_Len (c : Int) : Int := bif !(scalar_Is c) then 0 else bif decide (c < 128) then 1 else bif decide (c < 2048) then 2 else bif decide (c < 65536) then 3 else 4
def utfone_lead (n : Int) : UInt8 := bif n == 2 then 192 else bif n == 3 then 224 else bif n == 4 then 240 else 0
/-- The octet of a number. -/
def oct8 (n : Int) : UInt8 := UInt8.ofNat (Int.toNat (IntKind.wrap .u8 n))
/-- An octet behind the first one, of a sign's bits. -/
def foll (n : Int) : UInt8 := 128 ||| (oct8 n &&& 63)
def utfone_Put (b : List UInt8) (c : Int) : List UInt8 × Int :=
  bif utfone_Len c == 0 then ([], 7)
  else (b ++ (bif utfone_Len c == 4 then [240 ||| oct8 (Int.fdiv c (2 ^ 18)), foll (Int.fdiv c (2 ^ 12)), foll (Int.fdiv c (2 ^ 6)), foll c]
    else bif utfone_Len c == 3 then [224 ||| oct8 (Int.fdiv c (2 ^ 12)), foll (Int.fdiv c (2 ^ 6)), foll c]
    else bif utfone_Len c == 2 then [192 ||| oct8 (Int.fdiv c (2 ^ 6)), foll c]
    else [0 ||| oct8 (Int.fdiv c (2 ^ 0))]), 0)
def utfone_Put_ok (b : List UInt8) (_ : Int) : Bool := lenOk b
def ref04_Octets (c : Int) : List UInt8 :=
  bif !(ref03_Is c) then []
  else bif decide (c < 128) then [oct8 c]
  else bif decide (c < 2048) then [oct8 (192 + c / 64), oct8 (128 + c % 64)]
  else bif decide (c < 65536) then [oct8 (224 + c / 4096), oct8 (128 + c / 64 % 64), oct8 (128 + c % 64)]
  else [oct8 (240 + c / 262144), oct8 (128 + c / 4096 % 64), oct8 (128 + c / 64 % 64), oct8 (128 + c % 64)]
/-! ### charsets -/
def latnine_others : List (UInt8 × (Int × Unit)) := [(164, (8364, ())), (166, (352, ())), (168, (353, ())), (180, (381, ())), (184, (382, ())), (188, (338, ())), (189, (339, ())), (190, (376, ()))]
def latnine_Put (c : Int) : UInt8 × Bool :=
  bif c == 8364 then (164, true) else bif c == 164 then (0, false) else bif c == 352 then (166, true) else bif c == 166 then (0, false)
  else bif c == 353 then (168, true) else bif c == 168 then (0, false) else bif c == 381 then (180, true) else bif c == 180 then (0, false)
  else bif c == 382 then (184, true) else bif c == 184 then (0, false) else bif c == 338 then (188, true) else bif c == 188 then (0, false)
  else bif c == 339 then (189, true) else bif c == 189 then (0, false) else bif c == 376 then (190, true) else bif c == 190 then (0, false)
  else bif decide (c < 0) || decide (256 ≤ c) then (0, false) else (oct8 c, true)
def latnine_Has (c : Int) : Bool := (latnine_Put c).2
def winone_others : List Int := [8364, 0, 8218, 402, 8222, 8230, 8224, 8225, 710, 8240, 352, 8249, 338, 0, 381, 0, 0, 8216, 8217, 8220, 8221, 8226, 8211, 8212, 732, 8482, 353, 8250, 339, 0, 382, 376]
def winone_Put (c : Int) : UInt8 × Bool :=
  bif (decide (0 ≤ c) && decide (c < 128)) || (decide (160 ≤ c) && decide (c < 256)) then (oct8 c, true)
  else bif decide (c < 256) then (0, false)
  else bif decide (slices_Index___rune_rune_ winone_others c < 0) then (0, false) else (oct8 (IntKind.wrap .i64 (128 + slices_Index___rune_rune_ winone_others c)), true)
def winone_Has (c : Int) : Bool := (winone_Put c).2
def winone_Lacks (t : List Int) : Int := lackAt winone_Has t 0
def winone_Lacks_ok (t : List Int) : Bool := lenOk t
def latin_Has (c : Int) : Bool := decide (IntKind.wrap .u32 c < 256)
def latin_Lacks (t : List Int) : Int := lackAt latin_Has t 0
def latin_Lacks_ok (t : List Int) : Bool := lenOk t
def latin_Lay (t : List Int) : List UInt8 × Int := bif latin_Lacks t != -1 then ([], 9) else (t.map fun c => UInt8.ofNat (IntKind.wrap .u8 c).toNat, 0)
def latin_Lay_ok (t : List Int) : Bool := lenOk t
def latnine_Lay (t : List Int) : List UInt8 × Int := bif t.all latnine_Has then (t.map fun c => (latnine_Put c).1, 0) else ([], 9)
def latnine_Lay_ok (t : List Int) : Bool := lenOk t
def winone_Lay (t : List Int) : List UInt8 × Int := bif decide (0 ≤ winone_Lacks t) then ([], 9) else (t.map fun c => (winone_Put c).1, 0)
def winone_Lay_ok (t : List Int) : Bool := lenOk t
def utfall_Lay (t : List Int) : List UInt8 × Int := bif !(scalar_Right t) then ([], 7) else (t.flatMap fun c => (utfone_Put [] c).1, 0)
def utfall_Lay_ok (t : List Int) : Bool := lenOk t
def ref08_Sign (x : UInt8) : Int := IntKind.wrap .i32 (UInt8.toNat x : Nat)
def ref08_Put (c : Int) : UInt8 × Bool := bif decide (0 ≤ c) && decide (c < 256) then (UInt8.ofNat c.toNat, true) else (0, false)
def ref09_Sign (x : UInt8) : Int :=
  bif x == 164 then 8364 else bif x == 166 then 352 else bif x == 168 then 353 else bif x == 180 then 381 else bif x == 184 then 382 else bif x == 188 then 338
  else bif x == 189 then 339 else bif x == 190 then 376 else (x.toNat : Int)
def ref09_Put (c : Int) : UInt8 × Bool := latnine_Put c
def winSigns : List Int := [8364, 65533, 8218, 402, 8222, 8230, 8224, 8225, 710, 8240, 352, 8249, 338, 65533, 381, 65533, 65533, 8216, 8217, 8220, 8221, 8226, 8211, 8212, 732, 8482, 353, 8250, 339, 65533, 382, 376]
def ref10_Sign (x : UInt8) : Int := bif decide (x < 128) || decide (159 < x) then (x.toNat : Int) else List.getD winSigns (x.toNat - 128) 0
def ref10_Put (c : Int) : UInt8 × Bool := winone_Put c
def reper_Has (cs c : Int) : Bool :=
  bif cs == 1 then decide (0 ≤ c) && decide (c < 128) else bif cs == 2 then latin_Has c else bif cs == 3 then latnine_Has c else bif cs == 4 then winone_Has c else bif cs == 5 then scalar_Is c else false
def reper_Lacks (cs : Int) (t : List Int) : Int := lackAt (reper_Has cs) t 0
def reper_Lacks_ok (_ : Int) (t : List Int) : Bool := lenOk t
def reper_Size (cs : Int) : Int := bif cs == 1 then 128 else bif cs == 2 then 256 else bif cs == 3 then 256 else bif cs == 4 then 251 else bif cs == 5 then 1112064 else 0
def reper_All (cs : Int) (t : List Int) : Bool := decide (0 < reper_Size cs) && (reper_Lacks cs t == -1)
def reper_All_ok (_ : Int) (t : List Int) : Bool := lenOk t
def codec_Lay (cs : Int) (t : List Int) : List UInt8 × Int :=
  bif reper_Size cs == 0 then ([], 10) else bif !(reper_All cs t) then ([], 9)
  else bif cs == 5 then utfall_Lay t else bif cs == 3 then latnine_Lay t else bif cs == 4 then winone_Lay t else latin_Lay t
def codec_Lay_ok (_ : Int) (t : List Int) : Bool := lenOk t
def ref12_Has (cs c : Int) : Bool :=
  bif cs == 1 then decide (0 ≤ c) && decide (c < 128) else bif cs == 2 then (ref08_Put c).2 else bif cs == 3 then (ref09_Put c).2 else bif cs == 4 then (ref10_Put c).2 else bif cs == 5 then ref03_Is c else false
def ref13_octets (cs c : Int) : List UInt8 :=
  bif !(ref12_Has cs c) then [] else bif cs == 1 then [oct8 c] else bif cs == 2 then [(ref08_Put c).1] else bif cs == 3 then [(ref09_Put c).1] else bif cs == 4 then [(ref10_Put c).1] else ref04_Octets c
def i32s (t : List Int) : Bool := t.all fun c => decide (-2147483648 ≤ c ∧ c ≤ 2147483647)
def ref13_Lay (cs : Int) (t : List Int) : List UInt8 × Int :=
  bif decide (cs < 1) || decide (5 < cs) then ([], 10)
  else bif t.all (fun c => (ref13_octets cs c).length != 0) then (t.flatMap (ref13_octets cs), 0) else ([], 9)
def ref13_Lay_ok (_ : Int) (t : List Int) : Bool := lenOk t
/-! ### labels -/
def label_Names (n : Int) : List (List UInt8) :=
  bif n == 1 then [[117, 115, 45, 97, 115, 99, 105, 105], [97, 115, 99, 105, 105], [97, 110, 115, 105, 95, 120, 51, 46, 52, 45, 49, 57, 54, 56], [105, 115, 111, 54, 52, 54, 45, 117, 115]]
  else bif n == 2 then [[105, 115, 111, 45, 56, 56, 53, 57, 45, 49], [105, 115, 111, 95, 56, 56, 53, 57, 45, 49], [108, 97, 116, 105, 110, 49], [108, 49]]
  else bif n == 3 then [[105, 115, 111, 45, 56, 56, 53, 57, 45, 49, 53], [105, 115, 111, 95, 56, 56, 53, 57, 45, 49, 53], [108, 97, 116, 105, 110, 45, 57]]
  else bif n == 4 then [[119, 105, 110, 100, 111, 119, 115, 45, 49, 50, 53, 50], [99, 112, 49, 50, 53, 50]]
  else bif n == 5 then [[117, 116, 102, 45, 56], [117, 116, 102, 56]] else []
def label_Name (n : Int) : List UInt8 := List.getD (label_Names n) 0 []
def label_IsCharset (n : Int) : Bool := decide (1 ≤ n) && decide (n ≤ 5)
def ref11_Names (n : Int) : List (List UInt8) := label_Names n
def ref11_Name (n : Int) : List UInt8 := label_Name n
def ewform_letter (n : Int) : List UInt8 := bif n == 1 then [66] else bif n == 2 then [81] else []
def ewform_frame (cs code : Int) : List UInt8 := [61, 63] ++ label_Name cs ++ [63] ++ ewform_letter code ++ [63]
def ewform_Over (cs : Int) : Int := bif !(label_IsCharset cs) then 0 else ((label_Name cs).length + 7 : Nat)
def ref29_Over (cs : Int) : Int := ewform_Over cs
/-! ### codes -/
def bcode_Len (n : Int) : Int := bif decide (n < 1) then 0 else IntKind.wrap .i64 (IntKind.wrap .i64 (IntKind.wrap .i64 (Int.tdiv (IntKind.wrap .i64 (n - 1)) 3) * 4) + 4)
def qword_One (c : UInt8) : Int := bif (c == 32) || octet_Is c 128 then 1 else 3
def qLen (s : List UInt8) : Nat := (s.map fun c => (qword_One c).toNat).sum
def qword_Len (s : List UInt8) : Int := (qLen s : Int)
def qword_Len_ok (s : List UInt8) : Bool := decide (s.length ≤ 4194304)
def ref20_one (c : UInt8) : List UInt8 := bif c == 32 then [95] else bif ref01_Is c 128 then [c] else ref02_Put [] 61 c
def ref20_Lay (s : List UInt8) : List UInt8 := s.flatMap ref20_one
def ref20_Lay_ok (s : List UInt8) : Bool := decide (s.length ≤ 4194304)
/-- The number of six bits. -/
def ref14_number (l : List Int) : Int := l.foldl (fun n b => IntKind.wrap .i64 (IntKind.wrap .i64 (2 * n) + b)) 0
def ref14_number_ok (l : List Int) : Bool := decide (l.length ≤ 1048576)
def ref14_Digit (n : Int) : UInt8 :=
  let k := Int.tmod (IntKind.wrap .i64 (Int.tmod n 64 + 64)) 64
  bif decide (k < 26) then oct8 (IntKind.wrap .i64 (65 + k)) else bif decide (k < 52) then oct8 (IntKind.wrap .i64 (IntKind.wrap .i64 (97 + k) - 26))
  else bif decide (k < 62) then oct8 (IntKind.wrap .i64 (IntKind.wrap .i64 (48 + k) - 52)) else bif k == 62 then 43 else 47
def bit8 (c : UInt8) (k : Nat) : Int := Int.tmod (IntKind.wrap .i64 ((UInt8.toNat (UInt8.ofNat (UInt8.toNat c / 2 ^ (min k 8))) : Nat) : Int)) 2
def bitsOf (c : UInt8) : List Int := [bit8 c 7, bit8 c 6, bit8 c 5, bit8 c 4, bit8 c 3, bit8 c 2, bit8 c 1, bit8 c 0]
def ref14_Bits (s : List UInt8) : List Int := s.flatMap bitsOf
def ref14_Bits_ok (s : List UInt8) : Bool := decide (s.length ≤ 4194304)
/-- How many are lacking to a multiple. -/
def lacking (n m : Nat) : Nat := (m - n % m) % m
def padTo {α : Type} (m : Nat) (x : α) (l : List α) : List α := l ++ List.replicate (lacking l.length m) x
def sixes : Nat → List Int → List UInt8
  | 0, _ => []
  | n + 1, l => ref14_Digit (ref14_number (l.take 6)) :: sixes n (l.drop 6)
def ref14_Bare (s : List UInt8) : List UInt8 := sixes ((padTo 6 0 (ref14_Bits s)).length / 6) (padTo 6 0 (ref14_Bits s))
def ref14_Bare_ok (s : List UInt8) : Bool := decide (s.length ≤ 4194304)
def ref14_Lay (s : List UInt8) : List UInt8 := padTo 4 61 (ref14_Bare s)
def ref14_Lay_ok (s : List UInt8) : Bool := decide (s.length ≤ 4194304)
/-! ### encoded-words -/
def _ewcost_byB__letter (_ : Unit) : Int := 1
def _ewcost_byQ__letter (_ : Unit) : Int := 2
def ewcost_of (code : Int) : AV := .ite (code == (1 : Int)) (.iface 65 (.dat .unit () none)) (.ite (code == (2 : Int)) (.iface 66 (.dat .unit () none)) .nilIface)
def ewcost_measure_ok (s : List UInt8) : Bool := qword_Len_ok s
def ewcost_text (cs code : Int) (t : List Int) : Int × Int :=
  bif (codec_Lay cs t).2 == 10 then (0, 10)
  else bif (code != 1) && (code != 2) then (0, 3)
  else bif (codec_Lay cs t).2 != 0 then (0, (codec_Lay cs t).2)
  else bif code == 1 then (bcode_Len ((codec_Lay cs t).1.length : Nat), 0) else (qword_Len (codec_Lay cs t).1, 0)
def ewcost_text_ok (_ _ : Int) (t : List Int) : Bool := lenOk t
def ewcost_Len (cs code : Int) (t : List Int) : Int × Int :=
  bif (ewcost_text cs code t).2 != 0 then (0, (ewcost_text cs code t).2) else (IntKind.wrap .i64 ((ewcost_text cs code t).1 + ewform_Over cs), 0)
def ewcost_Len_ok (_ _ : Int) (t : List Int) : Bool := lenOk t
def ewcost_Text (cs code : Int) (t : List Int) : Int := (ewcost_text cs code t).1
def ewcost_Text_ok (_ _ : Int) (t : List Int) : Bool := lenOk t
def ewcost_Saved (cs : Int) (t : List Int) : Int := IntKind.wrap .i64 (ewcost_Text cs 1 t - ewcost_Text cs 2 t)
def ewcost_Saved_ok (_ : Int) (t : List Int) : Bool := lenOk t
def ewcost_Better (cs : Int) (t : List Int) : Int × Int :=
  bif (ewcost_text cs 1 t).2 != 0 then (0, (ewcost_text cs 1 t).2) else bif decide (0 ≤ ewcost_Saved cs t) then (2, 0) else (1, 0)
def ewcost_Better_ok (_ : Int) (t : List Int) : Bool := lenOk t
def ewcost_Fits (cs code : Int) (t : List Int) (room : Int) : Bool :=
  ((ewcost_Len cs code t).2 == 0) && (decide ((0 : Int) < (t.length : Nat)) && decide ((ewcost_Len cs code t).1 ≤ bif decide (75 < room) then 75 else room))
def ewcost_Fits_ok (_ _ : Int) (t : List Int) (_ : Int) : Bool := lenOk t
/-- How many signs, from n on, of at most d more, fit. -/
def prefixAt (p : List Int → Bool) (t : List Int) : Nat → Nat → Nat
  | 0, n => n
  | d + 1, n => bif p (t.take (n + 1)) then prefixAt p t d (n + 1) else n
def ewcost_Prefix (cs code : Int) (t : List Int) (room : Int) : Int := (prefixAt (fun u => ewcost_Fits cs code u room) t t.length 0 : Nat)
def ewcost_Prefix_ok (_ _ : Int) (t : List Int) (_ : Int) : Bool := lenOk t
def ref29_Lay (cs code : Int) (s : List UInt8) : List UInt8 × Int :=
  bif decide (cs < 1) || decide (5 < cs) then ([], 10)
  else bif ((code != 1) && (code != 2)) || (s.length == 0) then ([], 3)
  else
    let out := [61, 63] ++ ref11_Name cs ++ (bif code == 2 then [63, 81, 63] ++ ref20_Lay s else [63, 66, 63] ++ ref14_Lay s) ++ [63, 61]
    bif decide (75 < out.length) then ([], 12) else (out, 0)
def ref29_Lay_ok (_ _ : Int) (s : List UInt8) : Bool := decide (s.length ≤ 4194304)
def ref30_Len (cs code : Int) (t : List Int) : Int × Int :=
  bif (ref13_Lay cs t).2 == 10 then (0, 10)
  else bif (code != 1) && (code != 2) then (0, 3)
  else bif (ref13_Lay cs t).2 != 0 then (0, (ref13_Lay cs t).2)
  else bif code == 1 then (IntKind.wrap .i64 (ref29_Over cs + ((ref14_Lay (ref13_Lay cs t).1).length : Nat)), 0) else (IntKind.wrap .i64 (ref29_Over cs + ((ref20_Lay (ref13_Lay cs t).1).length : Nat)), 0)
def ref30_Len_ok (_ _ : Int) (t : List Int) : Bool := lenOk t
def ref30_Text (cs code : Int) (t : List Int) : Int := bif (ref30_Len cs code t).2 != 0 then 0 else IntKind.wrap .i64 ((ref30_Len cs code t).1 - ref29_Over cs)
def ref30_Text_ok (_ _ : Int) (t : List Int) : Bool := lenOk t
def ref30_Better (cs : Int) (t : List Int) : Int × Int :=
  bif (ref30_Len cs 1 t).2 != 0 then (0, (ref30_Len cs 1 t).2) else bif decide ((ref30_Len cs 2 t).1 ≤ (ref30_Len cs 1 t).1) then (2, 0) else (1, 0)
def ref30_Better_ok (_ : Int) (t : List Int) : Bool := lenOk t
def ref30_Fits (cs code : Int) (t : List Int) (room : Int) : Bool :=
  ((ref30_Len cs code t).2 == 0) && (decide ((0 : Int) < (t.length : Nat)) && (decide ((ref30_Len cs code t).1 ≤ room) && decide ((ref30_Len cs code t).1 ≤ 75)))
def ref30_Fits_ok (_ _ : Int) (t : List Int) (_ : Int) : Bool := lenOk t
def ref30_Prefix (cs code : Int) (t : List Int) (room : Int) : Int := (prefixAt (fun u => ref30_Fits cs code u room) t t.length 0 : Nat)
def ref30_Prefix_ok (_ _ : Int) (t : List Int) (_ : Int) : Bool := lenOk t
abbrev Ask := Int × (Int × (Int × Unit))
def law30_alive : Bool := true
def law30_EwcostLens (_ : Ask) (_ : List Int) : Bool := true
def law30_EwcostLens_ok (_ : Ask) (t : List Int) : Bool := i32s t
def law30_EwcostFits (_ : Ask) (_ : List Int) : Bool := true
def law30_EwcostFits_ok (_ : Ask) (t : List Int) : Bool := i32s t
def law30_EwcostLaid (_ : Ask) (_ : List Int) : Bool := true
def law30_EwcostLaid_ok (_ : Ask) (t : List Int) : Bool := i32s t
def law30_EwcostRises (_ : Ask) (_ : List Int) : Bool := true
def law30_EwcostRises_ok (_ : Ask) (t : List Int) : Bool := i32s t
end Go.Av
