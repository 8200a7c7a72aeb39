/-
  What the functions of the layer 'hexa' compute.
-/
import Derived.Test.YtmbakokcfihafaaDoorAvMath
import Derived.Lib.Bytealg
import Derived.Lib.Index
import Derived.Lib.MapLaws
namespace Go.Av
def internal_bytealg_IndexByteString (s : List UInt8) (c : UInt8) : Int := Lib.indexByte s c
def internal_bytealg_IndexString (a b : List UInt8) : Int := Lib.index a b
def internal_bytealg_IndexString_ok (m0 : Int) (a b : List UInt8) : Bool := decide (2 ≤ b.length) && decide ((b.length : Int) ≤ m0) && decide (a.length ≤ 1048576)
def internal_stringslite_IndexByte (s : List UInt8) (c : UInt8) : Int := Lib.indexByte s c
def strings_IndexByte (s : List UInt8) (c : UInt8) : Int := Lib.indexByte s c
def octet_in (s : List UInt8) (c : UInt8) : Bool := decide ((0 : Int) ≤ Lib.indexByte s c)
def bytes_IndexRune (_s : List UInt8) (_r : Int) : Int := 0
def bytes_IndexRune_ok (_s : List UInt8) (_r : Int) : Bool := false
def unicode_utf8_DecodeRune (p : List UInt8) : Int × Int := (((Lib.decodeL p).1 : Int), ((Lib.decodeL p).2 : Int))
def unicode_utf8_DecodeRune_ok (p : List UInt8) : Bool := decide (0 < p.length)
def bytes_shouldUseASCIISet (n : Int) : Bool := decide ((8 : Int) < n)
def setOf (cs : List UInt8) (a : List Bool) : List Bool := cs.foldl (fun a c => List.set a c.toNat true) a
def bytes_makeASCIISet (cs : List UInt8) : List Bool × Bool := (setOf cs (List.replicate 256 false), true)
def ascii (cs : List UInt8) : Bool := cs.all fun c => decide (c < (128 : UInt8))
def bytes_makeASCIISet_ok (cs : List UInt8) : Bool := ascii cs && lenOk cs
def __bytes_asciiSet__contains (as : List Bool) (c : UInt8) : Bool := List.getD as c.toNat false
/-- The first place of a text, from place i on, that holds one of the octets. -/
def anyAt (cs : List UInt8) : List UInt8 → Int → Int
  | [], _ => -1
  | x :: r, i => bif cs.contains x then i else anyAt cs r (i + 1)
def bytes_IndexAny (s cs : List UInt8) : Int := anyAt cs s 0
def bytes_IndexAny_ok (s cs : List UInt8) : Bool := (decide (2 ≤ cs.length) && (ascii cs && lenOk cs)) && lenOk s
def bytes_ContainsAny (s cs : List UInt8) : Bool := decide ((0 : Int) ≤ bytes_IndexAny s cs)
def bytes_ContainsAny_ok (s cs : List UInt8) : Bool := bytes_IndexAny_ok s cs
def bytes_Clone (b : List UInt8) : List UInt8 := b
def bytes_Clone_ok (b : List UInt8) : Bool := lenOk b
def ref01_Like (a b : List UInt8) : Bool := decide (a = b)
def ref01_Like_ok (a _b : List UInt8) : Bool := lenOk a
def octet_Lower (c : UInt8) : UInt8 := bif decide ((65 : UInt8) ≤ c) && decide (c ≤ (90 : UInt8)) then c ||| 32 else c
def ref01_Lower (c : UInt8) : UInt8 := bif decide ((65 : UInt8) ≤ c) && decide (c ≤ (90 : UInt8)) then c + 32 else c
def ref01_Fold (s : List UInt8) : List UInt8 := s.map ref01_Lower
def ref01_Fold_ok (s : List UInt8) : Bool := lenOk s
def orI (a b : Int) : Int := bits .or .i64 a b
def plainTail (n : Int) (c : UInt8) : Int :=
  bif c == (32 : UInt8) then orI n 2 else bif c == (9 : UInt8) then orI n 2
  else bif decide ((48 : UInt8) ≤ c) && decide (c ≤ (57 : UInt8)) then orI n 648
  else bif (decide ((65 : UInt8) ≤ c) && decide (c ≤ (90 : UInt8))) || (decide ((97 : UInt8) ≤ c) && decide (c ≤ (122 : UInt8))) then orI n 656 else n
def octet_plain (c : UInt8) : Int := plainTail (bif decide (c < (32 : UInt8)) || (c == (127 : UInt8)) then orI 0 1 else 0) c
def kindIf (t : Bool) (k n : Int) : Int := bif t then orI n k else n
def octet_Kinds (c : UInt8) : Int :=
  bif decide (c < (33 : UInt8)) || decide ((126 : UInt8) < c) then octet_plain c
  else
    let n := kindIf (octet_in [43, 47] c) 512 (kindIf (octet_in [33, 42, 43, 45, 47] c) 128 (orI (octet_plain c) 4))
    bif octet_in [40, 41, 60, 62, 64, 44, 59, 58, 92, 34, 47, 91, 93, 63, 61] c then orI n 32
    else kindIf (!(octet_in [42, 39, 37] c)) 256 (orI n 64)
def octet_Is (c : UInt8) (k : Int) : Bool := (bits .and .i64 (octet_Kinds c) k) != 0
def hexD : List UInt8 := [48, 49, 50, 51, 52, 53, 54, 55, 56, 57, 65, 66, 67, 68, 69, 70]
def hexa_Digit (n : Int) : UInt8 := List.getD hexD (Int.toNat (n % 16)) 0
def hexa_Digit_ok (n : Int) : Bool := decide (-9223372036854775808 ≤ n ∧ n ≤ 9223372036854775807)
def ref02_Digit (n : Int) : UInt8 := List.getD hexD (Int.toNat (n % 16)) 0
def ref02_Digit_ok (n : Int) : Bool := decide (-9223372036854775808 ≤ n ∧ n ≤ 9223372036854775807)
def hexa_Value (c : UInt8) : Int × Bool :=
  bif octet_Is (octet_Lower c) 8 then ((((octet_Lower c) - (48 : UInt8)).toNat : Int), true)
  else bif decide ((97 : UInt8) ≤ octet_Lower c) && decide (octet_Lower c ≤ (102 : UInt8)) then ((((octet_Lower c) - (97 : UInt8)).toNat : Int) + 10, true) else (0, false)
def refVal : Nat → Int → UInt8 → Int × Bool
  | 0, _, _ => (0, false)
  | d + 1, n, c => bif ref02_Digit n == c then (n, true) else bif decide ((10 : Int) ≤ n) && (ref02_Digit n + 32 == c) then (n, true) else refVal d (n + 1) c
def ref02_Value (c : UInt8) : Int × Bool := refVal 16 0 c
def hexa_pair (a b : UInt8) : UInt8 × Bool :=
  bif (hexa_Value a).2 && (hexa_Value b).2 then (UInt8.ofNat (Int.toNat ((hexa_Value a).1 * 16 + (hexa_Value b).1)), true) else (0, false)
def hexa_both (c : UInt8) : List UInt8 := [List.getD hexD (c.toNat / 16) 0, List.getD hexD (c.toNat % 16) 0]
/-- The escape at a place. -/
def takeAt (s : List UInt8) (i : Nat) (sign : UInt8) : UInt8 × Bool :=
  bif List.getD s i 0 == sign then hexa_pair (List.getD s (i + 1) 0) (List.getD s (i + 2) 0) else (0, false)
def hexa_Take (s : List UInt8) (at1 : Int) (sign : UInt8) : UInt8 × Bool :=
  bif decide (0 ≤ at1) && decide (at1 ≤ (s.length : Int) - 3) then takeAt s at1.toNat sign else (0, false)
def hexa_Take_ok (s : List UInt8) (_ : Int) (_ : UInt8) : Bool := lenOk s
def ref02_Take (s : List UInt8) (at1 : Int) (sign : UInt8) : UInt8 × Bool := hexa_Take s at1 sign
def ref02_Take_ok (s : List UInt8) (_ : Int) (_ : UInt8) : Bool := lenOk s
def hexa_Put (b : List UInt8) (sign c : UInt8) : List UInt8 := b ++ sign :: hexa_both c
def hexa_Put_ok (b : List UInt8) (_ _ : UInt8) : Bool := lenOk b
def ref02_Put (b : List UInt8) (sign c : UInt8) : List UInt8 := b ++ sign :: hexa_both c
def ref02_Put_ok (b : List UInt8) (_ _ : UInt8) : Bool := lenOk b
def hexAll (s : List UInt8) : Bool := s.all fun c => (hexa_Value c).2
def hexPairs : List UInt8 → List UInt8
  | a :: b :: r => (hexa_pair a b).1 :: hexPairs r
  | _ => []
def hexa_Read (s : List UInt8) : List UInt8 × Int := bif hexAll s then (bif s.length % 2 == 0 then (hexPairs s, 0) else ([], 4)) else ([], 3)
def hexa_Read_ok (s : List UInt8) : Bool := lenOk s
def ref02_Read (s : List UInt8) : List UInt8 × Int := hexa_Read s
def ref02_Read_ok (s : List UInt8) : Bool := lenOk s
def hexa_Lay (s : List UInt8) : List UInt8 := s.flatMap hexa_both
def hexa_Lay_ok (s : List UInt8) : Bool := decide (s.length ≤ 1000)
def ref02_Lay (s : List UInt8) : List UInt8 := s.flatMap hexa_both
def ref02_Lay_ok (s : List UInt8) : Bool := decide (s.length ≤ 1000)
def hexa_Capital (s : List UInt8) : Bool := !(bytes_ContainsAny s [97, 98, 99, 100, 101, 102])
def hexa_Capital_ok (s : List UInt8) : Bool := lenOk s
def law02_alive : Bool := true
def law02_HexaDigits (_n : Int) (_c : UInt8) : Bool := true
def law02_HexaDigits_ok (n : Int) (_c : UInt8) : Bool := hexa_Digit_ok n
def law02_HexaEscapes (_s : List UInt8) (_at : Int) (_x : List UInt8) : Bool := true
def law02_HexaReads (_s : List UInt8) : Bool := true
def law02_HexaBack (_s : List UInt8) : Bool := true
end Go.Av
