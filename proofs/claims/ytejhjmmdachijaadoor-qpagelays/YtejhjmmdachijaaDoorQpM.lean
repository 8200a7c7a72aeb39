/-
  What the functions of the layer 'qpage' compute.
-/
import Derived.Test.YtejhjmmdachijaaDoorFiM
namespace Go.Av
/-! ### escapes -/
def hexD : List UInt8 := [48, 49, 50, 51, 52, 53, 54, 55, 56, 57, 65, 66, 67, 68, 69, 70]
def hexa_Digit (n : Int) : UInt8 := List.getD hexD (Int.toNat (n % 16)) 0
def hexa_Digit_ok (n : Int) : Bool := decide (-9223372036854775808 ≤ n ∧ n ≤ 9223372036854775807)
def ref02_Digit (n : Int) : UInt8 := List.getD hexD (Int.toNat (n % 16)) 0
def ref02_Digit_ok (n : Int) : Bool := decide (-9223372036854775808 ≤ n ∧ n ≤ 9223372036854775807)
def hexa_Value (c : UInt8) : Int × Bool :=
  bif octet_Is (octet_Lower c) 8 then ((((octet_Lower c) - (48 : UInt8)).toNat : Int), true)
  else bif decide ((97 : UInt8) ≤ octet_Lower c) && decide (octet_Lower c ≤ (102 : UInt8)) then ((((octet_Lower c) - (97 : UInt8)).toNat : Int) + 10, true) else (0, false)
def refVal : Nat → Int → UInt8 → Int × Bool
  | 0, _, _ => (0, false)
  | d + 1, n, c => bif ref02_Digit n == c then (n, true) else bif decide ((10 : Int) ≤ n) && (ref02_Digit n + 32 == c) then (n, true) else refVal d (n + 1) c
def ref02_Value (c : UInt8) : Int × Bool := refVal 16 0 c
def hexa_pair (a b : UInt8) : UInt8 × Bool :=
  bif (hexa_Value a).2 && (hexa_Value b).2 then (UInt8.ofNat (Int.toNat ((hexa_Value a).1 * 16 + (hexa_Value b).1)), true) else (0, false)
def hexa_both (c : UInt8) : List UInt8 := [List.getD hexD (c.toNat / 16) 0, List.getD hexD (c.toNat % 16) 0]
/-- The escape at a place. -/
def takeAt (s : List UInt8) (i : Nat) (sign : UInt8) : UInt8 × Bool :=
  bif List.getD s i 0 == sign then hexa_pair (List.getD s (i + 1) 0) (List.getD s (i + 2) 0) else (0, false)
def hexa_Take (s : List UInt8) (at1 : Int) (sign : UInt8) : UInt8 × Bool :=
  bif decide (0 ≤ at1) && decide (at1 ≤ (s.length : Int) - 3) then takeAt s at1.toNat sign else (0, false)
def hexa_Take_ok (s : List UInt8) (_ : Int) (_ : UInt8) : Bool := lenOk s
def ref02_Take (s : List UInt8) (at1 : Int) (sign : UInt8) : UInt8 × Bool := hexa_Take s at1 sign
def ref02_Take_ok (s : List UInt8) (_ : Int) (_ : UInt8) : Bool := lenOk s
def hexa_Put (b : List UInt8) (sign c : UInt8) : List UInt8 := b ++ sign :: hexa_both c
def hexa_Put_ok (b : List UInt8) (_ _ : UInt8) : Bool := lenOk b
def ref02_Put (b : List UInt8) (sign c : UInt8) : List UInt8 := b ++ sign :: hexa_both c
def ref02_Put_ok (b : List UInt8) (_ _ : UInt8) : Bool := lenOk b
def hexa_Capital (s : List UInt8) : Bool := !(bytes_ContainsAny s [97, 98, 99, 100, 101, 102])
def hexa_Capital_ok (s : List UInt8) : Bool := lenOk s
/-! ### pages -/
def bytes_IndexByte (s : List UInt8) (c : UInt8) : Int := Lib.indexByte s c
def internal_bytealg_Count_ok (_ : List UInt8) (_ : UInt8) : Bool := false
def internal_bytealg_Count (s : List UInt8) (c : UInt8) : Int := ((s.count c : Nat) : Int)
def unicode_utf8_RuneCount (_ : List UInt8) : Int := 0
def unicode_utf8_RuneCount_ok (_ : List UInt8) : Bool := false
/-- How often a text stands in another, one behind the other. -/
def cntF (sep : List UInt8) : Nat → List UInt8 → Nat
  | 0, _ => 0
  | f + 1, s => bif Lib.index s sep == -1 then 0 else cntF sep f (s.drop ((Lib.index s sep).toNat + sep.length)) + 1
def bytes_Count (s sep : List UInt8) : Int := (cntF sep (s.length + 1) s : Nat)
def bytes_Count_ok (s sep : List UInt8) : Bool := lenOk s && (lenOk sep && decide (2 ≤ sep.length))
/-- How many octets a break has that begins the text. -/
def brk : List UInt8 → Nat
  | [] => 0
  | x :: r => bif x == 13 then (match r with | [] => 1 | y :: _ => bif y == 10 then 2 else 1) else bif x == 10 then 1 else 0
def qpage_broken (s : List UInt8) (i : Int) : Int := (brk (s.drop i.toNat) : Nat)
def qpage_broken_ok (s : List UInt8) (i : Int) : Bool := lenOk s && decide (0 ≤ i ∧ i ≤ 1048577)
def unitL (c : UInt8) (ends : Bool) : List UInt8 := bif ((c != 61) && octet_Is c 4) || (!ends && octet_Is c 2) then [c] else 61 :: hexa_both c
def qpage_Unit (c : UInt8) (ends : Bool) : List UInt8 := unitL c ends
def ref18_Unit (c : UInt8) (ends : Bool) : List UInt8 := unitL c ends
/-- The breaks all alike; of the first k octets nothing is left. -/
def brksS : Nat → List UInt8 → List UInt8
  | _, [] => []
  | 0, x :: r => match brk (x :: r) with
    | 0 => x :: brksS 0 r
    | k + 1 => 13 :: 10 :: brksS k r
  | k + 1, _ :: r => brksS k r
def qpage_Breaks (s : List UInt8) : List UInt8 := brksS 0 s
def qpage_Breaks_ok (s : List UInt8) : Bool := lenOk s
def ref18_Breaks (s : List UInt8) : List UInt8 := brksS 0 s
def ref18_Breaks_ok (s : List UInt8) : Bool := lenOk s
abbrev Page := List UInt8 × (Int × Unit)
def pEnd (p : Page) (soft : Bool) : Page := (p.1 ++ (bif soft then [61, 13, 10] else [13, 10]), (0, ()))
def __qpage_page__end (p : Page) (soft : Bool) : Page := pEnd p soft
def __qpage_page__end_ok (p : Page) (_ : Bool) : Bool := decide (p.1.length ≤ 100000000)
def pPut (p : Page) (u : List UInt8) : Page :=
  let q := bif decide (75 < p.2.1 + (u.length : Nat)) then pEnd p true else p
  (q.1 ++ u, (q.2.1 + (u.length : Nat), ()))
def __qpage_page__put (p : Page) (u : List UInt8) : Page := pPut p u
def __qpage_page__put_ok (p : Page) (u : List UInt8) : Bool := decide (p.1.length ≤ 100000000) && (decide (0 ≤ p.2.1 ∧ p.2.1 ≤ 1000000) && decide (u.length ≤ 1000000))
/-- What is laid behind a page. -/
def layS : Nat → List UInt8 → Page → Page
  | _, [], p => p
  | 0, x :: r, p => match brk (x :: r) with
    | 0 => layS 0 r (pPut p (unitL x (decide (0 < brk r))))
    | k + 1 => layS k r (pEnd p false)
  | k + 1, _ :: r, p => layS k r p
def pDone (p : Page) : List UInt8 := bif decide (0 < p.2.1) then (pEnd p true).1 else p.1
def qpage_Lay (s : List UInt8) : List UInt8 := pDone (layS 0 s ([], (0, ())))
def qpage_Lay_ok (s : List UInt8) : Bool := lenOk s
def ref18_Lay (s : List UInt8) : List UInt8 := qpage_Lay s
def ref18_Lay_ok (s : List UInt8) : Bool := lenOk s
def qpage_Len (s : List UInt8) : Int := ((qpage_Lay s).length : Nat)
def qpage_Len_ok (s : List UInt8) : Bool := lenOk s
/-! ### lines -/
/-- Is a line right from place i on. -/
def rightS : List UInt8 → Bool
  | [] => true
  | x :: r => (octet_Is x 6) && ((bif (x == 61) && !(r.isEmpty) then (hexa_Take (x :: r) 0 61).2 && hexa_Capital (r.take 2) else true) && rightS r)
def lastBlank (l : List UInt8) : Bool := match l.getLast? with | none => false | some c => octet_Is c 2
def qpage_right (l : List UInt8) : Bool := rightS l && !(lastBlank l)
def qpage_right_ok (l : List UInt8) : Bool := lenOk l
def ref18_right (l : List UInt8) : Bool := qpage_right l
def ref18_right_ok (l : List UInt8) : Bool := lenOk l
/-- Are lines right. -/
def checkL : List (List UInt8) → Bool → Int
  | [], _ => 0
  | [x], ends => bif decide (76 < x.length) then 12 else bif !ends then 4 else bif qpage_right x then 0 else 3
  | x :: y :: r, ends => bif decide (76 < x.length) then 12 else bif qpage_right x then checkL (y :: r) ends else 3
def qpage_Check (s : List UInt8) : Int := checkL (ref18_Lines s).1 (ref18_Lines s).2
def qpage_Check_ok (s : List UInt8) : Bool := lenOk s
def ref18_Check (s : List UInt8) : Int := checkL (ref18_Lines s).1 (ref18_Lines s).2
def ref18_Check_ok (s : List UInt8) : Bool := lenOk s
def qpage_Soft (s : List UInt8) : Int := bytes_Count s [61, 13, 10]
def qpage_Soft_ok (s : List UInt8) : Bool := lenOk s
def softL : List (List UInt8) → Bool → Nat
  | [], _ => 0
  | [x], ends => bif (x.getLast? == some 61) && ends then 1 else 0
  | x :: y :: r, ends => (bif x.getLast? == some 61 then 1 else 0) + softL (y :: r) ends
def ref18_Soft (s : List UInt8) : Int := (softL (ref18_Lines s).1 (ref18_Lines s).2 : Nat)
def ref18_Soft_ok (s : List UInt8) : Bool := lenOk s
def law18_alive : Bool := true
def law18_QpageLays (_ : List UInt8) (_ : UInt8) (_ : Bool) : Bool := true
def law18_QpageChecks (_ : List UInt8) : Bool := true
def law18_QpageRight (_ : List UInt8) : Bool := true
def law18_QpageBreaks (_ : List UInt8) : Bool := true
end Go.Av
