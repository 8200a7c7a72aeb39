import Derived.Test.YtejhjmmdachijaaDoorFiM
namespace Go.Av
set_option linter.unusedVariables false
set_option linter.unusedSimpArgs false
def hexD : List UInt8 := [48, 49, 50, 51, 52, 53, 54, 55, 56, 57, 65, 66, 67, 68, 69, 70]
def z75 (n : Int) : UInt8 := List.getD hexD (Int.toNat (n % 16)) 0
def z75_ok (n : Int) : Bool := decide (-9223372036854775808 ≤ n ∧ n ≤ 9223372036854775807)
def z58 (n : Int) : UInt8 := List.getD hexD (Int.toNat (n % 16)) 0
def z58_ok (n : Int) : Bool := decide (-9223372036854775808 ≤ n ∧ n ≤ 9223372036854775807)
def z91 (c : UInt8) : Int × Bool :=
  bif z41 (z98 c) 8 then ((((z98 c) - (48 : UInt8)).toNat : Int), true)
  else bif decide ((97 : UInt8) ≤ z98 c) && decide (z98 c ≤ (102 : UInt8)) then ((((z98 c) - (97 : UInt8)).toNat : Int) + 10, true) else (0, false)
def z70 (a b : UInt8) : UInt8 × Bool :=
  bif (z91 a).2 && (z91 b).2 then (UInt8.ofNat (Int.toNat ((z91 a).1 * 16 + (z91 b).1)), true) else (0, false)
def z56 (c : UInt8) : List UInt8 := [List.getD hexD (c.toNat / 16) 0, List.getD hexD (c.toNat % 16) 0]
def takeAt (s : List UInt8) (i : Nat) (sign : UInt8) : UInt8 × Bool :=
  bif List.getD s i 0 == sign then z70 (List.getD s (i + 1) 0) (List.getD s (i + 2) 0) else (0, false)
def z50 (s : List UInt8) (at1 : Int) (sign : UInt8) : UInt8 × Bool :=
  bif decide (0 ≤ at1) && decide (at1 ≤ (s.length : Int) - 3) then takeAt s at1.toNat sign else (0, false)
def z50_ok (s : List UInt8) (_ : Int) (_ : UInt8) : Bool := lenOk s
def z42 (b : List UInt8) (sign c : UInt8) : List UInt8 := b ++ sign :: z56 c
def z42_ok (b : List UInt8) (_ _ : UInt8) : Bool := lenOk b
def z44 (b : List UInt8) (sign c : UInt8) : List UInt8 := b ++ sign :: z56 c
def z44_ok (b : List UInt8) (_ _ : UInt8) : Bool := lenOk b
def z51 (s : List UInt8) : Bool := !(z71 s [97, 98, 99, 100, 101, 102])
def z51_ok (s : List UInt8) : Bool := lenOk s
def brk : List UInt8 → Nat
  | [] => 0
  | x :: r => bif x == 13 then (match r with | [] => 1 | y :: _ => bif y == 10 then 2 else 1) else bif x == 10 then 1 else 0
def z39 (s : List UInt8) (i : Int) : Int := (brk (s.drop i.toNat) : Nat)
def z39_ok (s : List UInt8) (i : Int) : Bool := lenOk s && decide (0 ≤ i ∧ i ≤ 1048577)
def unitL (c : UInt8) (ends : Bool) : List UInt8 := bif ((c != 61) && z41 c 4) || (!ends && z41 c 2) then [c] else 61 :: z56 c
def z22 (c : UInt8) (ends : Bool) : List UInt8 := unitL c ends
def z23 (c : UInt8) (ends : Bool) : List UInt8 := unitL c ends
def brksS : Nat → List UInt8 → List UInt8
  | _, [] => []
  | 0, x :: r => match brk (x :: r) with
    | 0 => x :: brksS 0 r
    | k + 1 => 13 :: 10 :: brksS k r
  | k + 1, _ :: r => brksS k r
def z21 (s : List UInt8) : List UInt8 := brksS 0 s
def z21_ok (s : List UInt8) : Bool := lenOk s
abbrev Page := List UInt8 × (Int × Unit)
def pEnd (p : Page) (soft : Bool) : Page := (p.1 ++ (bif soft then [61, 13, 10] else [13, 10]), (0, ()))
def z40 (p : Page) (soft : Bool) : Page := pEnd p soft
def z40_ok (p : Page) (_ : Bool) : Bool := decide (p.1.length ≤ 100000000)
def pPut (p : Page) (u : List UInt8) : Page :=
  let q := bif decide (75 < p.2.1 + (u.length : Nat)) then pEnd p true else p
  (q.1 ++ u, (q.2.1 + (u.length : Nat), ()))
def z38 (p : Page) (u : List UInt8) : Page := pPut p u
def z38_ok (p : Page) (u : List UInt8) : Bool := decide (p.1.length ≤ 100000000) && (decide (0 ≤ p.2.1 ∧ p.2.1 ≤ 1000000) && decide (u.length ≤ 1000000))
def layS : Nat → List UInt8 → Page → Page
  | _, [], p => p
  | 0, x :: r, p => match brk (x :: r) with
    | 0 => layS 0 r (pPut p (unitL x (decide (0 < brk r))))
    | k + 1 => layS k r (pEnd p false)
  | k + 1, _ :: r, p => layS k r p
def pDone (p : Page) : List UInt8 := bif decide (0 < p.2.1) then (pEnd p true).1 else p.1
def z16 (s : List UInt8) : List UInt8 := pDone (layS 0 s ([], (0, ())))
def z16_ok (s : List UInt8) : Bool := lenOk s
def z19 (s : List UInt8) : List UInt8 := z16 s
def z19_ok (s : List UInt8) : Bool := lenOk s
def rightS : List UInt8 → Bool
  | [] => true
  | x :: r => (z41 x 6) && ((bif (x == 61) && !(r.isEmpty) then (z50 (x :: r) 0 61).2 && z51 (r.take 2) else true) && rightS r)
def lastBlank (l : List UInt8) : Bool := match l.getLast? with | none => false | some c => z41 c 2
def z34 (l : List UInt8) : Bool := rightS l && !(lastBlank l)
def z34_ok (l : List UInt8) : Bool := lenOk l
def checkL : List (List UInt8) → Bool → Int
  | [], _ => 0
  | [x], ends => bif decide (76 < x.length) then 12 else bif !ends then 4 else bif z34 x then 0 else 3
  | x :: y :: r, ends => bif decide (76 < x.length) then 12 else bif z34 x then checkL (y :: r) ends else 3
def z12 (s : List UInt8) : Int := checkL (z35 s).1 (z35 s).2
def z12_ok (s : List UInt8) : Bool := lenOk s
end Go.Av
