import Derived.Test.YtejhjmmdachijaaDoorFiM
namespace Go.Av
set_option linter.unusedVariables false
set_option linter.unusedSimpArgs false
def hexD : List UInt8 := [48, 49, 50, 51, 52, 53, 54, 55, 56, 57, 65, 66, 67, 68, 69, 70]
def z58 (n : Int) : UInt8 := List.getD hexD (Int.toNat (n % 16)) 0
def z58_ok (n : Int) : Bool := decide (-9223372036854775808 ≤ n ∧ n ≤ 9223372036854775807)
def z91 (c : UInt8) : Int × Bool :=
  bif z41 (z98 c) 8 then ((((z98 c) - (48 : UInt8)).toNat : Int), true)
  else bif decide ((97 : UInt8) ≤ z98 c) && decide (z98 c ≤ (102 : UInt8)) then ((((z98 c) - (97 : UInt8)).toNat : Int) + 10, true) else (0, false)
def refVal : Nat → Int → UInt8 → Int × Bool
  | 0, _, _ => (0, false)
  | d + 1, n, c => bif z58 n == c then (n, true) else bif decide ((10 : Int) ≤ n) && (z58 n + 32 == c) then (n, true) else refVal d (n + 1) c
def z61 (c : UInt8) : Int × Bool := refVal 16 0 c
def z70 (a b : UInt8) : UInt8 × Bool :=
  bif (z91 a).2 && (z91 b).2 then (UInt8.ofNat (Int.toNat ((z91 a).1 * 16 + (z91 b).1)), true) else (0, false)
def takeAt (s : List UInt8) (i : Nat) (sign : UInt8) : UInt8 × Bool :=
  bif List.getD s i 0 == sign then z70 (List.getD s (i + 1) 0) (List.getD s (i + 2) 0) else (0, false)
def z50 (s : List UInt8) (at1 : Int) (sign : UInt8) : UInt8 × Bool :=
  bif decide (0 ≤ at1) && decide (at1 ≤ (s.length : Int) - 3) then takeAt s at1.toNat sign else (0, false)
def z50_ok (s : List UInt8) (_ : Int) (_ : UInt8) : Bool := lenOk s
def z47 (s : List UInt8) (at1 : Int) (sign : UInt8) : UInt8 × Bool := z50 s at1 sign
def z47_ok (s : List UInt8) (_ : Int) (_ : UInt8) : Bool := lenOk s
end Go.Av
