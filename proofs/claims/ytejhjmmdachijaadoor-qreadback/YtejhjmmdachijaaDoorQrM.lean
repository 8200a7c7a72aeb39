import Derived.Test.YtejhjmmdachijaaDoorQpM
namespace Go.Av
set_option linter.unusedVariables false
set_option linter.unusedSimpArgs false
def z59 (s cs : List UInt8) : List UInt8 := dropR (fun c => cs.contains c) s
def z59_ok (s cs : List UInt8) : Bool := lenOk s && (decide (2 ≤ cs.length) && (ascii cs && lenOk cs))
def z81 (s t : List UInt8) : Bool := bif decide (t.length ≤ s.length) then s.drop (s.length - t.length) == t else false
def z60 (s t : List UInt8) : List UInt8 × Bool := bif z81 s t then (s.take (s.length - t.length), true) else (s, false)
def z81_ok (s _ : List UInt8) : Bool := lenOk s
def z60_ok (s _ : List UInt8) : Bool := lenOk s
def z88 (s t : List UInt8) : Bool := bif decide (t.length ≤ s.length) then s.take t.length == t else false
def softEnd (l : List UInt8) : Bool := l.getLast? == some 61
def bareL (l : List UInt8) : List UInt8 := bif softEnd (dropR blank l) then (dropR blank l).dropLast else dropR blank l
def z45 (l : List UInt8) : List UInt8 × Bool := (bareL l, softEnd (dropR blank l))
def z45_ok (l : List UInt8) : Bool := lenOk l
def unescS : Nat → List UInt8 → List UInt8 × Nat
  | _, [] => ([], 0)
  | k + 1, _ :: r => unescS k r
  | 0, x :: r => bif (z50 (x :: r) 0 61).2 then ((z50 (x :: r) 0 61).1 :: (unescS 2 r).1, (unescS 2 r).2)
    else (x :: (unescS 0 r).1, (unescS 0 r).2 + (bif x == 61 then 1 else 0))
def z46 (l : List UInt8) : List UInt8 × Int := ((unescS 0 l).1, ((unescS 0 l).2 : Int))
def z46_ok (l : List UInt8) : Bool := lenOk l
def z25 (l : List UInt8) : List UInt8 × Bool := ((unescS 0 (bareL l)).1, softEnd (dropR blank l))
def z25_ok (l : List UInt8) : Bool := lenOk l
def strangeL (l : List UInt8) : Nat := (unescS 0 (bareL l)).2
def brkA : List UInt8 → Nat
  | [] => 0
  | [_] => 1
  | x :: y :: _ => bif (x == 13) && (y == 10) then 2 else 1
def z64 (s : List UInt8) : Int := (brkA s : Nat)
def isBrk (c : UInt8) : Bool := (c == 13) || (c == 10)
def lineOf (s : List UInt8) : List UInt8 := s.takeWhile fun c => !(isBrk c)
def behind (s : List UInt8) : List UInt8 := s.dropWhile fun c => !(isBrk c)
def endOf (s : List UInt8) : List UInt8 := (behind s).take (brkA (behind s))
def restOf (s : List UInt8) : List UInt8 := (behind s).drop (brkA (behind s))
def linesF {σ : Type} (f : σ → List UInt8 → List UInt8 → Bool × Bool × σ) : Nat → σ → List UInt8 → Bool × σ × List UInt8
  | 0, x, s => (false, x, s)
  | n + 1, x, s => bif s.isEmpty then (true, x, s) else
    bif (f x (lineOf s) (endOf s)).1 then
      bif (f x (lineOf s) (endOf s)).2.1 then linesF f n (f x (lineOf s) (endOf s)).2.2 (restOf s) else (true, (f x (lineOf s) (endOf s)).2.2, s)
    else (false, x, s)
def z62 {σ : Type} (f : σ → List UInt8 → List UInt8 → Bool × Bool × σ) (x : σ) (s : List UInt8) : Bool × σ × List UInt8 :=
  bif lenOk s then linesF f (s.length + 1) x s else (false, x, s)
def linesS : Bool → List UInt8 → List UInt8 → List (List UInt8 × List UInt8)
  | _, cur, [] => [(cur, [])]
  | true, cur, _ :: r => linesS false cur r
  | false, cur, c :: r => bif isBrk c then
      bif (c == 13) && (r.head? == some 10) then (cur, [13, 10]) :: linesS true [] r else (cur, [c]) :: linesS false [] r
    else linesS false (cur ++ [c]) r
def readLn (p : List UInt8 × List UInt8) : List UInt8 := (z25 p.1).1 ++ (bif (z25 p.1).2 then [] else p.2)
def z27 (s : List UInt8) : List UInt8 := (linesS false [] s).flatMap readLn
def z27_ok (s : List UInt8) : Bool := lenOk s
def strangeN (l : List (List UInt8 × List UInt8)) : Nat := (l.map fun p => strangeL p.1).sum
def z31 (s : List UInt8) : Int := (strangeN (linesS false [] s) : Nat)
def z31_ok (s : List UInt8) : Bool := lenOk s
def z29 (s : List UInt8) : List UInt8 × Int := bif z12 s == 0 then (z27 s, 0) else ([], z12 s)
def z29_ok (s : List UInt8) : Bool := lenOk s
def z32 (s : List UInt8) : List UInt8 := z16 (z27 s)
def z32_ok (s : List UInt8) : Bool := lenOk s
def z24 : Bool := true
def z10 (_ : List UInt8) : Bool := true
end Go.Av
