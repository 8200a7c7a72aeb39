import Derived.Test.YtejhjmmdachijaaDoorAvE
import Derived.Lib.Bytealg
import Derived.Lib.Index
import Derived.Lib.MapLaws
namespace Go.Av
set_option linter.unusedVariables false
set_option linter.unusedSimpArgs false
def z82 (s : List UInt8) (c : UInt8) : Int := Lib.indexByte s c
def z87 (a b : List UInt8) : Int := Lib.index a b
def z87_ok (m0 : Int) (a b : List UInt8) : Bool := decide (2 ≤ b.length) && decide ((b.length : Int) ≤ m0) && decide (a.length ≤ 1048576)
def z99 (s : List UInt8) (c : UInt8) : Int := Lib.indexByte s c
def z92 (s : List UInt8) (c : UInt8) : Int := Lib.indexByte s c
def z74 (s : List UInt8) (c : UInt8) : Bool := decide ((0 : Int) ≤ Lib.indexByte s c)
def z83 (_s : List UInt8) (_r : Int) : Int := 0
def z83_ok (_s : List UInt8) (_r : Int) : Bool := false
def z86 (p : List UInt8) : Int × Int := (((Lib.decodeL p).1 : Int), ((Lib.decodeL p).2 : Int))
def z86_ok (p : List UInt8) : Bool := decide (0 < p.length)
def z84 (n : Int) : Bool := decide ((8 : Int) < n)
def setOf (cs : List UInt8) (a : List Bool) : List Bool := cs.foldl (fun a c => List.set a c.toNat true) a
def z78 (cs : List UInt8) : List Bool × Bool := (setOf cs (List.replicate 256 false), true)
def ascii (cs : List UInt8) : Bool := cs.all fun c => decide (c < (128 : UInt8))
def z78_ok (cs : List UInt8) : Bool := ascii cs && lenOk cs
def z85 (as : List Bool) (c : UInt8) : Bool := List.getD as c.toNat false
def anyAt (cs : List UInt8) : List UInt8 → Int → Int
  | [], _ => -1
  | x :: r, i => bif cs.contains x then i else anyAt cs r (i + 1)
def z63 (s cs : List UInt8) : Int := anyAt cs s 0
def z63_ok (s cs : List UInt8) : Bool := (decide (2 ≤ cs.length) && (ascii cs && lenOk cs)) && lenOk s
def z71 (s cs : List UInt8) : Bool := decide ((0 : Int) ≤ z63 s cs)
def z71_ok (s cs : List UInt8) : Bool := z63_ok s cs
def z18 (a b : List UInt8) : Bool := decide (a = b)
def z18_ok (a _b : List UInt8) : Bool := lenOk a
def orI (a b : Int) : Int := bits .or .i64 a b
def plainTail (n : Int) (c : UInt8) : Int :=
  bif c == (32 : UInt8) then orI n 2 else bif c == (9 : UInt8) then orI n 2
  else bif decide ((48 : UInt8) ≤ c) && decide (c ≤ (57 : UInt8)) then orI n 648
  else bif (decide ((65 : UInt8) ≤ c) && decide (c ≤ (90 : UInt8))) || (decide ((97 : UInt8) ≤ c) && decide (c ≤ (122 : UInt8))) then orI n 656 else n
def z73 (c : UInt8) : Int := plainTail (bif decide (c < (32 : UInt8)) || (c == (127 : UInt8)) then orI 0 1 else 0) c
def kindIf (t : Bool) (k n : Int) : Int := bif t then orI n k else n
def z54 (c : UInt8) : Int :=
  bif decide (c < (33 : UInt8)) || decide ((126 : UInt8) < c) then z73 c
  else
    let n := kindIf (z74 [43, 47] c) 512 (kindIf (z74 [33, 42, 43, 45, 47] c) 128 (orI (z73 c) 4))
    bif z74 [40, 41, 60, 62, 64, 44, 59, 58, 92, 34, 47, 91, 93, 63, 61] c then orI n 32
    else kindIf (!(z74 [42, 39, 37] c)) 256 (orI n 64)
def z41 (c : UInt8) (k : Int) : Bool := (bits .and .i64 (z54 c) k) != 0
def z49 (s sep : List UInt8) : Int := Lib.index s sep
def z49_ok (s sep : List UInt8) : Bool := lenOk s && (lenOk sep && decide (1 ≤ sep.length))
def z33 (s sep : List UInt8) : List UInt8 × List UInt8 × Bool :=
  bif decide ((0 : Int) ≤ Lib.index s sep) then (s.take (Lib.index s sep).toNat, s.drop ((Lib.index s sep).toNat + sep.length), true) else (s, [], false)
def z33_ok (s sep : List UInt8) : Bool := lenOk s && (lenOk sep && decide (1 ≤ sep.length))
def blank (c : UInt8) : Bool := (c == 32) || (c == 9)
def z55 (b : List UInt8) : List UInt8 := b
def z55_ok (b : List UInt8) : Bool := lenOk b
def z66 (a b : List UInt8) : Bool := a == b
def z77 (s : List UInt8) (_ : UInt8) : List UInt8 := s
def z77_ok (_ : List UInt8) (_ : UInt8) : Bool := false
def z80 (s _ : List UInt8) : List UInt8 := s
def z80_ok (_ _ : List UInt8) : Bool := false
def dropR (p : UInt8 → Bool) (s : List UInt8) : List UInt8 := (s.reverse.dropWhile p).reverse
def z79 (s : List UInt8) (a : List Bool) : List UInt8 := dropR (fun c => z85 a c) s
def z79_ok (s : List UInt8) (_ : List Bool) : Bool := lenOk s
def z98 (c : UInt8) : UInt8 := bif decide ((65 : UInt8) ≤ c) && decide (c ≤ (90 : UInt8)) then c ||| 32 else c
def z76_ok (s : List UInt8) (_ : UInt8) : Bool := lenOk s
def z76 (s : List UInt8) (c : UInt8) : Bool := s.contains c
def z57 (c : UInt8) : Int := z54 c
def z43 (c : UInt8) (k : Int) : Bool := z41 c k
def lineB : Bool → List UInt8 → List UInt8 → List (List UInt8)
  | _, cur, [] => [cur]
  | true, cur, _ :: r => lineB false cur r
  | false, cur, c :: r => if c = 13 ∧ r.head? = some 10 then cur :: lineB true [] r else lineB false (cur ++ [c]) r
def splitS (cur s : List UInt8) : List (List UInt8) := lineB false cur s
def linesEnd : List (List UInt8) → List (List UInt8) × Bool
  | [] => ([], true)
  | [x] => if x = [] then ([], true) else ([x], false)
  | x :: r => (x :: (linesEnd r).1, (linesEnd r).2)
def z35 (s : List UInt8) : List (List UInt8) × Bool := linesEnd (splitS [] s)
end Go.Av
