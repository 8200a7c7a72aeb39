import Derived.Test.YtopepdfipgfakaaGreatDoorAvE
import Derived.Lib.Bytealg
import Derived.Lib.Index
import Derived.Lib.MapLaws
namespace Go.Av
set_option linter.unusedVariables false
set_option linter.unusedSimpArgs false
def z241 (s:List UInt8) (c:UInt8):Int:=Lib.indexByte s c
def z229 (s:List UInt8) (c:UInt8):Int:=Lib.indexByte s c
def z192 (s:List UInt8) (c:UInt8):Int:=Lib.indexByte s c
def z215 (s:List UInt8) (c:UInt8):Bool:=decide ((0:Int)≤Lib.indexByte s c)
def orI (a b:Int):Int:=bits .or .i64 a b
def qrL (n:Int) (c:UInt8):Int :=
 bif c==(32:UInt8) then orI n 2 else bif c==(9:UInt8) then orI n 2
 else bif decide ((48:UInt8)≤c)&&decide (c≤(57:UInt8)) then orI n 648
 else bif (decide ((65:UInt8)≤c)&&decide (c≤(90:UInt8)))||(decide ((97:UInt8)≤c)&&decide (c≤(122:UInt8))) then orI n 656 else n
def z214 (c:UInt8):Int:=qrL (bif decide (c < (32:UInt8))||(c==(127:UInt8)) then orI 0 1 else 0) c
def qDW (t:Bool) (k n:Int):Int:=bif t then orI n k else n
def z180 (c:UInt8):Int :=
 bif decide (c < (33:UInt8))||decide ((126:UInt8) < c) then z214 c
 else
  let n:=qDW (z215 [43,47] c) 512 (qDW (z215 [33,42,43,45,47] c) 128 (orI (z214 c) 4))
  bif z215 [40,41,60,62,64,44,59,58,92,34,47,91,93,63,61] c then orI n 32
  else qDW (!(z215 [42,39,37] c)) 256 (orI n 64)
def z129 (c:UInt8) (k:Int):Bool:=(bits .and .i64 (z180 c) k) != 0
def blank (c:UInt8):Bool:=(c==32)||(c==9)
def z38 (b:List UInt8):List UInt8:=b
def qzr (b:List UInt8):Bool:=lenOk b
def dropR (p:UInt8→Bool) (s:List UInt8):List UInt8:=(s.reverse.dropWhile p).reverse
def qkN (p:UInt8→Bool) (s:List UInt8):List UInt8:=(dropR p s).dropWhile p
def z126 (c:UInt8):UInt8:=bif decide ((65:UInt8)≤c)&&decide (c≤(90:UInt8)) then c ||| 32 else c
def z79 (s:List UInt8):List UInt8:=s.map z126
def z127 (s:List UInt8) (k:Int):Int:=((s.countP fun c=>z129 c k:Nat):Int)
def z148 (s:List UInt8):List UInt8:=qkN blank s
def qEJ (s:List UInt8) (_:UInt8):Bool:=lenOk s
def z179 (s:List UInt8) (c:UInt8):Bool:=s.contains c
def z128 (c:UInt8):Int:=z180 c
def z82 (c:UInt8) (k:Int):Bool:=z129 c k
def z43 (s:List UInt8) (k:Int):Int:=z127 s k
def qtA (s:List UInt8) (_:Int):Bool:=lenOk s
def z147 (s:List UInt8):List UInt8:=qkN blank s
def qrM (s:List UInt8):Bool:=lenOk s
end Go.Av
