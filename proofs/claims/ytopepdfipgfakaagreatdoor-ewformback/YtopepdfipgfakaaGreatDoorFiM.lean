import Derived.Test.YtopepdfipgfakaaGreatDoorAvE
import Derived.Lib.Bytealg
import Derived.Lib.Index
import Derived.Lib.MapLaws
namespace Go.Av
set_option linter.unusedVariables false
set_option linter.unusedSimpArgs false
def z241 (s:List UInt8) (c:UInt8):Int:=Lib.indexByte s c
def z229 (s:List UInt8) (c:UInt8):Int:=Lib.indexByte s c
def z192 (s:List UInt8) (c:UInt8):Int:=Lib.indexByte s c
def z215 (s:List UInt8) (c:UInt8):Bool:=decide ((0:Int)≤Lib.indexByte s c)
def setOf (cs:List UInt8) (a:List Bool):List Bool:=cs.foldl (fun a c=>List.set a c.toNat true) a
def z223 (cs:List UInt8):List Bool×Bool:=(setOf cs (List.replicate 256 false),true)
def ascii (cs:List UInt8):Bool:=cs.all fun c=>decide (c < (128:UInt8))
def qgs (cs:List UInt8):Bool:=ascii cs&&lenOk cs
def z238 (as:List Bool) (c:UInt8):Bool:=List.getD as c.toNat false
def orI (a b:Int):Int:=bits .or .i64 a b
def qmW (n:Int) (c:UInt8):Int :=
 bif c==(32:UInt8) then orI n 2 else bif c==(9:UInt8) then orI n 2
 else bif decide ((48:UInt8)≤c)&&decide (c≤(57:UInt8)) then orI n 648
 else bif (decide ((65:UInt8)≤c)&&decide (c≤(90:UInt8)))||(decide ((97:UInt8)≤c)&&decide (c≤(122:UInt8))) then orI n 656 else n
def z214 (c:UInt8):Int:=qmW (bif decide (c < (32:UInt8))||(c==(127:UInt8)) then orI 0 1 else 0) c
def qwU (t:Bool) (k n:Int):Int:=bif t then orI n k else n
def z180 (c:UInt8):Int :=
 bif decide (c < (33:UInt8))||decide ((126:UInt8) < c) then z214 c
 else
  let n:=qwU (z215 [43,47] c) 512 (qwU (z215 [33,42,43,45,47] c) 128 (orI (z214 c) 4))
  bif z215 [40,41,60,62,64,44,59,58,92,34,47,91,93,63,61] c then orI n 32
  else qwU (!(z215 [42,39,37] c)) 256 (orI n 64)
def z129 (c:UInt8) (k:Int):Bool:=(bits .and .i64 (z180 c) k) != 0
def z125 (s sep:List UInt8):Int:=Lib.index s sep
def qhb (s sep:List UInt8):Bool:=lenOk s&&(lenOk sep&&decide (1≤sep.length))
def blank (c:UInt8):Bool:=(c==32)||(c==9)
def z38 (b:List UInt8):List UInt8:=b
def qcY (b:List UInt8):Bool:=lenOk b
def z175 (a b:List UInt8):Bool:=a==b
def z221 (s:List UInt8) (_:UInt8):List UInt8:=s
def qtq (_:List UInt8) (_:UInt8):Bool:=false
def z222 (s:List UInt8) (_:UInt8):List UInt8:=s
def qtr (_:List UInt8) (_:UInt8):Bool:=false
def z226 (s _:List UInt8):List UInt8:=s
def qts (_ _:List UInt8):Bool:=false
def z227 (s _:List UInt8):List UInt8:=s
def qtt (_ _:List UInt8):Bool:=false
def dropR (p:UInt8→Bool) (s:List UInt8):List UInt8:=(s.reverse.dropWhile p).reverse
def qwV (p:UInt8→Bool) (s:List UInt8):List UInt8:=(dropR p s).dropWhile p
def z224 (s:List UInt8) (a:List Bool):List UInt8:=s.dropWhile fun c=>z238 a c
def qjI (s:List UInt8) (_:List Bool):Bool:=lenOk s
def z225 (s:List UInt8) (a:List Bool):List UInt8:=dropR (fun c=>z238 a c) s
def qjJ (s:List UInt8) (_:List Bool):Bool:=lenOk s
def z190 (s cs:List UInt8):List UInt8:=qwV (fun c=>cs.contains c) s
def qhc (s cs:List UInt8):Bool:=lenOk s&&(decide (2≤cs.length)&&(ascii cs&&lenOk cs))
def z126 (c:UInt8):UInt8:=bif decide ((65:UInt8)≤c)&&decide (c≤(90:UInt8)) then c ||| 32 else c
def z79 (s:List UInt8):List UInt8:=s.map z126
def qoi (s:List UInt8):Bool:=lenOk s
def z127 (s:List UInt8) (k:Int):Int:=((s.countP fun c=>z129 c k:Nat):Int)
def qmX (s:List UInt8) (_:Int):Bool:=lenOk s
def z80 (s:List UInt8) (k:Int):Bool:=s.all fun c=>z129 c k
def qoj (s:List UInt8) (_:Int):Bool:=lenOk s
def z148 (s:List UInt8):List UInt8:=qwV blank s
def qhd (s:List UInt8):Bool:=lenOk s
def z82 (c:UInt8) (k:Int):Bool:=z129 c k
end Go.Av
