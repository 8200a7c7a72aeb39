import Derived.Test.YtopepdfipgfakaaGreatDoorAvE
import Derived.Lib.Bytealg
import Derived.Lib.Index
import Derived.Lib.MapLaws
namespace Go.Av
abbrev LU:=List UInt8
abbrev LI:=List Int
def z241 (s:LU) (c:UInt8):Int:=Lib.indexByte s c
def z229 (s:LU) (c:UInt8):Int:=Lib.indexByte s c
def z192 (s:LU) (c:UInt8):Int:=Lib.indexByte s c
def z215 (s:LU) (c:UInt8):Bool:=decide ((0:Int)≤Lib.indexByte s c)
def setOf (cs:LU) (a:List Bool):List Bool:=cs.foldl (fun a c=>List.set a c.toNat true) a
def z223 (cs:LU):List Bool×Bool:=(setOf cs (List.replicate 256 false),true)
def ascii (cs:LU):Bool:=cs.all fun c=>decide (c < (128:UInt8))
def qhV (cs:LU):Bool:=ascii cs&&lenOk cs
def z238 (as:List Bool) (c:UInt8):Bool:=List.getD as c.toNat false
def orI (a b:Int):Int:=bits .or .i64 a b
def qpM (n:Int) (c:UInt8):Int :=
 bif c==(32:UInt8) then orI n 2 else bif c==(9:UInt8) then orI n 2
 else bif decide ((48:UInt8)≤c)&&decide (c≤(57:UInt8)) then orI n 648
 else bif (decide ((65:UInt8)≤c)&&decide (c≤(90:UInt8)))||(decide ((97:UInt8)≤c)&&decide (c≤(122:UInt8))) then orI n 656 else n
def z214 (c:UInt8):Int:=qpM (bif decide (c < (32:UInt8))||(c==(127:UInt8)) then orI 0 1 else 0) c
def qBp (t:Bool) (k n:Int):Int:=bif t then orI n k else n
def z180 (c:UInt8):Int :=
 bif decide (c < (33:UInt8))||decide ((126:UInt8) < c) then z214 c
 else
  let n:=qBp (z215 [43,47] c) 512 (qBp (z215 [33,42,43,45,47] c) 128 (orI (z214 c) 4))
  bif z215 [40,41,60,62,64,44,59,58,92,34,47,91,93,63,61] c then orI n 32
  else qBp (!(z215 [42,39,37] c)) 256 (orI n 64)
def z129 (c:UInt8) (k:Int):Bool:=(bits .and .i64 (z180 c) k) != 0
def z125 (s sep:LU):Int:=Lib.index s sep
def qiM (s sep:LU):Bool:=lenOk s&&(lenOk sep&&decide (1≤sep.length))
def blank (c:UInt8):Bool:=(c==32)||(c==9)
def z38 (b:LU):LU:=b
def qdP (b:LU):Bool:=lenOk b
def z175 (a b:LU):Bool:=a==b
def z221 (s:LU) (_:UInt8):LU:=s
def qxb (_:LU) (_:UInt8):Bool:=false
def z222 (s:LU) (_:UInt8):LU:=s
def qxc (_:LU) (_:UInt8):Bool:=false
def z226 (s _:LU):LU:=s
def qxd (_ _:LU):Bool:=false
def z227 (s _:LU):LU:=s
def qxe (_ _:LU):Bool:=false
def dropR (p:UInt8→Bool) (s:LU):LU:=(s.reverse.dropWhile p).reverse
def qhW (p:UInt8→Bool) (s:LU):LU:=(dropR p s).dropWhile p
def z224 (s:LU) (a:List Bool):LU:=s.dropWhile fun c=>z238 a c
def qlT (s:LU) (_:List Bool):Bool:=lenOk s
def z225 (s:LU) (a:List Bool):LU:=dropR (fun c=>z238 a c) s
def qlU (s:LU) (_:List Bool):Bool:=lenOk s
def z190 (s cs:LU):LU:=qhW (fun c=>cs.contains c) s
def qiN (s cs:LU):Bool:=lenOk s&&(decide (2≤cs.length)&&(ascii cs&&lenOk cs))
def z126 (c:UInt8):UInt8:=bif decide ((65:UInt8)≤c)&&decide (c≤(90:UInt8)) then c ||| 32 else c
def z79 (s:LU):LU:=s.map z126
def qrh (s:LU):Bool:=lenOk s
def z127 (s:LU) (k:Int):Int:=((s.countP fun c=>z129 c k:Nat):Int)
def qpN (s:LU) (_:Int):Bool:=lenOk s
def z80 (s:LU) (k:Int):Bool:=s.all fun c=>z129 c k
def qri (s:LU) (_:Int):Bool:=lenOk s
def z148 (s:LU):LU:=qhW blank s
def qiO (s:LU):Bool:=lenOk s
def qCk (s:LU) (_:UInt8):Bool:=lenOk s
def z179 (s:LU) (c:UInt8):Bool:=s.contains c
def z128 (c:UInt8):Int:=z180 c
def z82 (c:UInt8) (k:Int):Bool:=z129 c k
def z43 (s:LU) (k:Int):Int:=z127 s k
def qrj (s:LU) (_:Int):Bool:=lenOk s
def z147 (s:LU):LU:=qhW blank s
def qpO (s:LU):Bool:=lenOk s
end Go.Av
