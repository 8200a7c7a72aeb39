import Derived.Test.YtcbimkaeoojceaaGreatDoorAvE
import Derived.Lib.Bytealg
import Derived.Lib.Index
import Derived.Lib.MapLaws
namespace Go.Av
set_option linter.unusedSimpArgs false
set_option linter.unusedVariables false
abbrev LU:=List UInt8
abbrev LI:=List Int
def z142 (s:LU) (c:UInt8):Int:=Lib.indexByte s c
def z139 (s:LU) (c:UInt8):Int:=Lib.indexByte s c
def z133 (s:LU) (c:UInt8):Int:=Lib.indexByte s c
def z120 (s:LU) (c:UInt8):Bool:=decide ((0:Int)≤Lib.indexByte s c)
def setOf (cs:LU) (a:List Bool):List Bool:=cs.foldl (fun a c=>List.set a c.toNat true) a
def z125 (cs:LU):List Bool×Bool:=(setOf cs (List.replicate 256 false),true)
def ascii (cs:LU):Bool:=cs.all fun c=>decide (c < (128:UInt8))
def qin (cs:LU):Bool:=ascii cs&&lenOk cs
def z134 (as:List Bool) (c:UInt8):Bool:=List.getD as c.toNat false
def z8 (a b:LU):Bool:=decide (a=b)
def z8_ok (a _b:LU):Bool:=lenOk a
def orI (a b:Int):Int:=bits .or .i64 a b
def qqS (n:Int) (c:UInt8):Int :=
 bif c==(32:UInt8) then orI n 2 else bif c==(9:UInt8) then orI n 2
 else bif decide ((48:UInt8)≤c)&&decide (c≤(57:UInt8)) then orI n 648
 else bif (decide ((65:UInt8)≤c)&&decide (c≤(90:UInt8)))||(decide ((97:UInt8)≤c)&&decide (c≤(122:UInt8))) then orI n 656 else n
def z119 (c:UInt8):Int:=qqS (bif decide (c < (32:UInt8))||(c==(127:UInt8)) then orI 0 1 else 0) c
def qCd (t:Bool) (k n:Int):Int:=bif t then orI n k else n
def z99 (c:UInt8):Int :=
 bif decide (c < (33:UInt8))||decide ((126:UInt8) < c) then z119 c
 else
  let n:=qCd (z120 [43,47] c) 512 (qCd (z120 [33,42,43,45,47] c) 128 (orI (z119 c) 4))
  bif z120 [40,41,60,62,64,44,59,58,92,34,47,91,93,63,61] c then orI n 32
  else qCd (!(z120 [42,39,37] c)) 256 (orI n 64)
def z77 (c:UInt8) (k:Int):Bool:=(bits .and .i64 (z99 c) k) != 0
def z89 (s sep:LU):Int:=Lib.index s sep
def qwR (s sep:LU):Bool:=lenOk s&&(lenOk sep&&decide (sep.length=1))
def z65 (s sep:LU):LU×LU×Bool :=
 bif decide ((0:Int)≤Lib.index s sep) then (s.take (Lib.index s sep).toNat,s.drop ((Lib.index s sep).toNat+sep.length),true) else (s,[],false)
def qmO (s sep:LU):Bool:=lenOk s&&(lenOk sep&&decide (sep.length=1))
def blank (c:UInt8):Bool:=(c==32)||(c==9)
def z43 (b:LU):LU:=b
def qcQ (b:LU):Bool:=lenOk b
def z33 (a b:LU):Bool:=a==b
def z123 (s:LU) (_:UInt8):LU:=s
def qwS (_:LU) (_:UInt8):Bool:=false
def z124 (s:LU) (_:UInt8):LU:=s
def qwT (_:LU) (_:UInt8):Bool:=false
def z128 (s _:LU):LU:=s
def qwU (_ _:LU):Bool:=false
def z129 (s _:LU):LU:=s
def qwV (_ _:LU):Bool:=false
def dropR (p:UInt8→Bool) (s:LU):LU:=(s.reverse.dropWhile p).reverse
def qCe (p:UInt8→Bool) (s:LU):LU:=(dropR p s).dropWhile p
def z126 (s:LU) (a:List Bool):LU:=s.dropWhile fun c=>z134 a c
def qmP (s:LU) (_:List Bool):Bool:=lenOk s
def z127 (s:LU) (a:List Bool):LU:=dropR (fun c=>z134 a c) s
def qmQ (s:LU) (_:List Bool):Bool:=lenOk s
def z112 (s cs:LU):LU:=qCe (fun c=>cs.contains c) s
def qjD (s cs:LU):Bool:=lenOk s&&(decide (2≤cs.length)&&(ascii cs&&lenOk cs))
def z44 (c:UInt8):UInt8:=bif decide ((65:UInt8)≤c)&&decide (c≤(90:UInt8)) then c ||| 32 else c
def z28 (s:LU):LU:=s.map z44
def qgX (s:LU):Bool:=lenOk s
def z19 (a b:LU):Bool:=a.map z44==b.map z44
def qoK (a b:LU):Bool:=lenOk a&&lenOk b
def z101 (s:LU) (k:Int):Int:=((s.countP fun c=>z77 c k:Nat):Int)
def qqT (s:LU) (_:Int):Bool:=lenOk s
def z79 (s:LU) (k:Int):Bool:=s.all fun c=>z77 c k
def qud (s:LU) (_:Int):Bool:=lenOk s
def z92 (s:LU):LU:=qCe blank s
def que (s:LU):Bool:=lenOk s
def qGj (s:LU) (_:UInt8):Bool:=lenOk s
def z121 (s:LU) (c:UInt8):Bool:=s.contains c
def z103 (c:UInt8):Int:=z99 c
def z82 (c:UInt8) (k:Int):Bool:=z77 c k
def z59 (s:LU) (k:Int):Int:=z101 s k
def quf (s:LU) (_:Int):Bool:=lenOk s
end Go.Av
