import Derived.Test.YtcbimkaeoojceaaGreatDoorAvE
import Derived.Lib.Bytealg
import Derived.Lib.Index
import Derived.Lib.MapLaws
namespace Go.Av
set_option linter.unusedVariables false
set_option linter.unusedSimpArgs false
def z142 (s:List UInt8) (c:UInt8):Int:=Lib.indexByte s c
def z139 (s:List UInt8) (c:UInt8):Int:=Lib.indexByte s c
def z133 (s:List UInt8) (c:UInt8):Int:=Lib.indexByte s c
def z120 (s:List UInt8) (c:UInt8):Bool:=decide ((0:Int)≤Lib.indexByte s c)
def setOf (cs:List UInt8) (a:List Bool):List Bool:=cs.foldl (fun a c=>List.set a c.toNat true) a
def z125 (cs:List UInt8):List Bool×Bool:=(setOf cs (List.replicate 256 false),true)
def ascii (cs:List UInt8):Bool:=cs.all fun c=>decide (c < (128:UInt8))
def qgx (cs:List UInt8):Bool:=ascii cs&&lenOk cs
def z134 (as:List Bool) (c:UInt8):Bool:=List.getD as c.toNat false
def z8 (a b:List UInt8):Bool:=decide (a=b)
def z8_ok (a _b:List UInt8):Bool:=lenOk a
def orI (a b:Int):Int:=bits .or .i64 a b
def qns (n:Int) (c:UInt8):Int :=
 bif c==(32:UInt8) then orI n 2 else bif c==(9:UInt8) then orI n 2
 else bif decide ((48:UInt8)≤c)&&decide (c≤(57:UInt8)) then orI n 648
 else bif (decide ((65:UInt8)≤c)&&decide (c≤(90:UInt8)))||(decide ((97:UInt8)≤c)&&decide (c≤(122:UInt8))) then orI n 656 else n
def z119 (c:UInt8):Int:=qns (bif decide (c < (32:UInt8))||(c==(127:UInt8)) then orI 0 1 else 0) c
def qvN (t:Bool) (k n:Int):Int:=bif t then orI n k else n
def z99 (c:UInt8):Int :=
 bif decide (c < (33:UInt8))||decide ((126:UInt8) < c) then z119 c
 else
  let n:=qvN (z120 [43,47] c) 512 (qvN (z120 [33,42,43,45,47] c) 128 (orI (z119 c) 4))
  bif z120 [40,41,60,62,64,44,59,58,92,34,47,91,93,63,61] c then orI n 32
  else qvN (!(z120 [42,39,37] c)) 256 (orI n 64)
def z77 (c:UInt8) (k:Int):Bool:=(bits .and .i64 (z99 c) k) != 0
def z89 (s sep:List UInt8):Int:=Lib.index s sep
def qrR (s sep:List UInt8):Bool:=lenOk s&&(lenOk sep&&decide (sep.length=1))
def z65 (s sep:List UInt8):List UInt8×List UInt8×Bool :=
 bif decide ((0:Int)≤Lib.index s sep) then (s.take (Lib.index s sep).toNat,s.drop ((Lib.index s sep).toNat+sep.length),true) else (s,[],false)
def qkj (s sep:List UInt8):Bool:=lenOk s&&(lenOk sep&&decide (sep.length=1))
def blank (c:UInt8):Bool:=(c==32)||(c==9)
def z43 (b:List UInt8):List UInt8:=b
def qbY (b:List UInt8):Bool:=lenOk b
def z33 (a b:List UInt8):Bool:=a==b
def z123 (s:List UInt8) (_:UInt8):List UInt8:=s
def qrS (_:List UInt8) (_:UInt8):Bool:=false
def z124 (s:List UInt8) (_:UInt8):List UInt8:=s
def qrT (_:List UInt8) (_:UInt8):Bool:=false
def z128 (s _:List UInt8):List UInt8:=s
def qrU (_ _:List UInt8):Bool:=false
def z129 (s _:List UInt8):List UInt8:=s
def qrV (_ _:List UInt8):Bool:=false
def dropR (p:UInt8→Bool) (s:List UInt8):List UInt8:=(s.reverse.dropWhile p).reverse
def qvO (p:UInt8→Bool) (s:List UInt8):List UInt8:=(dropR p s).dropWhile p
def z126 (s:List UInt8) (a:List Bool):List UInt8:=s.dropWhile fun c=>z134 a c
def qkk (s:List UInt8) (_:List Bool):Bool:=lenOk s
def z127 (s:List UInt8) (a:List Bool):List UInt8:=dropR (fun c=>z134 a c) s
def qkl (s:List UInt8) (_:List Bool):Bool:=lenOk s
def z112 (s cs:List UInt8):List UInt8:=qvO (fun c=>cs.contains c) s
def qhy (s cs:List UInt8):Bool:=lenOk s&&(decide (2≤cs.length)&&(ascii cs&&lenOk cs))
def z44 (c:UInt8):UInt8:=bif decide ((65:UInt8)≤c)&&decide (c≤(90:UInt8)) then c ||| 32 else c
def z28 (s:List UInt8):List UInt8:=s.map z44
def qfm (s:List UInt8):Bool:=lenOk s
def z19 (a b:List UInt8):Bool:=a.map z44==b.map z44
def qlC (a b:List UInt8):Bool:=lenOk a&&lenOk b
def z101 (s:List UInt8) (k:Int):Int:=((s.countP fun c=>z77 c k:Nat):Int)
def qnt (s:List UInt8) (_:Int):Bool:=lenOk s
def z79 (s:List UInt8) (k:Int):Bool:=s.all fun c=>z77 c k
def qpE (s:List UInt8) (_:Int):Bool:=lenOk s
def z92 (s:List UInt8):List UInt8:=qvO blank s
def qpF (s:List UInt8):Bool:=lenOk s
end Go.Av
