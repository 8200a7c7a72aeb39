import Derived.Test.YtabdohophompiaaGreatDoorAvE
import Derived.Lib.Bytealg
import Derived.Lib.Index
import Derived.Lib.MapLaws
namespace Go.Av
set_option linter.unusedVariables false
set_option linter.unusedSimpArgs false
def z146 (s:List UInt8) (c:UInt8):Int:=Lib.indexByte s c
def z145 (s:List UInt8) (c:UInt8):Int:=Lib.indexByte s c
def z140 (s:List UInt8) (c:UInt8):Int:=Lib.indexByte s c
def z135 (s:List UInt8) (c:UInt8):Bool:=decide ((0:Int)≤Lib.indexByte s c)
def z11 (a b:List UInt8):Bool:=decide (a=b)
def qqZ (a _b:List UInt8):Bool:=lenOk a
def orI (a b:Int):Int:=bits .or .i64 a b
def qmO (n:Int) (c:UInt8):Int :=
 bif c==(32:UInt8) then orI n 2 else bif c==(9:UInt8) then orI n 2
 else bif decide ((48:UInt8)≤c)&&decide (c≤(57:UInt8)) then orI n 648
 else bif (decide ((65:UInt8)≤c)&&decide (c≤(90:UInt8)))||(decide ((97:UInt8)≤c)&&decide (c≤(122:UInt8))) then orI n 656 else n
def z134 (c:UInt8):Int:=qmO (bif decide (c < (32:UInt8))||(c==(127:UInt8)) then orI 0 1 else 0) c
def quS (t:Bool) (k n:Int):Int:=bif t then orI n k else n
def z125 (c:UInt8):Int :=
 bif decide (c < (33:UInt8))||decide ((126:UInt8) < c) then z134 c
 else
  let n:=quS (z135 [43,47] c) 512 (quS (z135 [33,42,43,45,47] c) 128 (orI (z134 c) 4))
  bif z135 [40,41,60,62,64,44,59,58,92,34,47,91,93,63,61] c then orI n 32
  else quS (!(z135 [42,39,37] c)) 256 (orI n 64)
def z100 (c:UInt8) (k:Int):Bool:=(bits .and .i64 (z125 c) k) != 0
def z53 (b:List UInt8):List UInt8:=b
def qgt (b:List UInt8):Bool:=lenOk b
def qcl (c:UInt8):UInt8:=bif decide ((65:UInt8)≤c)&&decide (c≤(90:UInt8)) then c ||| 32 else c
def qJ (s:List UInt8):List UInt8:=s.map qcl
def z64 (s:List UInt8) (k:Int):Int:=((s.countP fun c=>z100 c k:Nat):Int)
def quT (s:List UInt8) (_:Int):Bool:=lenOk s
def z36 (s:List UInt8) (k:Int):Bool:=s.all fun c=>z100 c k
def qoK (s:List UInt8) (_:Int):Bool:=lenOk s
def qxP (s:List UInt8) (_:UInt8):Bool:=lenOk s
def z126 (s:List UInt8) (c:UInt8):Bool:=s.contains c
def z101 (c:UInt8):Int:=z125 c
def z65 (c:UInt8) (k:Int):Bool:=z100 c k
def z37 (s:List UInt8) (k:Int):Int:=z64 s k
def quU (s:List UInt8) (_:Int):Bool:=lenOk s
end Go.Av
