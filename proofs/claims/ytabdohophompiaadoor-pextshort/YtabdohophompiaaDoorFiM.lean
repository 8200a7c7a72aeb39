import Derived.Test.YtabdohophompiaaDoorAvE
import Derived.Lib.Bytealg
import Derived.Lib.Index
import Derived.Lib.MapLaws
namespace Go.Av
set_option linter.unusedVariables false
set_option linter.unusedSimpArgs false
def z85 (s:List UInt8) (c:UInt8):Int:=Lib.indexByte s c
def z84 (s:List UInt8) (c:UInt8):Int:=Lib.indexByte s c
def z79 (s:List UInt8) (c:UInt8):Int:=Lib.indexByte s c
def z74 (s:List UInt8) (c:UInt8):Bool:=decide ((0:Int)≤Lib.indexByte s c)
def orI (a b:Int):Int:=bits .or .i64 a b
def qjH (n:Int) (c:UInt8):Int :=
 bif c==(32:UInt8) then orI n 2 else bif c==(9:UInt8) then orI n 2
 else bif decide ((48:UInt8)≤c)&&decide (c≤(57:UInt8)) then orI n 648
 else bif (decide ((65:UInt8)≤c)&&decide (c≤(90:UInt8)))||(decide ((97:UInt8)≤c)&&decide (c≤(122:UInt8))) then orI n 656 else n
def z73 (c:UInt8):Int:=qjH (bif decide (c < (32:UInt8))||(c==(127:UInt8)) then orI 0 1 else 0) c
def qpF (t:Bool) (k n:Int):Int:=bif t then orI n k else n
def z70 (c:UInt8):Int :=
 bif decide (c < (33:UInt8))||decide ((126:UInt8) < c) then z73 c
 else
  let n:=qpF (z74 [43,47] c) 512 (qpF (z74 [33,42,43,45,47] c) 128 (orI (z73 c) 4))
  bif z74 [40,41,60,62,64,44,59,58,92,34,47,91,93,63,61] c then orI n 32
  else qpF (!(z74 [42,39,37] c)) 256 (orI n 64)
def z62 (c:UInt8) (k:Int):Bool:=(bits .and .i64 (z70 c) k) != 0
def z19 (b:List UInt8):List UInt8:=b
def qeY (b:List UInt8):Bool:=lenOk b
def z48 (s:List UInt8) (k:Int):Int:=((s.countP fun c=>z62 c k:Nat):Int)
def qpG (s:List UInt8) (_:Int):Bool:=lenOk s
def z29 (s:List UInt8) (k:Int):Bool:=s.all fun c=>z62 c k
def qlf (s:List UInt8) (_:Int):Bool:=lenOk s
end Go.Av
