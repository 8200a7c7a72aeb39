import Derived.Test.YtnfehbljinflbaaGreatDoorRRRRAvE
import Derived.Lib.Bytealg
import Derived.Lib.Index
import Derived.Lib.MapLaws
namespace Go.Av
abbrev LU:=List UInt8
abbrev LI:=List Int
def z150 (s:LU) (c:UInt8):Int:=Lib.indexByte s c
def z155 (a b:LU):Int:=Lib.index a b
def qrd (m0:Int) (a b:LU):Bool:=decide (2≤b.length)&&decide ((b.length:Int)≤m0)&&decide (a.length≤1048576)
def z145 (s:LU) (c:UInt8):Int:=Lib.indexByte s c
def z126 (s:LU) (c:UInt8):Int:=Lib.indexByte s c
def z98 (s:LU) (c:UInt8):Bool:=decide ((0:Int)≤Lib.indexByte s c)
def z151 (_s:LU) (_r:Int):Int:=0
def qEE (_s:LU) (_r:Int):Bool:=false
def z154 (p:LU):Int×Int:=(((Lib.decodeL p).1:Int),((Lib.decodeL p).2:Int))
def qre (p:LU):Bool:=decide (0 < p.length)
def z152 (n:Int):Bool:=decide ((8:Int) < n)
def setOf (cs:LU) (a:List Bool):List Bool:=cs.foldl (fun a c=>List.set a c.toNat true) a
def z147 (cs:LU):List Bool×Bool:=(setOf cs (List.replicate 256 false),true)
def ascii (cs:LU):Bool:=cs.all fun c=>decide (c < (128:UInt8))
def qcn (cs:LU):Bool:=ascii cs&&lenOk cs
def z153 (as:List Bool) (c:UInt8):Bool:=List.getD as c.toNat false
def anyAt (cs:LU):LU→Int→Int
 | [],_ => -1
 | x :: r,i=>bif cs.contains x then i else anyAt cs r (i+1)
def z128 (s cs:LU):Int:=anyAt cs s 0
def qme (s cs:LU):Bool:=(decide (2≤cs.length)&&(ascii cs&&lenOk cs))&&lenOk s
def orI (a b:Int):Int:=bits .or .i64 a b
def qws (n:Int) (c:UInt8):Int :=
 bif c==(32:UInt8) then orI n 2 else bif c==(9:UInt8) then orI n 2
 else bif decide ((48:UInt8)≤c)&&decide (c≤(57:UInt8)) then orI n 648
 else bif (decide ((65:UInt8)≤c)&&decide (c≤(90:UInt8)))||(decide ((97:UInt8)≤c)&&decide (c≤(122:UInt8))) then orI n 656 else n
def z97 (c:UInt8):Int:=qws (bif decide (c < (32:UInt8))||(c==(127:UInt8)) then orI 0 1 else 0) c
def qJK (t:Bool) (k n:Int):Int:=bif t then orI n k else n
def z58 (c:UInt8):Int :=
 bif decide (c < (33:UInt8))||decide ((126:UInt8) < c) then z97 c
 else
  let n:=qJK (z98 [43,47] c) 512 (qJK (z98 [33,42,43,45,47] c) 128 (orI (z97 c) 4))
  bif z98 [40,41,60,62,64,44,59,58,92,34,47,91,93,63,61] c then orI n 32
  else qJK (!(z98 [42,39,37] c)) 256 (orI n 64)
def z36 (c:UInt8) (k:Int):Bool:=(bits .and .i64 (z58 c) k) != 0
def z57 (s sep:LU):Int:=Lib.index s sep
def qrf (s sep:LU):Bool:=lenOk s&&(lenOk sep&&decide (1≤sep.length))
def z35 (s sep:LU):LU×LU×Bool :=
 bif decide ((0:Int)≤Lib.index s sep) then (s.take (Lib.index s sep).toNat,s.drop ((Lib.index s sep).toNat+sep.length),true) else (s,[],false)
def qyR (s sep:LU):Bool:=lenOk s&&(lenOk sep&&decide (1≤sep.length))
def blank (c:UInt8):Bool:=(c==32)||(c==9)
def qdo:LU→Bool
 | a :: b :: c :: _=>(a==13)&&((b==10)&&blank c)
 | _=>false
def unfS:Nat→LU→LU
 | _,[]=>[]
 | 0,x :: r=>bif qdo (x :: r) then unfS 1 r else x :: unfS 0 r
 | k+1,_ :: r=>unfS k r
def unf (s:LU):LU:=unfS 0 s
def nfS:Nat→LU→Nat
 | _,[]=>0
 | 0,x :: r=>bif qdo (x :: r) then nfS 1 r+1 else nfS 0 r
 | k+1,_ :: r=>nfS k r
def qty (s:LU):Nat:=nfS 0 s
def z19 (s:LU):LU:=unf s
def qlm (s:LU):Bool:=lenOk s
def z22 (s:LU) (i:Int):Bool:=qdo (s.drop i.toNat)
def qyS (s:LU) (i:Int):Bool:=lenOk s&&decide (0≤i∧i≤1048576)
def z13 (s:LU):LU×Int:=(unf s,(qty s:Int))
def qJL (s:LU):Bool:=lenOk s
def z83 (b:LU):LU:=b
def qhW (b:LU):Bool:=lenOk b
def z93 (a b:LU):Bool:=a==b
def z146 (s:LU) (_:UInt8):LU:=s
def qwt (_:LU) (_:UInt8):Bool:=false
def z156 (s:LU) (_:UInt8):LU:=s
def qEF (_:LU) (_:UInt8):Bool:=false
def z149 (s _:LU):LU:=s
def qrg (_ _:LU):Bool:=false
def z158 (s _:LU):LU:=s
def qEG (_ _:LU):Bool:=false
def dropR (p:UInt8→Bool) (s:LU):LU:=(s.reverse.dropWhile p).reverse
def qfe (p:UInt8→Bool) (s:LU):LU:=(dropR p s).dropWhile p
def z148 (s:LU) (a:List Bool):LU:=s.dropWhile fun c=>z153 a c
def qhK (s:LU) (_:List Bool):Bool:=lenOk s
def z157 (s:LU) (a:List Bool):LU:=dropR (fun c=>z153 a c) s
def qrh (s:LU) (_:List Bool):Bool:=lenOk s
def z129 (s cs:LU):LU:=qfe (fun c=>cs.contains c) s
def qgk (s cs:LU):Bool:=lenOk s&&(decide (2≤cs.length)&&(ascii cs&&lenOk cs))
def z118 (c:UInt8):UInt8:=bif decide ((65:UInt8)≤c)&&decide (c≤(90:UInt8)) then c ||| 32 else c
def z87 (s:LU):LU:=s.map z118
def qyT (s:LU):Bool:=lenOk s
def z122 (s:LU) (k:Int):Int:=((s.countP fun c=>z36 c k:Nat):Int)
def qwu (s:LU) (_:Int):Bool:=lenOk s
def z90 (s:LU) (k:Int):Bool:=s.all fun c=>z36 c k
def qyU (s:LU) (_:Int):Bool:=lenOk s
def z119 (s:LU):LU:=qfe blank s
def qmf (s:LU):Bool:=lenOk s
def qKS (s:LU) (_:UInt8):Bool:=lenOk s
def z140 (s:LU) (c:UInt8):Bool:=s.contains c
def z114 (c:UInt8):Int:=z58 c
def z79 (c:UInt8) (k:Int):Bool:=z36 c k
def z69 (s:LU) (k:Int):Int:=z122 s k
def qyV (s:LU) (_:Int):Bool:=lenOk s
def z113 (s:LU):LU:=qfe blank s
def qwv (s:LU):Bool:=lenOk s
end Go.Av
