import Derived.Test.YtnfehbljinflbaaGreatDoorRRRRAvE
import Derived.Lib.Bytealg
import Derived.Lib.Index
import Derived.Lib.MapLaws
namespace Go.Av
set_option linter.unusedVariables false
set_option linter.unusedSimpArgs false
def z150 (s:List UInt8) (c:UInt8):Int:=Lib.indexByte s c
def z155 (a b:List UInt8):Int:=Lib.index a b
def qmN (m0:Int) (a b:List UInt8):Bool:=decide (2≤b.length)&&decide ((b.length:Int)≤m0)&&decide (a.length≤1048576)
def z145 (s:List UInt8) (c:UInt8):Int:=Lib.indexByte s c
def z126 (s:List UInt8) (c:UInt8):Int:=Lib.indexByte s c
def z98 (s:List UInt8) (c:UInt8):Bool:=decide ((0:Int)≤Lib.indexByte s c)
def z151 (_s:List UInt8) (_r:Int):Int:=0
def qxv (_s:List UInt8) (_r:Int):Bool:=false
def z154 (p:List UInt8):Int×Int:=(((Lib.decodeL p).1:Int),((Lib.decodeL p).2:Int))
def qmO (p:List UInt8):Bool:=decide (0 < p.length)
def z152 (n:Int):Bool:=decide ((8:Int) < n)
def setOf (cs:List UInt8) (a:List Bool):List Bool:=cs.foldl (fun a c=>List.set a c.toNat true) a
def z147 (cs:List UInt8):List Bool×Bool:=(setOf cs (List.replicate 256 false),true)
def ascii (cs:List UInt8):Bool:=cs.all fun c=>decide (c < (128:UInt8))
def qbM (cs:List UInt8):Bool:=ascii cs&&lenOk cs
def z153 (as:List Bool) (c:UInt8):Bool:=List.getD as c.toNat false
def anyAt (cs:List UInt8):List UInt8→Int→Int
 | [],_ => -1
 | x :: r,i=>bif cs.contains x then i else anyAt cs r (i+1)
def z128 (s cs:List UInt8):Int:=anyAt cs s 0
def qje (s cs:List UInt8):Bool:=(decide (2≤cs.length)&&(ascii cs&&lenOk cs))&&lenOk s
def orI (a b:Int):Int:=bits .or .i64 a b
def qqN (n:Int) (c:UInt8):Int :=
 bif c==(32:UInt8) then orI n 2 else bif c==(9:UInt8) then orI n 2
 else bif decide ((48:UInt8)≤c)&&decide (c≤(57:UInt8)) then orI n 648
 else bif (decide ((65:UInt8)≤c)&&decide (c≤(90:UInt8)))||(decide ((97:UInt8)≤c)&&decide (c≤(122:UInt8))) then orI n 656 else n
def z97 (c:UInt8):Int:=qqN (bif decide (c < (32:UInt8))||(c==(127:UInt8)) then orI 0 1 else 0) c
def qAU (t:Bool) (k n:Int):Int:=bif t then orI n k else n
def z58 (c:UInt8):Int :=
 bif decide (c < (33:UInt8))||decide ((126:UInt8) < c) then z97 c
 else
  let n:=qAU (z98 [43,47] c) 512 (qAU (z98 [33,42,43,45,47] c) 128 (orI (z97 c) 4))
  bif z98 [40,41,60,62,64,44,59,58,92,34,47,91,93,63,61] c then orI n 32
  else qAU (!(z98 [42,39,37] c)) 256 (orI n 64)
def z36 (c:UInt8) (k:Int):Bool:=(bits .and .i64 (z58 c) k) != 0
def z57 (s sep:List UInt8):Int:=Lib.index s sep
def qmP (s sep:List UInt8):Bool:=lenOk s&&(lenOk sep&&decide (1≤sep.length))
def z35 (s sep:List UInt8):List UInt8×List UInt8×Bool :=
 bif decide ((0:Int)≤Lib.index s sep) then (s.take (Lib.index s sep).toNat,s.drop ((Lib.index s sep).toNat+sep.length),true) else (s,[],false)
def qsB (s sep:List UInt8):Bool:=lenOk s&&(lenOk sep&&decide (1≤sep.length))
def blank (c:UInt8):Bool:=(c==32)||(c==9)
def qfw:List UInt8→Bool
 | a :: b :: c :: _=>(a==13)&&((b==10)&&blank c)
 | _=>false
def unfS:Nat→List UInt8→List UInt8
 | _,[]=>[]
 | 0,x :: r=>bif qfw (x :: r) then unfS 1 r else x :: unfS 0 r
 | k+1,_ :: r=>unfS k r
def unf (s:List UInt8):List UInt8:=unfS 0 s
def z19 (s:List UInt8):List UInt8:=unf s
def qiy (s:List UInt8):Bool:=lenOk s
def z83 (b:List UInt8):List UInt8:=b
def qga (b:List UInt8):Bool:=lenOk b
def z93 (a b:List UInt8):Bool:=a==b
def z146 (s:List UInt8) (_:UInt8):List UInt8:=s
def qqO (_:List UInt8) (_:UInt8):Bool:=false
def z156 (s:List UInt8) (_:UInt8):List UInt8:=s
def qxw (_:List UInt8) (_:UInt8):Bool:=false
def z149 (s _:List UInt8):List UInt8:=s
def qmQ (_ _:List UInt8):Bool:=false
def z158 (s _:List UInt8):List UInt8:=s
def qxx (_ _:List UInt8):Bool:=false
def dropR (p:UInt8→Bool) (s:List UInt8):List UInt8:=(s.reverse.dropWhile p).reverse
def qmR (p:UInt8→Bool) (s:List UInt8):List UInt8:=(dropR p s).dropWhile p
def z148 (s:List UInt8) (a:List Bool):List UInt8:=s.dropWhile fun c=>z153 a c
def qfO (s:List UInt8) (_:List Bool):Bool:=lenOk s
def z157 (s:List UInt8) (a:List Bool):List UInt8:=dropR (fun c=>z153 a c) s
def qmS (s:List UInt8) (_:List Bool):Bool:=lenOk s
def z129 (s cs:List UInt8):List UInt8:=qmR (fun c=>cs.contains c) s
def qeR (s cs:List UInt8):Bool:=lenOk s&&(decide (2≤cs.length)&&(ascii cs&&lenOk cs))
def z118 (c:UInt8):UInt8:=bif decide ((65:UInt8)≤c)&&decide (c≤(90:UInt8)) then c ||| 32 else c
def z87 (s:List UInt8):List UInt8:=s.map z118
def qsC (s:List UInt8):Bool:=lenOk s
def z122 (s:List UInt8) (k:Int):Int:=((s.countP fun c=>z36 c k:Nat):Int)
def qqP (s:List UInt8) (_:Int):Bool:=lenOk s
def z90 (s:List UInt8) (k:Int):Bool:=s.all fun c=>z36 c k
def qsD (s:List UInt8) (_:Int):Bool:=lenOk s
def z119 (s:List UInt8):List UInt8:=qmR blank s
def qjf (s:List UInt8):Bool:=lenOk s
end Go.Av
