import Derived.Test.YtcfhfjjohmdaoaaDoorAvE
import Derived.Lib.Bytealg
import Derived.Lib.Index
import Derived.Lib.MapLaws
namespace Go.Av
set_option linter.unusedVariables false
set_option linter.unusedSimpArgs false
def z105 (s:List UInt8) (c:UInt8):Int:=Lib.indexByte s c
def z110 (a b:List UInt8):Int:=Lib.index a b
def qjz (m0:Int) (a b:List UInt8):Bool:=decide (2≤b.length)&&decide ((b.length:Int)≤m0)&&decide (a.length≤1048576)
def z106 (_s:List UInt8) (_r:Int):Int:=0
def qpN (_s:List UInt8) (_r:Int):Bool:=false
def z109 (p:List UInt8):Int×Int:=(((Lib.decodeL p).1:Int),((Lib.decodeL p).2:Int))
def qjA (p:List UInt8):Bool:=decide (0 < p.length)
def z107 (n:Int):Bool:=decide ((8:Int) < n)
def setOf (cs:List UInt8) (a:List Bool):List Bool:=cs.foldl (fun a c=>List.set a c.toNat true) a
def z92 (cs:List UInt8):List Bool×Bool:=(setOf cs (List.replicate 256 false),true)
def ascii (cs:List UInt8):Bool:=cs.all fun c=>decide (c < (128:UInt8))
def qjB (cs:List UInt8):Bool:=ascii cs&&lenOk cs
def z108 (as:List Bool) (c:UInt8):Bool:=List.getD as c.toNat false
def anyAt (cs:List UInt8):List UInt8→Int→Int
 | [],_ => -1
 | x :: r,i=>bif cs.contains x then i else anyAt cs r (i+1)
def z83 (s cs:List UInt8):Int:=anyAt cs s 0
def qle (s cs:List UInt8):Bool:=(decide (2≤cs.length)&&(ascii cs&&lenOk cs))&&lenOk s
def z53 (s cs:List UInt8):Bool:=decide ((0:Int)≤z83 s cs)
def qpO (s cs:List UInt8):Bool:=qle s cs
def z15 (a b:List UInt8):Bool:=decide (a=b)
def qha (a _b:List UInt8):Bool:=lenOk a
def z81 (s sep:List UInt8):Int:=Lib.index s sep
def qjC (s sep:List UInt8):Bool:=lenOk s&&(lenOk sep&&decide (1≤sep.length))
def z51 (s sep:List UInt8):List UInt8×List UInt8×Bool :=
 bif decide ((0:Int)≤Lib.index s sep) then (s.take (Lib.index s sep).toNat,s.drop ((Lib.index s sep).toNat+sep.length),true) else (s,[],false)
def qnH (s sep:List UInt8):Bool:=lenOk s&&(lenOk sep&&decide (1≤sep.length))
def qaD (c:UInt8):Bool:=(c==13)||(c==10)
def z60 (b:List UInt8):List UInt8:=b
def qie (b:List UInt8):Bool:=lenOk b
def z96 (a b:List UInt8):Bool:=a==b
def z88 (s sep:List UInt8):Bool:=Lib.index s sep != -1
def qpP (s sep:List UInt8):Bool:=qjC s sep
def z94 (s _:List UInt8):List UInt8:=s
def quK (_ _:List UInt8):Bool:=false
def z93 (s:List UInt8) (a:List Bool):List UInt8:=s.dropWhile fun c=>z108 a c
def qsa (s:List UInt8) (_:List Bool):Bool:=lenOk s
def lineB:Bool→List UInt8→List UInt8→List (List UInt8)
 | _,cur,[]=>[cur]
 | true,cur,_ :: r=>lineB false cur r
 | false,cur,c :: r=>if c=13∧r.head? = some 10 then cur :: lineB true [] r else lineB false (cur++[c]) r
def qaA (cur s:List UInt8):List (List UInt8):=lineB false cur s
def qaB:List (List UInt8)→List (List UInt8)×Bool
 | []=>([],true)
 | [x]=>if x=[] then ([],true) else ([x],false)
 | x :: r=>(x :: (qaB r).1,(qaB r).2)
def z71 (s:List UInt8):List (List UInt8)×Bool:=qaB (qaA [] s)
def qsb (s:List UInt8):Bool:=lenOk s
end Go.Av
