import Derived.Test.YtopepdfipgfakaaGreatDoorFiM
namespace Go.Av
set_option linter.unusedVariables false
set_option linter.unusedSimpArgs false
abbrev WordT:=List UInt8×(Int×(List UInt8×Unit))
def z174 (s:List UInt8) (c:UInt8):Int:=((s.count c:Nat):Int)
def z173 (_:List UInt8):Int:=0
def qxK (_:List UInt8):Bool:=false
def z123 (_:List UInt8) (_:Int):List (List UInt8):=[]
def qxL (_:List UInt8) (_:Int):Bool:=false
def z124 (s sep:List UInt8):Int:=((s.count (sep.headD 0):Nat):Int)
def qha (s sep:List UInt8):Bool:=lenOk s&&decide (sep.length=1)
def cutC (c:UInt8):List UInt8→List UInt8→List (List UInt8)
 | cur,[]=>[cur]
 | cur,x :: r=>bif x==c then cur :: cutC c [] r else cutC c (cur++[x]) r
def z78 (s sep:List UInt8) (_ _:Int):List (List UInt8):=cutC (sep.headD 0) [] s
def qog (s sep:List UInt8) (save n:Int):Bool:=(lenOk s&&decide (sep.length=1))&&(save==0&&n == -1)
def z37 (s sep:List UInt8):List (List UInt8):=cutC (sep.headD 0) [] s
def qto (s sep:List UInt8):Bool:=lenOk s&&decide (sep.length=1)
def codeC (c:UInt8):Int:=bif z126 c==98 then 1 else bif z126 c==113 then 2 else 0
def codeL:List UInt8→Int
 | [c]=>codeC c
 | _=>0
def z39 (s:List UInt8):Int:=codeL s
def qoh (s:List UInt8):Bool:=lenOk s
def fullB (s:List UInt8) (k:Int):Bool := !s.isEmpty&&s.all fun c=>z129 c k
def z40 (s:List UInt8) (k:Int):Bool:=fullB s k
def qdI (s:List UInt8) (_:Int):Bool:=lenOk s
def qjG:WordT:=([],(0,([],())))
def qjH (n:Nat):List (List UInt8)→WordT×Int
 | [a,name,c,text,b] =>
  bif decide (a=[61])&&decide (b=[61]) then
   bif (codeL c==0)||(!(fullB name 64) || !(fullB text 4)) then (qjG,3)
   else bif decide (75 < n) then (qjG,12) else ((name,(codeL c,(text,()))),0)
  else (qjG,3)
 | _=>(qjG,3)
def z11 (s:List UInt8):WordT×Int:=qjH s.length (cutC 63 [] s)
def qgz (s:List UInt8):Bool:=lenOk s
def z14 (s:List UInt8):Bool:=(z11 s).2==0
def qtp (s:List UInt8):Bool:=lenOk s
end Go.Av
