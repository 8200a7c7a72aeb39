import Derived.Test.YtopepdfipgfakaaGreatDoorFiM
namespace Go.Av
set_option linter.unusedVariables false
set_option linter.unusedSimpArgs false
abbrev WordT:=List UInt8×(Int×(List UInt8×Unit))
def cutC (c:UInt8):List UInt8→List UInt8→List (List UInt8)
 | cur,[]=>[cur]
 | cur,x :: r=>bif x==c then cur :: cutC c [] r else cutC c (cur++[x]) r
def codeC (c:UInt8):Int:=bif z126 c==98 then 1 else bif z126 c==113 then 2 else 0
def codeL:List UInt8→Int
 | [c]=>codeC c
 | _=>0
def fullB (s:List UInt8) (k:Int):Bool := !s.isEmpty&&s.all fun c=>z129 c k
def qhO:WordT:=([],(0,([],())))
def qmw (n:Nat):List (List UInt8)→WordT×Int
 | [a,name,c,text,b] =>
  bif decide (a=[61])&&decide (b=[61]) then
   bif (codeL c==0)||(!(fullB name 64) || !(fullB text 4)) then (qhO,3)
   else bif decide (75 < n) then (qhO,12) else ((name,(codeL c,(text,()))),0)
  else (qhO,3)
 | _=>(qhO,3)
def z11 (s:List UInt8):WordT×Int:=qmw s.length (cutC 63 [] s)
def z81 (c:UInt8):UInt8:=z126 c
def z42 (c:UInt8):Int:=codeC c
def z41 (s:List UInt8):List (List UInt8):=cutC 63 [] s
def qDV (s:List UInt8):Bool:=lenOk s
def z12 (s:List UInt8):WordT×Int:=z11 s
def qmx (s:List UInt8):Bool:=lenOk s
end Go.Av
