import Derived.Test.YtopepdfipgfakaaGreatDoorFiM
namespace Go.Av
abbrev WordT:=LU×(Int×(LU×Unit))
def z174 (s:LU) (c:UInt8):Int:=((s.count c:Nat):Int)
def z173 (_:LU):Int:=0
def qCi (_:LU):Bool:=false
def z123 (_:LU) (_:Int):List LU:=[]
def qCj (_:LU) (_:Int):Bool:=false
def z124 (s sep:LU):Int:=((s.count (sep.headD 0):Nat):Int)
def qiL (s sep:LU):Bool:=lenOk s&&decide (sep.length=1)
def cutC (c:UInt8):LU→LU→List LU
 | cur,[]=>[cur]
 | cur,x :: r=>bif x==c then cur :: cutC c [] r else cutC c (cur++[x]) r
def z78 (s sep:LU) (_ _:Int):List LU:=cutC (sep.headD 0) [] s
def qrf (s sep:LU) (save n:Int):Bool:=(lenOk s&&decide (sep.length=1))&&(save==0&&n == -1)
def z37 (s sep:LU):List LU:=cutC (sep.headD 0) [] s
def qxa (s sep:LU):Bool:=lenOk s&&decide (sep.length=1)
def codeC (c:UInt8):Int:=bif z126 c==98 then 1 else bif z126 c==113 then 2 else 0
def codeL:LU→Int
 | [c]=>codeC c
 | _=>0
def z39 (s:LU):Int:=codeL s
def qrg (s:LU):Bool:=lenOk s
def fullB (s:LU) (k:Int):Bool := !s.isEmpty&&s.all fun c=>z129 c k
def z40 (s:LU) (k:Int):Bool:=fullB s k
def qeI (s:LU) (_:Int):Bool:=lenOk s
def qlR:WordT:=([],(0,([],())))
def qhU (n:Nat):List LU→WordT×Int
 | [a,name,c,text,b] =>
  bif decide (a=[61])&&decide (b=[61]) then
   bif (codeL c==0)||(!(fullB name 64) || !(fullB text 4)) then (qlR,3)
   else bif decide (75 < n) then (qlR,12) else ((name,(codeL c,(text,()))),0)
  else (qlR,3)
 | _=>(qlR,3)
def z11 (s:LU):WordT×Int:=qhU s.length (cutC 63 [] s)
def qie (s:LU):Bool:=lenOk s
def z14 (s:LU):Bool:=(z11 s).2==0
def qFv (s:LU):Bool:=lenOk s
def z81 (c:UInt8):UInt8:=z126 c
def z42 (c:UInt8):Int:=codeC c
def z41 (s:LU):List LU:=cutC 63 [] s
def qBo (s:LU):Bool:=lenOk s
def z12 (s:LU):WordT×Int:=z11 s
def qlS (s:LU):Bool:=lenOk s
end Go.Av
