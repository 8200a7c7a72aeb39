import Derived.Test.YtnfehbljinflbaaGreatDoorRRRRFiM
namespace Go.Av
set_option linter.unusedVariables false
set_option linter.unusedSimpArgs false
abbrev qF:=Int×(List UInt8×Unit)
abbrev WordT:=List UInt8×(Int×(List UInt8×Unit))
def z165 (s:List UInt8) (c:UInt8):Int:=((s.count c:Nat):Int)
def z164 (_:List UInt8):Int:=0
def qBM (_:List UInt8):Bool:=false
def z141 (_:List UInt8) (_:Int):List (List UInt8):=[]
def qBN (_:List UInt8) (_:Int):Bool:=false
def z142 (s sep:List UInt8):Int:=((s.count (sep.headD 0):Nat):Int)
def qjc (s sep:List UInt8):Bool:=lenOk s&&decide (sep.length=1)
def cutC (c:UInt8):List UInt8→List UInt8→List (List UInt8)
 | cur,[]=>[cur]
 | cur,x :: r=>bif x==c then cur :: cutC c [] r else cutC c (cur++[x]) r
def z116 (s sep:List UInt8) (_ _:Int):List (List UInt8):=cutC (sep.headD 0) [] s
def qjd (s sep:List UInt8) (save n:Int):Bool:=(lenOk s&&decide (sep.length=1))&&(save==0&&n == -1)
def z82 (s sep:List UInt8):List (List UInt8):=cutC (sep.headD 0) [] s
def qxq (s sep:List UInt8):Bool:=lenOk s&&decide (sep.length=1)
def z127 (s cs:List UInt8):List UInt8:=s.dropWhile fun c=>cs.contains c
def qmI (s cs:List UInt8):Bool:=lenOk s&&(decide (2≤cs.length)&&(ascii cs&&lenOk cs))
def gapB (c:UInt8):Bool:=(c==32)||((c==9)||((c==13)||(c==10)))
def codeC (c:UInt8):Int:=bif z118 c==98 then 1 else bif z118 c==113 then 2 else 0
def codeL:List UInt8→Int
 | [c]=>codeC c
 | _=>0
def z84 (s:List UInt8):Int:=codeL s
def qAQ (s:List UInt8):Bool:=lenOk s
def fullB (s:List UInt8) (k:Int):Bool := !s.isEmpty&&s.all fun c=>z36 c k
def z85 (s:List UInt8) (k:Int):Bool:=fullB s k
def qfY (s:List UInt8) (_:Int):Bool:=lenOk s
def qsv:WordT:=([],(0,([],())))
def qmJ (n:Nat):List (List UInt8)→WordT×Int
 | [a,name,c,text,b] =>
  bif decide (a=[61])&&decide (b=[61]) then
   bif (codeL c==0)||(!(fullB name 64) || !(fullB text 4)) then (qsv,3)
   else bif decide (75 < n) then (qsv,12) else ((name,(codeL c,(text,()))),0)
  else (qsv,3)
 | _=>(qsv,3)
def z51 (s:List UInt8):WordT×Int:=qmJ s.length (cutC 63 [] s)
def qiw (s:List UInt8):Bool:=lenOk s
def z130 (s:List UInt8):Bool:=(z51 s).2==0
def qmK (s:List UInt8):Bool:=lenOk s
def kindB (s:List UInt8):Int:=bif !s.isEmpty&&s.all gapB then 1 else bif z130 s then 3 else 2
def z101 (s:List UInt8):Int:=kindB s
def qqL (s:List UInt8):Bool:=lenOk s
def z99 (s:List UInt8):Int:=((s.takeWhile gapB).length:Nat)
def qAR (s:List UInt8):Bool:=lenOk s
def z100 (s:List UInt8):Int:=((s.takeWhile fun c => !(gapB c)).length:Nat)
def qqM (s:List UInt8):Bool:=lenOk s
def alike:List UInt8→Nat
 | []=>0
 | c :: r=>(r.takeWhile fun x=>gapB x==gapB c).length+1
def qbz:Nat→List UInt8→List qF
 | 0,_=>[]
 | f+1,s=>if s=[] then [] else (kindB (s.take (alike s)),(s.take (alike s),())) :: qbz f (s.drop (alike s))
def qcB (s:List UInt8):List qF:=qbz s.length s
def z59 (s:List UInt8):List qF:=qcB s
def qAS (s:List UInt8):Bool:=lenOk s
def qxr (l:List qF) (i:Nat):Int:=(l.getD i (0,([],()))).1
def qaR (l:List qF) (i:Nat):Bool:=(qxr l i==1)&&(decide (0 < i)&&(decide (i+1 < l.length)&&((qxr l (i - 1)==3)&&(qxr l (i+1)==3))))
def hidF (l:List qF):Nat→Nat→List Bool
 | 0,_=>[]
 | d+1,i=>qaR l i :: hidF l d (i+1)
def z60 (l:List qF):List Bool:=hidF l l.length 0
def qAT (l:List qF):Bool:=lenOk l
def showF (l:List qF):Nat→Nat→List qF
 | 0,_=>[]
 | d+1,i=>bif qaR l i then showF l d (i+1) else l.getD i (0,([],())) :: showF l d (i+1)
def qIj (l:List qF):List qF:=showF l l.length 0
def z37 (s:List UInt8):List qF:=qIj (qcB s)
def qix (s:List UInt8):Bool:=lenOk s
def joinP (l:List qF):List UInt8:=l.flatMap fun p=>p.2.1
end Go.Av
