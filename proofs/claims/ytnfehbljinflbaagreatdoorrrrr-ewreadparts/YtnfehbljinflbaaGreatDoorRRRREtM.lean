import Derived.Test.YtnfehbljinflbaaGreatDoorRRRRFiM
namespace Go.Av
abbrev qz:=Int×(LU×Unit)
abbrev WordT:=LU×(Int×(LU×Unit))
def z165 (s:LU) (c:UInt8):Int:=((s.count c:Nat):Int)
def z164 (_:LU):Int:=0
def qKP (_:LU):Bool:=false
def z141 (_:LU) (_:Int):List LU:=[]
def qKQ (_:LU) (_:Int):Bool:=false
def z142 (s sep:LU):Int:=((s.count (sep.headD 0):Nat):Int)
def qmc (s sep:LU):Bool:=lenOk s&&decide (sep.length=1)
def cutC (c:UInt8):LU→LU→List LU
 | cur,[]=>[cur]
 | cur,x :: r=>bif x==c then cur :: cutC c [] r else cutC c (cur++[x]) r
def z116 (s sep:LU) (_ _:Int):List LU:=cutC (sep.headD 0) [] s
def qmd (s sep:LU) (save n:Int):Bool:=(lenOk s&&decide (sep.length=1))&&(save==0&&n == -1)
def z82 (s sep:LU):List LU:=cutC (sep.headD 0) [] s
def qEA (s sep:LU):Bool:=lenOk s&&decide (sep.length=1)
def z127 (s cs:LU):LU:=s.dropWhile fun c=>cs.contains c
def qqY (s cs:LU):Bool:=lenOk s&&(decide (2≤cs.length)&&(ascii cs&&lenOk cs))
def gapB (c:UInt8):Bool:=(c==32)||((c==9)||((c==13)||(c==10)))
def z65 (c:UInt8):Bool:=gapB c
def codeC (c:UInt8):Int:=bif z118 c==98 then 1 else bif z118 c==113 then 2 else 0
def codeL:LU→Int
 | [c]=>codeC c
 | _=>0
def z84 (s:LU):Int:=codeL s
def qJC (s:LU):Bool:=lenOk s
def fullB (s:LU) (k:Int):Bool := !s.isEmpty&&s.all fun c=>z36 c k
def z85 (s:LU) (k:Int):Bool:=fullB s k
def qhU (s:LU) (_:Int):Bool:=lenOk s
def qqZ:WordT:=([],(0,([],())))
def qkR (n:Nat):List LU→WordT×Int
 | [a,name,c,text,b] =>
  bif decide (a=[61])&&decide (b=[61]) then
   bif (codeL c==0)||(!(fullB name 64) || !(fullB text 4)) then (qqZ,3)
   else bif decide (75 < n) then (qqZ,12) else ((name,(codeL c,(text,()))),0)
  else (qqZ,3)
 | _=>(qqZ,3)
def z51 (s:LU):WordT×Int:=qkR s.length (cutC 63 [] s)
def qlj (s:LU):Bool:=lenOk s
def z130 (s:LU):Bool:=(z51 s).2==0
def qra (s:LU):Bool:=lenOk s
def z109 (c:UInt8):UInt8:=z118 c
def z68 (c:UInt8):Int:=codeC c
def z67 (s:LU):List LU:=cutC 63 [] s
def qJD (s:LU):Bool:=lenOk s
def z42 (s:LU):WordT×Int:=z51 s
def qlk (s:LU):Bool:=lenOk s
def kindB (s:LU):Int:=bif !s.isEmpty&&s.all gapB then 1 else bif z130 s then 3 else 2
def z101 (s:LU):Int:=kindB s
def qwq (s:LU):Bool:=lenOk s
def z66 (s:LU):Int:=kindB s
def qJE (s:LU):Bool:=lenOk s
def z99 (s:LU):Int:=((s.takeWhile gapB).length:Nat)
def qJF (s:LU):Bool:=lenOk s
def z100 (s:LU):Int:=((s.takeWhile fun c => !(gapB c)).length:Nat)
def qwr (s:LU):Bool:=lenOk s
def alike:LU→Nat
 | []=>0
 | c :: r=>(r.takeWhile fun x=>gapB x==gapB c).length+1
def qcl:Nat→LU→List qz
 | 0,_=>[]
 | f+1,s=>if s=[] then [] else (kindB (s.take (alike s)),(s.take (alike s),())) :: qcl f (s.drop (alike s))
def qdi (s:LU):List qz:=qcl s.length s
def z59 (s:LU):List qz:=qdi s
def qJG (s:LU):Bool:=lenOk s
def z40 (s:LU):List qz:=qdi s
def qJH (s:LU):Bool:=lenOk s
def qOR (l:List qz) (i:Nat):Int:=(l.getD i (0,([],()))).1
def qaN (l:List qz) (i:Nat):Bool:=(qOR l i==1)&&(decide (0 < i)&&(decide (i+1 < l.length)&&((qOR l (i - 1)==3)&&(qOR l (i+1)==3))))
def hidF (l:List qz):Nat→Nat→List Bool
 | 0,_=>[]
 | d+1,i=>qaN l i :: hidF l d (i+1)
def z60 (l:List qz):List Bool:=hidF l l.length 0
def qJI (l:List qz):Bool:=lenOk l
def z41 (l:List qz) (i:Int):Bool:=qaN l i.toNat
def qyL (l:List qz) (i:Int):Bool:=lenOk l&&(decide (0≤i)&&decide (i < (l.length:Int)))
def showF (l:List qz):Nat→Nat→List qz
 | 0,_=>[]
 | d+1,i=>bif qaN l i then showF l d (i+1) else l.getD i (0,([],())) :: showF l d (i+1)
def qTa (l:List qz):List qz:=showF l l.length 0
def z37 (s:LU):List qz:=qTa (qdi s)
def qll (s:LU):Bool:=lenOk s
def z23 (s:LU):List qz:=qTa (qdi s)
def qJJ (s:LU):Bool:=lenOk s
def joinP (l:List qz):LU:=l.flatMap fun p=>p.2.1
end Go.Av
