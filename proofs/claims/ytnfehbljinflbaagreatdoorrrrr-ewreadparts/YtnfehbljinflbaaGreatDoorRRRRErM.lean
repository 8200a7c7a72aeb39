import Derived.Test.YtnfehbljinflbaaGreatDoorRRRREfM
namespace Go.Av
def qbl (p:qz):LI:=bif p.1==3 then (z39 p.2.1).1 else z38 p.2.1
def qaG (l:List qz):List LU:=(l.filter fun p=>p.1==3).map fun p=>p.2.1
def z11 (s:LU):LI:=(z37 s).flatMap qbl
def qHP (s:LU):Bool:=lenOk s
def z9 (s:LU):LI:=z11 (unf s)
def z9_ok (s:LU):Bool:=lenOk s
def oddOf (l:List LU):Int:=((l.countP fun w => !(z33 w):Nat):Int)
def z17 (s:LU):Int:=oddOf (qaG (z37 (unf s)))
def qCt (s:LU):Bool:=lenOk s
def z16 (s:LU):LI:=(qaG (z37 (unf s))).map z31
def qCu (s:LU):Bool:=lenOk s
def z15 (s:LU):List LI:=(z37 (unf s)).map qbl
def qCv (s:LU):Bool:=lenOk s
def z14 (s:LU):List LI×(Int×LI):=((z37 s).map qbl,oddOf (qaG (z37 s)),(qaG (z37 s)).map z31)
def qHQ (s:LU):Bool:=lenOk s
def z21 (_:qz) (t x:LI):LI:=x++t
def qCw (_:qz) (t x:LI):Bool:=decide (x.length+t.length≤4194304)
def z28 (_:qz) (t:LI) (l:List LI):List LI:=l++[t]
def qCx (_:qz) (_:LI) (l:List LI):Bool:=decide (l.length≤4194304)
def z32 (w:LU) (n:Int):Int:=bif z33 w then n else n+1
def qsL (w:LU) (n:Int):Bool:=lenOk w&&(decide (0≤n)&&decide (n≤4194304))
def z30 (w:LU) (l:LI):LI:=l++[z31 w]
def qsM (w:LU) (l:LI):Bool:=lenOk w&&decide (l.length≤4194304)
def qlb (p:qz) (_:LI) (x:Int):Int:=bif p.1==3 then z32 p.2.1 x else x
def qcS (p:qz) (_:LI) (x:Int):Bool:=bif p.1==3 then qsL p.2.1 x else true
def qlc (p:qz) (_:LI) (x:LI):LI:=bif p.1==3 then z30 p.2.1 x else x
def qcT (p:qz) (_:LI) (x:LI):Bool:=bif p.1==3 then qsM p.2.1 x else true
def eachF {σ:Type} (f:qz→LI→σ→σ) (s:LU) (x:σ):σ:=(z37 s).foldl (fun a p=>f p (qbl p) a) x
def qyo (s:LU) (x:LI):LI:=eachF z21 s x
def qdW (s:LU) (x:LI):Bool:=lenOk s&&decide (x.length=0)
def qyp (s:LU) (x:List LI):List LI:=eachF z28 s x
def qdX (s:LU) (x:List LI):Bool:=lenOk s&&decide (x.length=0)
def qyq (s:LU) (x:Int):Int:=eachF qlb s x
def qdY (s:LU) (x:Int):Bool:=lenOk s&&decide (x=0)
def qyr (s:LU) (x:LI):LI:=eachF qlc s x
def qdZ (s:LU) (x:LI):Bool:=lenOk s&&decide (x.length=0)
def qCy (s:LU) (x:Int):Int:=qyq (unf s) x
def qea (s:LU) (x:Int):Bool:=lenOk s&&decide (x=0)
def qCz (s:LU) (x:LI):LI:=qyr (unf s) x
def qeb (s:LU) (x:LI):Bool:=lenOk s&&decide (x.length=0)
def z7:Bool:=true
def z4 (_:LU):Bool:=true
end Go.Av
