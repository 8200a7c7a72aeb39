import Derived.Test.YtnfehbljinflbaaGreatDoorRRRREfM
namespace Go.Av
set_option linter.unusedVariables false
set_option linter.unusedSimpArgs false
def qbd (p:qF):List Int:=bif p.1==3 then (z39 p.2.1).1 else z38 p.2.1
def qfD (l:List qF):List (List UInt8):=(l.filter fun p=>p.1==3).map fun p=>p.2.1
def z11 (s:List UInt8):List Int:=(z37 s).flatMap qbd
def qzD (s:List UInt8):Bool:=lenOk s
def z9 (s:List UInt8):List Int:=z11 (unf s)
def z9_ok (s:List UInt8):Bool:=lenOk s
def oddOf (l:List (List UInt8)):Int:=((l.countP fun w => !(z33 w):Nat):Int)
def z17 (s:List UInt8):Int:=oddOf (qfD (z37 (unf s)))
def qCS (s:List UInt8):Bool:=lenOk s
def z16 (s:List UInt8):List Int:=(qfD (z37 (unf s))).map z31
def qvC (s:List UInt8):Bool:=lenOk s
def z15 (s:List UInt8):List (List Int):=(z37 (unf s)).map qbd
def qCT (s:List UInt8):Bool:=lenOk s
def z21 (_:qF) (t x:List Int):List Int:=x++t
def qvD (_:qF) (t x:List Int):Bool:=decide (x.length+t.length≤4194304)
def z28 (_:qF) (t:List Int) (l:List (List Int)):List (List Int):=l++[t]
def qvE (_:qF) (_:List Int) (l:List (List Int)):Bool:=decide (l.length≤4194304)
def z32 (w:List UInt8) (n:Int):Int:=bif z33 w then n else n+1
def qok (w:List UInt8) (n:Int):Bool:=lenOk w&&(decide (0≤n)&&decide (n≤4194304))
def z30 (w:List UInt8) (l:List Int):List Int:=l++[z31 w]
def qol (w:List UInt8) (l:List Int):Bool:=lenOk w&&decide (l.length≤4194304)
def qis (p:qF) (_:List Int) (x:Int):Int:=bif p.1==3 then z32 p.2.1 x else x
def qco (p:qF) (_:List Int) (x:Int):Bool:=bif p.1==3 then qok p.2.1 x else true
def qit (p:qF) (_:List Int) (x:List Int):List Int:=bif p.1==3 then z30 p.2.1 x else x
def qcp (p:qF) (_:List Int) (x:List Int):Bool:=bif p.1==3 then qol p.2.1 x else true
def eachF {σ:Type} (f:qF→List Int→σ→σ) (s:List UInt8) (x:σ):σ:=(z37 s).foldl (fun a p=>f p (qbd p) a) x
def qsb (s:List UInt8) (x:List Int):List Int:=eachF z21 s x
def qdl (s:List UInt8) (x:List Int):Bool:=lenOk s&&decide (x.length=0)
def qsc (s:List UInt8) (x:List (List Int)):List (List Int):=eachF z28 s x
def qdm (s:List UInt8) (x:List (List Int)):Bool:=lenOk s&&decide (x.length=0)
def qsd (s:List UInt8) (x:Int):Int:=eachF qis s x
def qdn (s:List UInt8) (x:Int):Bool:=lenOk s&&decide (x=0)
def qse (s:List UInt8) (x:List Int):List Int:=eachF qit s x
def qdo (s:List UInt8) (x:List Int):Bool:=lenOk s&&decide (x.length=0)
def qvF (s:List UInt8) (x:Int):Int:=qsd (unf s) x
def qdp (s:List UInt8) (x:Int):Bool:=lenOk s&&decide (x=0)
def qvG (s:List UInt8) (x:List Int):List Int:=qse (unf s) x
def qdq (s:List UInt8) (x:List Int):Bool:=lenOk s&&decide (x.length=0)
def z7:Bool:=true
def z6 (_:List UInt8):Bool:=true
end Go.Av
