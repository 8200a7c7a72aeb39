import Derived.Test.YtabdohophompiaaDoorCuM
namespace Go.Av
set_option linter.unusedVariables false
set_option linter.unusedSimpArgs false
def len1k {α:Type} (l:List α):Bool:=decide (l.length≤1000)
def z44 (c:UInt8):Int:=bif z62 c 256 then 1 else 3
def oneC (c:UInt8):List UInt8:=bif z62 c 256 then [c] else 37 :: z63 c
def z24 (s:List UInt8):List UInt8:=s.flatMap oneC
def qrc (s:List UInt8):Bool:=len1k s
def quoC (c:UInt8):List UInt8:=bif (c==34)||(c==92) then [92,c] else [c]
def quoL (s:List UInt8):List UInt8:=34 :: (s.flatMap quoC++[34])
def z36 (s:List UInt8):List UInt8:=quoL s
def qrd (s:List UInt8):Bool:=len1k s
def tokB (s:List UInt8):Bool := !s.isEmpty&&s.all fun c=>z62 c 64
def z35 (s:List UInt8):Bool:=tokB s
def qre (s:List UInt8):Bool:=len1k s
def atomL (s:List UInt8):List UInt8:=bif tokB s then s else quoL s
def z20 (s:List UInt8):List UInt8:=atomL s
def qrf (s:List UInt8):Bool:=len1k s
def digI (n:Int):List UInt8:=bif decide (n < 10) then [UInt8.ofNat (48+n.toNat)] else [UInt8.ofNat (48+n.toNat / 10),UInt8.ofNat (48+n.toNat % 10)]
def qhT (n:Int):Bool:=decide (0≤n∧n < 100)
def z75 (n:Int):List UInt8:=digI n
def qrg (n:Int):Bool:=qhT n
def z76 (_:Int):Int:=0
def z78 (_:List UInt8) (_ _:Int) (_ _:Bool):List UInt8×List UInt8:=([],[])
def z72 (dst:List UInt8) (n _:Int):List UInt8:=dst++digI n
def qlw (dst:List UInt8) (n b:Int):Bool:=lenOk dst&&(qhT n&&(b==10))
def z64 (dst:List UInt8) (n _:Int):List UInt8:=dst++digI n
def qnD (dst:List UInt8) (n b:Int):Bool:=lenOk dst&&(qhT n&&(b==10))
def z46 (dst:List UInt8) (n _:Int):List UInt8:=dst++digI n
def qnE (dst:List UInt8) (n b:Int):Bool:=lenOk dst&&(qhT n&&(b==10))
abbrev qwx:=List UInt8×(Int×(Bool×(List UInt8×Unit)))
def nameL (name:List UInt8) (n:Int) (e:Bool):List UInt8:=(name++bif decide (0≤n) then 42 :: digI n else [])++bif e then [42] else []
def z25 (p:qwx):List UInt8:=nameL p.1 p.2.1 p.2.2.1
def qnF (p:qwx):Bool:=len1k p.1&&decide (p.2.1 < 100)
def headL (name:List UInt8) (n:Int) (cs:List UInt8):List UInt8:=nameL name n true++61 :: bif decide (0 < n) then [] else cs++[39,39]
def z11 (name:List UInt8) (n cs:Int):List UInt8:=headL name n (z26 cs)
def qec (name:List UInt8) (n _:Int):Bool:=len1k name&&decide (n < 100)
def mayN (name:List UInt8):Bool:=(decide (0 < name.length)&&decide (name.length≤30))&&name.all fun c=>z62 c 256
def z14 (name:List UInt8):Bool:=mayN name
def qrh (name:List UInt8):Bool:=lenOk name
def z16 (s:List Int) (v:Int):Bool:=decide (0≤z31 s v)
def qri (s:List Int) (_:Int):Bool:=lenOk s
def z33 (c:Int):Bool:=decide (c < 32)||decide (126 < c)
def qm (s:List Int):Int:=qan (fun c => !(z33 c)) s 0
def z32 (s:List Int):Bool:=s.any z33
def qrj (s:List Int):Bool:=lenOk s
def z17 (t:List Int):Bool := !(t.any z33)
def qrk (t:List Int):Bool:=lenOk t
def qfB (name:List UInt8) (t:List Int):Int:=bif !(mayN name) then 13 else bif !(z15 t) then 7 else bif t.contains 0 then 8 else 0
def z7 (name:List UInt8) (t:List Int):Int:=qfB name t
def z7_ok (name:List UInt8) (t:List Int):Bool:=lenOk name&&lenOk t
def qed (name:List UInt8) (t:List Int):List UInt8:=name++61 :: atomL (z18 t).1
def z8 (name:List UInt8) (t:List Int):List UInt8×Bool:=bif !(z17 t) then ([],false) else (qed name t,decide ((qed name t).length≤74))
def z8_ok (name:List UInt8) (t:List Int):Bool:=len1k name&&len1k t
def unitL (cs:Int) (c:Int):List UInt8:=z24 (z23 cs [c]).1
def z10 (cs:Int) (t:List Int):List (List UInt8):=t.map (unitL cs)
def qrl (_:Int) (t:List Int):Bool:=len1k t
abbrev PutT:=Bool×(List UInt8×List (List UInt8))
def putU (name cs:List UInt8) (st:PutT) (u:List UInt8):PutT :=
 bif !st.1&&decide (74 < st.2.1.length+u.length) then (false,(headL name ((st.2.2.length+1:Nat):Int) cs++u,st.2.2++[st.2.1])) else (false,(st.2.1++u,st.2.2))
def z28 (u:List UInt8) (e:Bool) (now:List UInt8) (out:List (List UInt8)) (name:List UInt8) (cs:Int):Bool×(List UInt8×(List (List UInt8)×(List UInt8×Int))) :=
 ((putU name (z26 cs) (e,(now,out)) u).1,((putU name (z26 cs) (e,(now,out)) u).2.1,((putU name (z26 cs) (e,(now,out)) u).2.2,(name,cs))))
def qlx (u:List UInt8) (_:Bool) (now:List UInt8) (out:List (List UInt8)) (name:List UInt8) (_:Int):Bool:=(len1k u&&lenOk now)&&(decide (out.length < 99)&&len1k name)
def numL (name cs:List UInt8) (l:List (List UInt8)):List (List UInt8) :=
 (l.foldl (putU name cs) (true,(headL name 0 cs,[]))).2.2++[(l.foldl (putU name cs) (true,(headL name 0 cs,[]))).2.1]
def z13 (name:List UInt8) (cs:Int) (l:List (List UInt8)):List (List UInt8):=numL name (z26 cs) l
def qly (name:List UInt8) (_:Int) (l:List (List UInt8)):Bool:=len1k name&&(decide (l.length≤100)&&l.all fun u=>decide (u.length≤75))
def qaH (name:List UInt8) (t:List Int):List (List UInt8)×Int :=
 bif qfB name t != 0 then ([],qfB name t) else bif (z8 name t).2 then ([qed name t],0) else bif (z9 t).2 != 0 then ([],(z9 t).2) else
 bif decide ((headL name (-1) (z26 (z9 t).1)++(z10 (z9 t).1 t).flatten).length≤74) then ([headL name (-1) (z26 (z9 t).1)++(z10 (z9 t).1 t).flatten],0)
 else (numL name (z26 (z9 t).1) (z10 (z9 t).1 t),0)
def ok36 (name:List UInt8) (t:List Int):Bool:=decide (name.length≤100)&&decide (t.length≤100)
def z5 (name:List UInt8) (t:List Int):List (List UInt8)×Int:=qaH name t
def z5_ok (name:List UInt8) (t:List Int):Bool:=ok36 name t
def textL (l:List (List UInt8)):List UInt8:=l.flatMap fun s=>[59,13,10,32]++s
def z6 (name:List UInt8) (t:List Int):List UInt8×Int:=(textL (qaH name t).1,(qaH name t).2)
def z6_ok (name:List UInt8) (t:List Int):Bool:=ok36 name t
def z4:Bool:=true
def z3 (_:List UInt8) (_:List Int):Bool:=true
end Go.Av
