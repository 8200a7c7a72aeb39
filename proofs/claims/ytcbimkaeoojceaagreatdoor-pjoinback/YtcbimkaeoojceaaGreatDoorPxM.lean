import Derived.Test.YtcbimkaeoojceaaGreatDoorCuM
namespace Go.Av
set_option linter.unusedSimpArgs false
set_option linter.unusedVariables false
def len1k {α:Type} (l:List α):Bool:=decide (l.length≤1000)
def oneC (c:UInt8):LU:=bif z77 c 256 then [c] else 37 :: qZ c
def qtv (s:LU):LU:=s.flatMap oneC
def z63 (c:UInt8):LU:=oneC c
def z40 (s:LU):LU:=s.flatMap oneC
def qFX (s:LU):Bool:=len1k s
def quoC (c:UInt8):LU:=bif (c==34)||(c==92) then [92,c] else [c]
def quoL (s:LU):LU:=34 :: (s.flatMap quoC++[34])
def z60 (s:LU):LU:=quoL s
def qAY (s:LU):Bool:=len1k s
def tokB (s:LU):Bool := !s.isEmpty&&s.all fun c=>z77 c 64
def atomL (s:LU):LU:=bif tokB s then s else quoL s
def z37 (s:LU):LU:=atomL s
def qFY (s:LU):Bool:=len1k s
def digI (n:Int):LU:=bif decide (n < 10) then [UInt8.ofNat (48+n.toNat)] else [UInt8.ofNat (48+n.toNat / 10),UInt8.ofNat (48+n.toNat % 10)]
def qAZ (n:Int):Bool:=decide (0≤n∧n < 100)
def z64 (n:Int):LU:=digI n
def qBa (n:Int):Bool:=qAZ n
abbrev qi:=LU×(Int×(Bool×(LU×Unit)))
def nameL (name:LU) (n:Int) (e:Bool):LU:=(name++bif decide (0≤n) then 42 :: digI n else [])++bif e then [42] else []
def z41 (p:qi):LU:=nameL p.1 p.2.1 p.2.2.1
def qvx (p:qi):Bool:=len1k p.1&&decide (p.2.1 < 100)
def headL (name:LU) (n:Int) (cs:LU):LU:=nameL name n true++61 :: bif decide (0 < n) then [] else cs++[39,39]
def z26 (name:LU) (n:Int) (cs:LU):LU:=headL name n cs
def qgZ (name:LU) (n:Int) (cs:LU):Bool:=len1k name&&(decide (n < 100)&&len1k cs)
def mayN (name:LU):Bool:=(decide (0 < name.length)&&decide (name.length≤30))&&name.all fun c=>z77 c 256
def z35 (name:LU):Bool:=mayN name
def qFZ (name:LU):Bool:=lenOk name
def qaC (c:Int):Bool:=decide (c < 32)||decide (126 < c)
def qai (t:LI):Bool := !(t.any qaC)
def z12 (t:LI):Int:=qD z21 t 0
def qGa (t:LI):Bool:=lenOk t
def z36 (t:LI):Bool := !(t.any qaC)
def qGb (t:LI):Bool:=lenOk t
def qet (name:LU) (t:LI):Int:=bif !(mayN name) then 13 else bif !(qR t) then 7 else bif t.contains 0 then 8 else 0
def z22 (name:LU) (t:LI):Int:=qet name t
def qmc (name:LU) (t:LI):Bool:=lenOk name&&(lenOk t&&i32s t)
def qdT (name:LU) (t:LI):LU:=name++61 :: atomL (qA t).1
def qbP (name:LU) (t:LI):LU×Bool:=bif !(qai t) then ([],false) else (qdT name t,decide ((qdT name t).length≤74))
def qdo (name:LU) (t:LI):Bool:=(qet name t==0)&&(qbP name t).2
def z23 (name:LU) (t:LI):LU:=bif qdo name t then qdT name t else []
def qvy (name:LU) (t:LI):Bool:=len1k name&&(len1k t&&i32s t)
def unitL (cs:Int) (c:Int):LU:=qtv (qbW cs [c]).1
def qH (cs:Int) (t:LI):List LU:=t.map (unitL cs)
def qjk (t:LI):List LU×Int:=bif (qc t).2 != 0 then ([],(qc t).2) else (qH (qc t).1 t,0)
def z25 (t:LI):List LU×Int:=qjk t
def qvz (t:LI):Bool:=len1k t&&i32s t
abbrev PutT:=Bool×(LU×List LU)
def putU (name cs:LU) (st:PutT) (u:LU):PutT :=
 bif !st.1&&decide (74 < st.2.1.length+u.length) then (false,(headL name ((st.2.2.length+1:Nat):Int) cs++u,st.2.2++[st.2.1])) else (false,(st.2.1++u,st.2.2))
def numL (name cs:LU) (l:List LU):List LU :=
 (l.foldl (putU name cs) (true,(headL name 0 cs,[]))).2.2++[(l.foldl (putU name cs) (true,(headL name 0 cs,[]))).2.1]
def qcx (name:LU) (t:LI):List LU×Int :=
 bif qet name t != 0 then ([],qet name t) else bif (qbP name t).2 then ([qdT name t],0) else bif (qc t).2 != 0 then ([],(qc t).2) else
 bif decide ((headL name (-1) (qe (qc t).1)++(qH (qc t).1 t).flatten).length≤74) then ([headL name (-1) (qe (qc t).1)++(qH (qc t).1 t).flatten],0)
 else (numL name (qe (qc t).1) (qH (qc t).1 t),0)
def ok36 (name:LU) (t:LI):Bool:=decide (name.length≤100)&&decide (t.length≤100)
def z13 (name:LU) (t:LI):List LU×Int:=qcx name t
def qBb (name:LU) (t:LI):Bool:=ok36 name t&&i32s t
def textL (l:List LU):LU:=l.flatMap fun s=>[59,13,10,32]++s
def z6 (name:LU) (t:LI):LU×Int:=(textL (qcx name t).1,(qcx name t).2)
def z6_ok (name:LU) (t:LI):Bool:=ok36 name t&&i32s t
end Go.Av
