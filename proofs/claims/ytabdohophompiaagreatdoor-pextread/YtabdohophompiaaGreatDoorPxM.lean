import Derived.Test.YtabdohophompiaaGreatDoorCuM
namespace Go.Av
set_option linter.unusedVariables false
set_option linter.unusedSimpArgs false
def len1k {α:Type} (l:List α):Bool:=decide (l.length≤1000)
def z79 (c:UInt8):Int:=bif z100 c 256 then 1 else 3
def oneC (c:UInt8):List UInt8:=bif z100 c 256 then [c] else 37 :: z116 c
def z45 (s:List UInt8):List UInt8:=s.flatMap oneC
def qwm (s:List UInt8):Bool:=len1k s
def quoC (c:UInt8):List UInt8:=bif (c==34)||(c==92) then [92,c] else [c]
def quoL (s:List UInt8):List UInt8:=34 :: (s.flatMap quoC++[34])
def z94 (s:List UInt8):List UInt8:=quoL s
def qwn (s:List UInt8):Bool:=len1k s
def tokB (s:List UInt8):Bool := !s.isEmpty&&s.all fun c=>z100 c 64
def z93 (s:List UInt8):Bool:=tokB s
def qwo (s:List UInt8):Bool:=len1k s
def atomL (s:List UInt8):List UInt8:=bif tokB s then s else quoL s
def z54 (s:List UInt8):List UInt8:=atomL s
def qwp (s:List UInt8):Bool:=len1k s
def digI (n:Int):List UInt8:=bif decide (n < 10) then [UInt8.ofNat (48+n.toNat)] else [UInt8.ofNat (48+n.toNat / 10),UInt8.ofNat (48+n.toNat % 10)]
def qkq (n:Int):Bool:=decide (0≤n∧n < 100)
def z136 (n:Int):List UInt8:=digI n
def qnE (n:Int):Bool:=qkq n
def z137 (_:Int):Int:=0
def z139 (_:List UInt8) (_ _:Int) (_ _:Bool):List UInt8×List UInt8:=([],[])
def z133 (dst:List UInt8) (n _:Int):List UInt8:=dst++digI n
def qhx (dst:List UInt8) (n b:Int):Bool:=lenOk dst&&(qkq n&&(b==10))
def z123 (dst:List UInt8) (n _:Int):List UInt8:=dst++digI n
def qkr (dst:List UInt8) (n b:Int):Bool:=lenOk dst&&(qkq n&&(b==10))
def z95 (dst:List UInt8) (n _:Int):List UInt8:=dst++digI n
def qse (dst:List UInt8) (n b:Int):Bool:=lenOk dst&&(qkq n&&(b==10))
abbrev qiJ:=List UInt8×(Int×(Bool×(List UInt8×Unit)))
def nameL (name:List UInt8) (n:Int) (e:Bool):List UInt8:=(name++bif decide (0≤n) then 42 :: digI n else [])++bif e then [42] else []
def z55 (p:qiJ):List UInt8:=nameL p.1 p.2.1 p.2.2.1
def qsf (p:qiJ):Bool:=len1k p.1&&decide (p.2.1 < 100)
def headL (name:List UInt8) (n:Int) (cs:List UInt8):List UInt8:=nameL name n true++61 :: bif decide (0 < n) then [] else cs++[39,39]
def z29 (name:List UInt8) (n cs:Int):List UInt8:=headL name n (z56 cs)
def qfr (name:List UInt8) (n _:Int):Bool:=len1k name&&decide (n < 100)
def mayN (name:List UInt8):Bool:=(decide (0 < name.length)&&decide (name.length≤30))&&name.all fun c=>z100 c 256
def z18 (name:List UInt8):Bool:=mayN name
def qwq (name:List UInt8):Bool:=lenOk name
def z50 (s:List Int) (v:Int):Bool:=decide (0≤z89 s v)
def qwr (s:List Int) (_:Int):Bool:=lenOk s
def z91 (c:Int):Bool:=decide (c < 32)||decide (126 < c)
def qo (s:List Int):Int:=qaC (fun c => !(z91 c)) s 0
def z90 (s:List Int):Bool:=s.any z91
def qws (s:List Int):Bool:=lenOk s
def z51 (t:List Int):Bool := !(t.any z91)
def qwt (t:List Int):Bool:=lenOk t
def qcC (name:List UInt8) (t:List Int):Int:=bif !(mayN name) then 13 else bif !(z49 t) then 7 else bif t.contains 0 then 8 else 0
def z27 (name:List UInt8) (t:List Int):Int:=qcC name t
def qiK (name:List UInt8) (t:List Int):Bool:=lenOk name&&lenOk t
def qek (name:List UInt8) (t:List Int):List UInt8:=name++61 :: atomL (z52 t).1
def z28 (name:List UInt8) (t:List Int):List UInt8×Bool:=bif !(z51 t) then ([],false) else (qek name t,decide ((qek name t).length≤74))
def qks (name:List UInt8) (t:List Int):Bool:=len1k name&&len1k t
def z16 (name:List UInt8) (t:List Int):Bool:=(qcC name t==0)&&(z28 name t).2
def qiL (name:List UInt8) (t:List Int):Bool:=len1k name&&len1k t
def unitL (cs:Int) (c:Int):List UInt8:=z45 (z44 cs [c]).1
def z23 (cs:Int) (t:List Int):List (List UInt8):=t.map (unitL cs)
def qwu (_:Int) (t:List Int):Bool:=len1k t
abbrev PutT:=Bool×(List UInt8×List (List UInt8))
def putU (name cs:List UInt8) (st:PutT) (u:List UInt8):PutT :=
 bif !st.1&&decide (74 < st.2.1.length+u.length) then (false,(headL name ((st.2.2.length+1:Nat):Int) cs++u,st.2.2++[st.2.1])) else (false,(st.2.1++u,st.2.2))
def z58 (u:List UInt8) (e:Bool) (now:List UInt8) (out:List (List UInt8)) (name:List UInt8) (cs:Int):Bool×(List UInt8×(List (List UInt8)×(List UInt8×Int))) :=
 ((putU name (z56 cs) (e,(now,out)) u).1,((putU name (z56 cs) (e,(now,out)) u).2.1,((putU name (z56 cs) (e,(now,out)) u).2.2,(name,cs))))
def qpq (u:List UInt8) (_:Bool) (now:List UInt8) (out:List (List UInt8)) (name:List UInt8) (_:Int):Bool:=(len1k u&&lenOk now)&&(decide (out.length < 99)&&len1k name)
def numL (name cs:List UInt8) (l:List (List UInt8)):List (List UInt8) :=
 (l.foldl (putU name cs) (true,(headL name 0 cs,[]))).2.2++[(l.foldl (putU name cs) (true,(headL name 0 cs,[]))).2.1]
def z31 (name:List UInt8) (cs:Int) (l:List (List UInt8)):List (List UInt8):=numL name (z56 cs) l
def qpr (name:List UInt8) (_:Int) (l:List (List UInt8)):Bool:=len1k name&&(decide (l.length≤100)&&l.all fun u=>decide (u.length≤75))
def qB (name:List UInt8) (t:List Int):List (List UInt8)×Int :=
 bif qcC name t != 0 then ([],qcC name t) else bif (z28 name t).2 then ([qek name t],0) else bif (z22 t).2 != 0 then ([],(z22 t).2) else
 bif decide ((headL name (-1) (z56 (z22 t).1)++(z23 (z22 t).1 t).flatten).length≤74) then ([headL name (-1) (z56 (z22 t).1)++(z23 (z22 t).1 t).flatten],0)
 else (numL name (z56 (z22 t).1) (z23 (z22 t).1 t),0)
def ok36 (name:List UInt8) (t:List Int):Bool:=decide (name.length≤100)&&decide (t.length≤100)
def z13 (name:List UInt8) (t:List Int):List (List UInt8)×Int:=qB name t
def qkt (name:List UInt8) (t:List Int):Bool:=ok36 name t
def textL (l:List (List UInt8)):List UInt8:=l.flatMap fun s=>[59,13,10,32]++s
def z7 (name:List UInt8) (t:List Int):List UInt8×Int:=(textL (qB name t).1,(qB name t).2)
def z7_ok (name:List UInt8) (t:List Int):Bool:=ok36 name t
def z15 (name:List UInt8) (t:List Int):Int:=((qB name t).1.length:Nat)
def qwv (name:List UInt8) (t:List Int):Bool:=ok36 name t
def z6:Bool:=true
def z5 (_:List UInt8) (_:List Int):Bool:=true
def z5_ok (_:List UInt8) (t:List Int):Bool:=i32s t
end Go.Av
