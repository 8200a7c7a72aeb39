import Derived.Test.YtabdohophompiaaGreatDoorCuM
namespace Go.Av
set_option linter.unusedVariables false
set_option linter.unusedSimpArgs false
def len1k {α:Type} (l:List α):Bool:=decide (l.length≤1000)
def z79 (c:UInt8):Int:=bif z100 c 256 then 1 else 3
def oneC (c:UInt8):List UInt8:=bif z100 c 256 then [c] else 37 :: z116 c
def z45 (s:List UInt8):List UInt8:=s.flatMap oneC
def qyd (s:List UInt8):Bool:=len1k s
def z48 (c:UInt8):List UInt8:=oneC c
def z26 (s:List UInt8):List UInt8:=s.flatMap oneC
def qye (s:List UInt8):Bool:=len1k s
def quoC (c:UInt8):List UInt8:=bif (c==34)||(c==92) then [92,c] else [c]
def quoL (s:List UInt8):List UInt8:=34 :: (s.flatMap quoC++[34])
def z94 (s:List UInt8):List UInt8:=quoL s
def qyf (s:List UInt8):Bool:=len1k s
def z98 (s:List UInt8):List UInt8:=quoL s
def qtM (s:List UInt8):Bool:=len1k s
def tokB (s:List UInt8):Bool := !s.isEmpty&&s.all fun c=>z100 c 64
def z93 (s:List UInt8):Bool:=tokB s
def qyg (s:List UInt8):Bool:=len1k s
def atomL (s:List UInt8):List UInt8:=bif tokB s then s else quoL s
def z54 (s:List UInt8):List UInt8:=atomL s
def qyh (s:List UInt8):Bool:=len1k s
def z61 (s:List UInt8):List UInt8:=atomL s
def qyi (s:List UInt8):Bool:=len1k s
def digI (n:Int):List UInt8:=bif decide (n < 10) then [UInt8.ofNat (48+n.toNat)] else [UInt8.ofNat (48+n.toNat / 10),UInt8.ofNat (48+n.toNat % 10)]
def qiP (n:Int):Bool:=decide (0≤n∧n < 100)
def z136 (n:Int):List UInt8:=digI n
def qoO (n:Int):Bool:=qiP n
def z137 (_:Int):Int:=0
def z139 (_:List UInt8) (_ _:Int) (_ _:Bool):List UInt8×List UInt8:=([],[])
def z133 (dst:List UInt8) (n _:Int):List UInt8:=dst++digI n
def qhF (dst:List UInt8) (n b:Int):Bool:=lenOk dst&&(qiP n&&(b==10))
def z123 (dst:List UInt8) (n _:Int):List UInt8:=dst++digI n
def qkD (dst:List UInt8) (n b:Int):Bool:=lenOk dst&&(qiP n&&(b==10))
def z95 (dst:List UInt8) (n _:Int):List UInt8:=dst++digI n
def qtN (dst:List UInt8) (n b:Int):Bool:=lenOk dst&&(qiP n&&(b==10))
def z99 (n:Int):List UInt8:=digI n
def qtO (n:Int):Bool:=qiP n
abbrev qyj:=List UInt8×(Int×(Bool×(List UInt8×Unit)))
def nameL (name:List UInt8) (n:Int) (e:Bool):List UInt8:=(name++bif decide (0≤n) then 42 :: digI n else [])++bif e then [42] else []
def z55 (p:qyj):List UInt8:=nameL p.1 p.2.1 p.2.2.1
def qtP (p:qyj):Bool:=len1k p.1&&decide (p.2.1 < 100)
def z62 (p:qyj):List UInt8:=nameL p.1 p.2.1 p.2.2.1
def qqI (p:qyj):Bool:=len1k p.1&&decide (p.2.1 < 100)
def headL (name:List UInt8) (n:Int) (cs:List UInt8):List UInt8:=nameL name n true++61 :: bif decide (0 < n) then [] else cs++[39,39]
def z29 (name:List UInt8) (n cs:Int):List UInt8:=headL name n (z56 cs)
def qfx (name:List UInt8) (n _:Int):Bool:=len1k name&&decide (n < 100)
def z34 (name:List UInt8) (n:Int) (cs:List UInt8):List UInt8:=headL name n cs
def qfy (name:List UInt8) (n:Int) (cs:List UInt8):Bool:=len1k name&&(decide (n < 100)&&len1k cs)
def mayN (name:List UInt8):Bool:=(decide (0 < name.length)&&decide (name.length≤30))&&name.all fun c=>z100 c 256
def z18 (name:List UInt8):Bool:=mayN name
def qqJ (name:List UInt8):Bool:=lenOk name
def z19 (name:List UInt8):Bool:=mayN name
def qqK (name:List UInt8):Bool:=lenOk name
def z50 (s:List Int) (v:Int):Bool:=decide (0≤z89 s v)
def qyk (s:List Int) (_:Int):Bool:=lenOk s
def z91 (c:Int):Bool:=decide (c < 32)||decide (126 < c)
def qq (s:List Int):Int:=qn (fun c => !(z91 c)) s 0
def z90 (s:List Int):Bool:=s.any z91
def qyl (s:List Int):Bool:=lenOk s
def z51 (t:List Int):Bool := !(t.any z91)
def qym (t:List Int):Bool:=lenOk t
def z59 (t:List Int):Int:=qn z97 t 0
def qyn (t:List Int):Bool:=lenOk t
def z60 (t:List Int):Bool := !(t.any z91)
def qyo (t:List Int):Bool:=lenOk t
def qbM (name:List UInt8) (t:List Int):Int:=bif !(mayN name) then 13 else bif !(z49 t) then 7 else bif t.contains 0 then 8 else 0
def z27 (name:List UInt8) (t:List Int):Int:=qbM name t
def qiQ (name:List UInt8) (t:List Int):Bool:=lenOk name&&lenOk t
def z32 (name:List UInt8) (t:List Int):Int:=qbM name t
def qiR (name:List UInt8) (t:List Int):Bool:=lenOk name&&(lenOk t&&i32s t)
def qcW (name:List UInt8) (t:List Int):List UInt8:=name++61 :: atomL (z52 t).1
def z28 (name:List UInt8) (t:List Int):List UInt8×Bool:=bif !(z51 t) then ([],false) else (qcW name t,decide ((qcW name t).length≤74))
def qkE (name:List UInt8) (t:List Int):Bool:=len1k name&&len1k t
def z16 (name:List UInt8) (t:List Int):Bool:=(qbM name t==0)&&(z28 name t).2
def qqL (name:List UInt8) (t:List Int):Bool:=len1k name&&len1k t
def z33 (name:List UInt8) (t:List Int):List UInt8:=bif z16 name t then qcW name t else []
def qkF (name:List UInt8) (t:List Int):Bool:=len1k name&&(len1k t&&i32s t)
def z17 (name:List UInt8) (t:List Int):Bool:=z16 name t
def qtQ (name:List UInt8) (t:List Int):Bool:=len1k name&&(len1k t&&i32s t)
def unitL (cs:Int) (c:Int):List UInt8:=z45 (z44 cs [c]).1
def z23 (cs:Int) (t:List Int):List (List UInt8):=t.map (unitL cs)
def qqM (_:Int) (t:List Int):Bool:=len1k t
def z9 (t:List Int):List (List UInt8)×Int:=bif (z22 t).2 != 0 then ([],(z22 t).2) else (z23 (z22 t).1 t,0)
def z9_ok (t:List Int):Bool:=len1k t
def z10 (t:List Int):List (List UInt8)×Int:=z9 t
def qiS (t:List Int):Bool:=len1k t&&i32s t
abbrev PutT:=Bool×(List UInt8×List (List UInt8))
def putU (name cs:List UInt8) (st:PutT) (u:List UInt8):PutT :=
 bif !st.1&&decide (74 < st.2.1.length+u.length) then (false,(headL name ((st.2.2.length+1:Nat):Int) cs++u,st.2.2++[st.2.1])) else (false,(st.2.1++u,st.2.2))
def z58 (u:List UInt8) (e:Bool) (now:List UInt8) (out:List (List UInt8)) (name:List UInt8) (cs:Int):Bool×(List UInt8×(List (List UInt8)×(List UInt8×Int))) :=
 ((putU name (z56 cs) (e,(now,out)) u).1,((putU name (z56 cs) (e,(now,out)) u).2.1,((putU name (z56 cs) (e,(now,out)) u).2.2,(name,cs))))
def qqN (u:List UInt8) (_:Bool) (now:List UInt8) (out:List (List UInt8)) (name:List UInt8) (_:Int):Bool:=(len1k u&&lenOk now)&&(decide (out.length < 99)&&len1k name)
def numL (name cs:List UInt8) (l:List (List UInt8)):List (List UInt8) :=
 (l.foldl (putU name cs) (true,(headL name 0 cs,[]))).2.2++[(l.foldl (putU name cs) (true,(headL name 0 cs,[]))).2.1]
def z31 (name:List UInt8) (cs:Int) (l:List (List UInt8)):List (List UInt8):=numL name (z56 cs) l
def qqO (name:List UInt8) (_:Int) (l:List (List UInt8)):Bool:=len1k name&&(decide (l.length≤100)&&l.all fun u=>decide (u.length≤75))
def qbg (name:List UInt8) (t:List Int):List (List UInt8)×Int :=
 bif qbM name t != 0 then ([],qbM name t) else bif (z28 name t).2 then ([qcW name t],0) else bif (z22 t).2 != 0 then ([],(z22 t).2) else
 bif decide ((headL name (-1) (z56 (z22 t).1)++(z23 (z22 t).1 t).flatten).length≤74) then ([headL name (-1) (z56 (z22 t).1)++(z23 (z22 t).1 t).flatten],0)
 else (numL name (z56 (z22 t).1) (z23 (z22 t).1 t),0)
def ok36 (name:List UInt8) (t:List Int):Bool:=decide (name.length≤100)&&decide (t.length≤100)
def z13 (name:List UInt8) (t:List Int):List (List UInt8)×Int:=qbg name t
def qhu (name:List UInt8) (t:List Int):Bool:=ok36 name t
def z14 (name:List UInt8) (t:List Int):List (List UInt8)×Int:=qbg name t
def qkG (name:List UInt8) (t:List Int):Bool:=ok36 name t&&i32s t
def textL (l:List (List UInt8)):List UInt8:=l.flatMap fun s=>[59,13,10,32]++s
def z7 (name:List UInt8) (t:List Int):List UInt8×Int:=(textL (qbg name t).1,(qbg name t).2)
def z7_ok (name:List UInt8) (t:List Int):Bool:=ok36 name t
def z8 (name:List UInt8) (t:List Int):List UInt8×Int:=(textL (qbg name t).1,(qbg name t).2)
def z8_ok (name:List UInt8) (t:List Int):Bool:=ok36 name t&&i32s t
def z15 (name:List UInt8) (t:List Int):Int:=((qbg name t).1.length:Nat)
def qyp (name:List UInt8) (t:List Int):Bool:=ok36 name t
def z12 (a b:List (List UInt8)):Bool:=decide (a=b)
def qlR (a _:List (List UInt8)):Bool:=lenOk a&&a.all fun x=>lenOk x
def z6:Bool:=true
def z3 (_:List UInt8) (_:List Int):Bool:=true
def z3_ok (_:List UInt8) (t:List Int):Bool:=i32s t
def z4 (_:List UInt8) (_:List Int):Bool:=true
def z4_ok (_:List UInt8) (t:List Int):Bool:=i32s t
end Go.Av
