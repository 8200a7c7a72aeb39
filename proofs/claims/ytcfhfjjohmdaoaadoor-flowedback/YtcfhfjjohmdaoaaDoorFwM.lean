import Derived.Test.YtcfhfjjohmdaoaaDoorFiM
namespace Go.Av
set_option linter.unusedVariables false
set_option linter.unusedSimpArgs false
def z120 (s:List UInt8) (c:UInt8):Int:=Lib.indexByte s c
def z99 (s:List UInt8) (c:UInt8):Int:=Lib.indexByte s c
def z78 (s t:List UInt8):Bool:=bif decide (t.length≤s.length) then s.drop (s.length - t.length)==t else false
def qlp (s _:List UInt8):Bool:=lenOk s
def z95 (s t:List UInt8):Bool:=bif decide (t.length≤s.length) then s.take t.length==t else false
def z77 (s t:List UInt8):List UInt8:=bif z95 s t then s.drop t.length else s
def qN (s:List UInt8) (c:UInt8):List UInt8:=s.dropWhile fun x=>x==c
def qB (s:List UInt8) (_:UInt8):Bool:=lenOk s
def z76 (s cs:List UInt8):List UInt8:=s.dropWhile fun c=>c==List.getD cs 0 0
def qoj (s cs:List UInt8):Bool:=lenOk s&&(cs.length==1&&ascii cs)
abbrev ParaT:=Int×(List UInt8×Unit)
def depN (s:List UInt8):Nat:=(s.takeWhile (fun c=>c==62)).length
def z42 (s:List UInt8):Int:=(depN s:Nat)
def qkh (s:List UInt8):Bool:=lenOk s
def z43 (s:List UInt8):Int:=(depN s:Nat)
def qki (s:List UInt8):Bool:=lenOk s
def unSp:List UInt8→List UInt8
 | []=>[]
 | c :: r=>bif c==32 then r else c :: r
def bareB (s:List UInt8):List UInt8:=unSp (s.drop (depN s))
def z44 (s:List UInt8):List UInt8:=bareB s
def qdi (s:List UInt8):Bool:=lenOk s
def z45 (s:List UInt8):List UInt8:=bareB s
def qhb (s:List UInt8):Bool:=lenOk s
def sig:List UInt8:=[45,45,32]
def endSp (s:List UInt8):Bool:=s.getLast? == some 32
def flowB (b:List UInt8):Bool:=endSp b&&b != sig
def z46 (s:List UInt8):Bool:=flowB (bareB s)
def qgj (s:List UInt8):Bool:=lenOk s
def z47 (s:List UInt8):Bool:=flowB (bareB s)
def qkj (s:List UInt8):Bool:=lenOk s
def fromB:List UInt8:=[70,114,111,109,32]
def z80 (t:List UInt8):Bool:=(t.take 5==fromB)||match t with
 | []=>false
 | c :: _=>(c==32)||(c==62)
def qwU (t:List UInt8):Bool:=lenOk t
def qx (d:Int) (t:List UInt8):List UInt8:=List.replicate d.toNat 62++((bif decide (0 < d)||z80 t then [32] else [])++t)
def z48 (d:Int) (t:List UInt8):List UInt8:=qx d t
def qdj (d:Int) (t:List UInt8):Bool:=decide (d≤100)&&lenOk t
def z49 (d:Int) (t:List UInt8):List UInt8:=qx d t
def qcO (d:Int) (t:List UInt8):Bool:=decide (d≤100)&&lenOk t
def takeP (st:List ParaT×Bool) (line:List UInt8):List ParaT×Bool :=
 (bif st.2&&((st.1.getLast?.map fun p=>p.1==z42 line).getD false)
  then st.1.dropLast++[(z42 line,((st.1.getLast?.map fun p=>p.2.1).getD []++bareB line,()))]
  else st.1++[(z42 line,(bareB line,()))],flowB (bareB line))
abbrev qcX:=List ParaT×(Bool×Unit)
def z69 (r:qcX) (line:List UInt8):qcX:=((takeP (r.1,r.2.1) line).1,((takeP (r.1,r.2.1) line).2,()))
def qok (r:qcX) (line:List UInt8):Bool:=(lenOk line&&decide (r.1.length≤1048576))&&((r.1.all fun p=>decide (p.2.1.length≤1048576))&&(!r.2.1 || !r.1.isEmpty))
def readP (ls:List (List UInt8)):List ParaT:=(ls.foldl takeP ([],false)).1
def z70 (s:List UInt8):List (List UInt8):=(qaB (qaA [] s)).1
def qsW (s:List UInt8):Bool:=lenOk s
def z36 (s:List UInt8):List ParaT:=readP (z70 s)
def qlq (s:List UInt8):Bool:=lenOk s
def z37 (s:List UInt8):List ParaT:=readP (z70 s)
def qsX (s:List UInt8):Bool:=lenOk s
def mayB (p:ParaT):Bool:=(decide (0≤p.1)&&decide (p.1≤9))&&(!(p.2.1.any qaD)&&(!(endSp p.2.1)&&Lib.index p.2.1 sig == -1))
def z72 (p:ParaT):Bool:=mayB p
def qqI (p:ParaT):Bool:=lenOk p.2.1
def z74 (p:ParaT):Bool:=mayB p
def qqJ (p:ParaT):Bool:=lenOk p.2.1
def scanC (f:Nat→Bool):List UInt8→Nat→Nat→Nat
 | [],_,best=>best
 | x :: r,n,best=>bif (x==32)&&(!r.isEmpty&&((best==0)||f (n+1))) then scanC f r (n+1) (n+1) else scanC f r (n+1) best
def fitB (d:Int) (t:List UInt8) (w:Int) (n:Nat):Bool:=decide ((((qx d (t.take n)).length:Nat):Int)≤w)
def cutN (d:Int) (t:List UInt8) (w:Int):Nat:=scanC (fitB d t w) t 0 0
def z90 (d:Int) (t:List UInt8) (w:Int):Int:=bif (cutN d t w==0)&&endSp t then ((t.length:Nat):Int) else (cutN d t w:Nat)
def qol (d:Int) (t:List UInt8) (_:Int):Bool:=decide (d≤100)&&lenOk t
def z75 (d:Int) (t:List UInt8) (w:Int):Int:=(cutN d t w:Nat)
def qom (d:Int) (t:List UInt8) (_:Int):Bool:=decide (d≤100)&&lenOk t
def qap (d:Int) (w:Int):Nat→List UInt8→List (List UInt8)
 | 0,t=>[t]
 | n+1,t=>bif decide (w < (((qx d t).length:Nat):Int))&&cutN d t w != 0 then t.take (cutN d t w) :: qap d w n (t.drop (cutN d t w)) else [t]
def layP (p:ParaT) (w:Int):List UInt8:=(qap p.1 w p.2.1.length p.2.1).flatMap fun x=>qx p.1 x++[13,10]
def z73 (out:List UInt8) (p:ParaT) (w:Int):List UInt8:=out++layP p w
def qon (out:List UInt8) (p:ParaT) (_:Int):Bool:=decide (p.1≤9)&&(decide (p.2.1.length≤200)&&(decide (out.length≤262144) && !(endSp p.2.1)))
def qcP (l:List ParaT) (w:Int):List UInt8×Int :=
 bif decide (w < 10)||decide (1000 < w) then ([],1) else bif l.all mayB then (l.flatMap fun p=>layP p w,0) else ([],3)
def qgk (l:List ParaT):Bool:=decide (l.length≤12)&&l.all fun p=>decide (p.2.1.length≤200)
def z39 (l:List ParaT) (w:Int):List UInt8×Int:=qcP l w
def qlr (l:List ParaT) (_:Int):Bool:=qgk l
def z41 (l:List ParaT) (w:Int):List UInt8×Int:=qcP l w
def qsY (l:List ParaT) (_:Int):Bool:=qgk l
def z68 (a b:ParaT):Bool:=decide (a=b)
def qqK (a _:ParaT):Bool:=lenOk a.2.1
def z40 (l:List ParaT):List ParaT:=l
def qoo (l:List ParaT):Bool:=lenOk l
def z35 (a b:List ParaT):Bool:=decide (a=b)
def qiu (a _:List ParaT):Bool:=lenOk a&&a.all fun p=>lenOk p.2.1
def z38 (l:List ParaT):Bool:=((l.take 12).any fun p=>decide (200 < p.2.1.length))||decide (12 < l.length)
def qop (l:List ParaT):Bool:=true
def z34:Bool:=true
def z9 (_:List UInt8):Bool:=true
def z10 (_:List ParaT) (_:Int):Bool:=true
def z11 (_:List UInt8) (_:Int):Bool:=true
def z12 (_:List ParaT) (_:Int):Bool:=true
end Go.Av
