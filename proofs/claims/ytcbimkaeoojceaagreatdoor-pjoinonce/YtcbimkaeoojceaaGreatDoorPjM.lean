import Derived.Test.YtcbimkaeoojceaaGreatDoorPxM2
namespace Go.Av
set_option linter.unusedVariables false
set_option linter.unusedSimpArgs false
def z48 (s:List UInt8):List UInt8:=s
def qlX (s:List UInt8):Bool:=lenOk s
def z80 (s t:List UInt8):List UInt8×Bool:=bif z102 s t then (s.take (s.length - t.length),true) else (s,false)
def qxh (s _:List UInt8):Bool:=lenOk s
def z76 (s:List UInt8) (i:Int):Int:=(qy s i:Nat)
abbrev CommT:=Int×(Int×(Bool×Unit))
def takeK (k:CommT) (c:UInt8):Bool×CommT :=
 bif k.2.2.1 then (false,(k.1,(k.2.1,(false,())))) else bif c==92 then (false,(k.1,(k.2.1,(true,())))) else
 bif c==40 then (false,(k.1+1,(max k.2.1 (k.1+1),(k.2.2.1,())))) else bif c==41 then (k.1 - 1==0,(k.1 - 1,(k.2.1,(k.2.2.1,())))) else (false,k)
def z100 (k:CommT) (c:UInt8):Bool×CommT:=takeK k c
def qol (k:CommT) (_:UInt8):Bool:=decide (-1000000000≤k.1∧k.1≤1000000000)
def overF:CommT→List UInt8→Nat×CommT
 | k,[]=>(0,k)
 | k,c :: r=>bif (takeK k c).1 then (1,(takeK k c).2) else ((overF (takeK k c).2 r).1+1,(overF (takeK k c).2 r).2)
def overC (s:List UInt8):Nat×CommT:=overF (0,(0,(false,()))) s
def z78 (s:List UInt8):Int×Int:=(((overC s).1:Nat),(overC s).2.2.1)
def qxi (s:List UInt8):Bool:=lenOk s
def gapL:Nat→List UInt8→Nat
 | 0,_=>0
 | _+1,[]=>0
 | n+1,c :: r=>bif c==40 then (overC (c :: r)).1+gapL n ((c :: r).drop (overC (c :: r)).1) else bif blkB c then gapL n r+1 else 0
def gapW (s:List UInt8) (i:Nat):Nat:=i+gapL (s.length+1) (s.drop i)
def z54 (s:List UInt8) (i:Int):Int:=(gapW s (qy s i):Nat)
def qgJ (s:List UInt8) (_:Int):Bool:=lenOk s
def z55 (s:List UInt8) (i:Int) (c:UInt8):Int×Bool :=
 bif decide (gapW s (qy s i) < s.length)&&(s.getD (gapW s (qy s i)) 0==c) then (((gapW s (qy s i)+1:Nat):Int),true) else ((qy s i:Nat),false)
def qxj (s:List UInt8) (_:Int) (_:UInt8):Bool:=lenOk s
def z53 (s:List UInt8) (i:Int):List UInt8×(Int×Int):=qak s i
def qlY (s:List UInt8) (_:Int):Bool:=lenOk s
def z75 (s:List UInt8):List UInt8×(Int×Int):=qu s
def qqg (s:List UInt8):Bool:=lenOk s
def z56 (s:List UInt8) (i:Int):List UInt8×(Int×Int):=qaF s i
def qxk (s:List UInt8) (_:Int):Bool:=lenOk s
def overP:List UInt8→Nat
 | []=>0
 | c :: r=>bif c==34 then (match unqG r with | some x=>x.2+1 | none=>r.length+1) else bif c==40 then gapW (c :: r) 0 else 1
def z52 (s:List UInt8):Int:=(overP s:Nat)
def qqh (s:List UInt8):Bool:=lenOk s && !s.isEmpty
def ptsW:Nat→List UInt8→List UInt8→List (List UInt8)
 | 0,_,cur=>[cur]
 | _+1,[],cur=>[cur]
 | n+1,c :: r,cur=>bif c==59 then cur :: ptsW n r [] else ptsW n ((c :: r).drop (overP (c :: r))) (cur++(c :: r).take (overP (c :: r)))
def z31 (s:List UInt8):List (List UInt8):=ptsW (s.length+1) s []
def qxl (s:List UInt8):Bool:=lenOk s
def z81 (s:List UInt8):Int :=
 bif (s.isEmpty||decide (3 < s.length))||(!(z79 s 8)||((s.getD 0 0==48)&&decide (1 < s.length))) then -1 else numV s
def qxm (s:List UInt8):Bool:=lenOk s
def attrW (w:List UInt8) (k:Nat):List UInt8×(Int×Bool) :=
 bif (k==0) || !(z79 (w.take k) 256) then (w,(-1,false)) else bif (w.drop (k+1)).isEmpty then (w.take k,(-1,true)) else
 bif z81 (z80 (w.drop (k+1)) [42]).1 == -1 then (w,(-1,false)) else (w.take k,(z81 (z80 (w.drop (k+1)) [42]).1,(z80 (w.drop (k+1)) [42]).2))
def z58 (a:List UInt8):List UInt8×(Int×Bool):=match starN (z28 a) with | none=>(z28 a,(-1,false)) | some k=>attrW (z28 a) k
def qxn (a:List UInt8):Bool:=lenOk a
def z57 (p:List UInt8):Bool:=gapW p 0==p.length
def qxo (p:List UInt8):Bool:=lenOk p
def oneTW (p:List UInt8):List UInt8×(Int×Int):=z53 p (z54 p 0)
def oneSW (p:List UInt8):Int×Bool:=z55 p (oneTW p).2.1 61
def oneVW (p:List UInt8):List UInt8×(Int×Int):=z56 p (z54 p (oneSW p).1)
def z32 (p:List UInt8):qd×Int :=
 bif ((oneTW p).2.2 != 0)||(!(oneSW p).2||(((oneVW p).2.2 != 0) || !(z57 (p.drop (oneVW p).2.1.toNat)))) then (([],(0,(false,([],())))),3)
 else (((z58 (oneTW p).1).1,((z58 (oneTW p).1).2.1,((z58 (oneTW p).1).2.2,((oneVW p).1,())))),0)
def qxp (p:List UInt8):Bool:=lenOk p
def z15 (s:List UInt8):List qd:=(z31 s).flatMap fun p=>bif (z32 p).2==0 then [(z32 p).1] else []
def qxq (s:List UInt8):Bool:=lenOk s
def pctS:Nat→List UInt8→List UInt8
 | _,[]=>[]
 | k+1,_ :: r=>pctS k r
 | 0,x :: r=>bif (z113 (x :: r) 0 37).2 then (z113 (x :: r) 0 37).1 :: pctS 2 r else x :: pctS 0 r
def z94 (c:UInt8) (_:Bool) (out:List UInt8):List UInt8:=out++[c]
def qtg (_:UInt8) (_:Bool) (out:List UInt8):Bool:=decide (out.length≤4194304)
def qAj (s out:List UInt8):List UInt8:=out++pctS 0 s
def qcB (s out:List UInt8):Bool:=lenOk s&&decide (out.length≤1048576)
def z68 (s:List UInt8):List UInt8:=pctS 0 s
def qxr (s:List UInt8):Bool:=lenOk s
def chN (x:UInt8):List UInt8→Option Nat
 | []=>none
 | c :: r=>bif c==x then some 0 else (chN x r).map (· + 1)
def z46 (v:List UInt8):List UInt8×(List UInt8×Bool) :=
 match chN 39 v with
 | none=>([],(v,false))
 | some i=>match chN 39 (v.drop (i+1)) with
  | none=>([],(v,false))
  | some j=>(v.take i,((v.drop (i+1)).drop (j+1),true))
def qxs (v:List UInt8):Bool:=lenOk v
def qr (name:List UInt8) (f:qd→Bool):List qd→Option Nat
 | []=>none
 | p :: r=>bif z19 p.1 name&&f p then some 0 else (qr name f r).map (· + 1)
def numP (n:Int) (p:qd):Bool:=p.2.1==n
def extP (p:qd):Bool:=(p.2.1 == -1)&&p.2.2.1
def qax (p:qd):Bool:=(p.2.1 == -1) && !p.2.2.1
def numsP (l:List qd) (name:List UInt8):Nat→Int→List Int
 | 0,_=>[]
 | k+1,n=>match qr name (numP n) l with
  | some i=>(i:Int) :: numsP l name k (n+1)
  | none=>[]
def usedP (l:List qd) (name:List UInt8):List Int :=
 match qr name extP l with
 | some i=>[(i:Int)]
 | none=>match numsP l name 1001 0,qr name qax l with
  | [],some i=>[(i:Int)]
  | o,_=>o
def z29 (l:List qd) (name:List UInt8):List Int:=usedP l name
def psOk (l:List qd):Bool:=decide (l.length≤1048576)&&l.all fun p=>lenOk p.1&&(lenOk p.2.2.2.1&&decide (-1≤p.2.1∧p.2.1 < 1000))
def qqi (l:List qd) (name:List UInt8):Bool:=psOk l&&lenOk name
def qca (p:qd):List UInt8:=bif p.2.2.1 then z68 p.2.2.2.1 else p.2.2.2.1
def z49 (p:qd):List UInt8:=qca p
def qho (p:qd):Bool:=lenOk p.2.2.2.1
def csP (p:qd):Int:=bif p.2.2.1&&((z46 p.2.2.2.1).2.2&&((z47 (z46 p.2.2.2.1).1).2==0)) then (z47 (z46 p.2.2.2.1).1).1 else 2
def qEs (p:qd):List UInt8:=bif p.2.2.1 then z68 (z46 p.2.2.2.1).2.1 else p.2.2.2.1
def octsP:List qd→List UInt8
 | []=>[]
 | p :: r=>qEs p++r.flatMap qca
def z30 (l:List qd):List Int :=
 match l with
 | []=>[]
 | p :: r=>bif p.2.2.1 then z50 (csP p) (octsP (p :: r)) else z51 (octsP (p :: r))
def qqj (l:List qd):Bool:=(psOk l && !l.isEmpty)&&decide ((l.map fun p=>p.2.2.2.1.length).sum≤1048576)
abbrev PairT:=List UInt8×(List Int×Unit)
def pickP (l:List qd) (u:List Int):List qd:=u.map fun i=>l.getD i.toNat ([],(0,(false,([],()))))
def joinF (l:List qd):List qd→List (List UInt8)→List PairT
 | [],_=>[]
 | p :: r,met=>bif met.contains (z28 p.1)||(usedP l (z28 p.1)).isEmpty then joinF l r met
  else (z28 p.1,(z30 (pickP l (usedP l (z28 p.1))),())) :: joinF l r (z28 p.1 :: met)
def z14 (l:List qd):List PairT:=joinF l l []
def qlZ (l:List qd):Bool:=(psOk l&&decide (l.length≤10000))&&l.all fun p=>decide (p.2.2.2.1.length≤1000)
def z7 (s:List UInt8):List PairT:=z14 (z15 s)
def z7_ok (s:List UInt8):Bool:=lenOk s&&qlZ (z15 s)
def z18 (p:PairT) (name:List UInt8):Bool×List UInt8:=(z19 p.1 name,name)
def qth (p:PairT) (name:List UInt8):Bool:=lenOk p.1&&lenOk name
def findP (name:List UInt8):List PairT→Option Nat
 | []=>none
 | p :: r=>bif z19 p.1 name then some 0 else (findP name r).map (· + 1)
def qgK (l:List PairT) (name:List UInt8):Int×List UInt8:=((match findP name l with | some i=>(i:Int) | none => -1),name)
def qeY (l:List PairT):Bool:=decide (l.length≤1048576)&&l.all fun p=>lenOk p.1&&lenOk p.2.1
def qdO (l:List PairT) (name:List UInt8):Bool:=qeY l&&lenOk name
def z11 (l:List PairT) (name:List UInt8):List Int×Bool :=
 match findP name l with
 | some i=>((l.getD i ([],([],()))).2.1,true)
 | none=>([],false)
def qma (l:List PairT) (name:List UInt8):Bool:=qeY l&&lenOk name
def z5:Bool:=true
def z4 (_:List UInt8):Bool:=true
end Go.Av
