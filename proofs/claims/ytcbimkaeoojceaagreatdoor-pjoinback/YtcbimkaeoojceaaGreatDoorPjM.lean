import Derived.Test.YtcbimkaeoojceaaGreatDoorPxM2
namespace Go.Av
set_option linter.unusedSimpArgs false
set_option linter.unusedVariables false
def z48 (s:LU):LU:=s
def qpi (s:LU):Bool:=lenOk s
def z80 (s t:LU):LU×Bool:=bif z102 s t then (s.take (s.length - t.length),true) else (s,false)
def qEd (s _:LU):Bool:=lenOk s
def z76 (s:LU) (i:Int):Int:=(qF s i:Nat)
abbrev CommT:=Int×(Int×(Bool×Unit))
def takeK (k:CommT) (c:UInt8):Bool×CommT :=
 bif k.2.2.1 then (false,(k.1,(k.2.1,(false,())))) else bif c==92 then (false,(k.1,(k.2.1,(true,())))) else
 bif c==40 then (false,(k.1+1,(max k.2.1 (k.1+1),(k.2.2.1,())))) else bif c==41 then (k.1 - 1==0,(k.1 - 1,(k.2.1,(k.2.2.1,())))) else (false,k)
def z100 (k:CommT) (c:UInt8):Bool×CommT:=takeK k c
def qsq (k:CommT) (_:UInt8):Bool:=decide (-1000000000≤k.1∧k.1≤1000000000)
def overF:CommT→LU→Nat×CommT
 | k,[]=>(0,k)
 | k,c :: r=>bif (takeK k c).1 then (1,(takeK k c).2) else ((overF (takeK k c).2 r).1+1,(overF (takeK k c).2 r).2)
def overC (s:LU):Nat×CommT:=overF (0,(0,(false,()))) s
def z78 (s:LU):Int×Int:=(((overC s).1:Nat),(overC s).2.2.1)
def qEe (s:LU):Bool:=lenOk s
def gapL:Nat→LU→Nat
 | 0,_=>0
 | _+1,[]=>0
 | n+1,c :: r=>bif c==40 then (overC (c :: r)).1+gapL n ((c :: r).drop (overC (c :: r)).1) else bif blkB c then gapL n r+1 else 0
def gapW (s:LU) (i:Nat):Nat:=i+gapL (s.length+1) (s.drop i)
def z54 (s:LU) (i:Int):Int:=(gapW s (qF s i):Nat)
def qiy (s:LU) (_:Int):Bool:=lenOk s
def z55 (s:LU) (i:Int) (c:UInt8):Int×Bool :=
 bif decide (gapW s (qF s i) < s.length)&&(s.getD (gapW s (qF s i)) 0==c) then (((gapW s (qF s i)+1:Nat):Int),true) else ((qF s i:Nat),false)
def qEf (s:LU) (_:Int) (_:UInt8):Bool:=lenOk s
def z53 (s:LU) (i:Int):LU×(Int×Int):=qW s i
def qpj (s:LU) (_:Int):Bool:=lenOk s
def z75 (s:LU):LU×(Int×Int):=qJ s
def quU (s:LU):Bool:=lenOk s
def z56 (s:LU) (i:Int):LU×(Int×Int):=qbi s i
def qEg (s:LU) (_:Int):Bool:=lenOk s
def overP:LU→Nat
 | []=>0
 | c :: r=>bif c==34 then (match unqG r with | some x=>x.2+1 | none=>r.length+1) else bif c==40 then gapW (c :: r) 0 else 1
def z52 (s:LU):Int:=(overP s:Nat)
def quV (s:LU):Bool:=lenOk s && !s.isEmpty
def ptsW:Nat→LU→LU→List LU
 | 0,_,cur=>[cur]
 | _+1,[],cur=>[cur]
 | n+1,c :: r,cur=>bif c==59 then cur :: ptsW n r [] else ptsW n ((c :: r).drop (overP (c :: r))) (cur++(c :: r).take (overP (c :: r)))
def z31 (s:LU):List LU:=ptsW (s.length+1) s []
def qEh (s:LU):Bool:=lenOk s
def z81 (s:LU):Int :=
 bif (s.isEmpty||decide (3 < s.length))||(!(z79 s 8)||((s.getD 0 0==48)&&decide (1 < s.length))) then -1 else numV s
def qEi (s:LU):Bool:=lenOk s
def attrW (w:LU) (k:Nat):LU×(Int×Bool) :=
 bif (k==0) || !(z79 (w.take k) 256) then (w,(-1,false)) else bif (w.drop (k+1)).isEmpty then (w.take k,(-1,true)) else
 bif z81 (z80 (w.drop (k+1)) [42]).1 == -1 then (w,(-1,false)) else (w.take k,(z81 (z80 (w.drop (k+1)) [42]).1,(z80 (w.drop (k+1)) [42]).2))
def z58 (a:LU):LU×(Int×Bool):=match starN (z28 a) with | none=>(z28 a,(-1,false)) | some k=>attrW (z28 a) k
def qEj (a:LU):Bool:=lenOk a
def z57 (p:LU):Bool:=gapW p 0==p.length
def qEk (p:LU):Bool:=lenOk p
def oneTW (p:LU):LU×(Int×Int):=z53 p (z54 p 0)
def oneSW (p:LU):Int×Bool:=z55 p (oneTW p).2.1 61
def oneVW (p:LU):LU×(Int×Int):=z56 p (z54 p (oneSW p).1)
def z32 (p:LU):qi×Int :=
 bif ((oneTW p).2.2 != 0)||(!(oneSW p).2||(((oneVW p).2.2 != 0) || !(z57 (p.drop (oneVW p).2.1.toNat)))) then (([],(0,(false,([],())))),3)
 else (((z58 (oneTW p).1).1,((z58 (oneTW p).1).2.1,((z58 (oneTW p).1).2.2,((oneVW p).1,())))),0)
def qEl (p:LU):Bool:=lenOk p
def z15 (s:LU):List qi:=(z31 s).flatMap fun p=>bif (z32 p).2==0 then [(z32 p).1] else []
def qEm (s:LU):Bool:=lenOk s
def pctS:Nat→LU→LU
 | _,[]=>[]
 | k+1,_ :: r=>pctS k r
 | 0,x :: r=>bif (z113 (x :: r) 0 37).2 then (z113 (x :: r) 0 37).1 :: pctS 2 r else x :: pctS 0 r
def z94 (c:UInt8) (_:Bool) (out:LU):LU:=out++[c]
def qyE (_:UInt8) (_:Bool) (out:LU):Bool:=decide (out.length≤4194304)
def qIp (s out:LU):LU:=out++pctS 0 s
def qdx (s out:LU):Bool:=lenOk s&&decide (out.length≤1048576)
def z68 (s:LU):LU:=pctS 0 s
def qEn (s:LU):Bool:=lenOk s
def chN (x:UInt8):LU→Option Nat
 | []=>none
 | c :: r=>bif c==x then some 0 else (chN x r).map (· + 1)
def z46 (v:LU):LU×(LU×Bool) :=
 match chN 39 v with
 | none=>([],(v,false))
 | some i=>match chN 39 (v.drop (i+1)) with
  | none=>([],(v,false))
  | some j=>(v.take i,((v.drop (i+1)).drop (j+1),true))
def qEo (v:LU):Bool:=lenOk v
def qu (name:LU) (f:qi→Bool):List qi→Option Nat
 | []=>none
 | p :: r=>bif z19 p.1 name&&f p then some 0 else (qu name f r).map (· + 1)
def numP (n:Int) (p:qi):Bool:=p.2.1==n
def extP (p:qi):Bool:=(p.2.1 == -1)&&p.2.2.1
def qaX (p:qi):Bool:=(p.2.1 == -1) && !p.2.2.1
def numsP (l:List qi) (name:LU):Nat→Int→LI
 | 0,_=>[]
 | k+1,n=>match qu name (numP n) l with
  | some i=>(i:Int) :: numsP l name k (n+1)
  | none=>[]
def usedP (l:List qi) (name:LU):LI :=
 match qu name extP l with
 | some i=>[(i:Int)]
 | none=>match numsP l name 1001 0,qu name qaX l with
  | [],some i=>[(i:Int)]
  | o,_=>o
def z29 (l:List qi) (name:LU):LI:=usedP l name
def psOk (l:List qi):Bool:=decide (l.length≤1048576)&&l.all fun p=>lenOk p.1&&(lenOk p.2.2.2.1&&decide (-1≤p.2.1∧p.2.1 < 1000))
def quW (l:List qi) (name:LU):Bool:=psOk l&&lenOk name
def qcr (p:qi):LU:=bif p.2.2.1 then z68 p.2.2.2.1 else p.2.2.2.1
def z49 (p:qi):LU:=qcr p
def qjr (p:qi):Bool:=lenOk p.2.2.2.1
def csP (p:qi):Int:=bif p.2.2.1&&((z46 p.2.2.2.1).2.2&&((z47 (z46 p.2.2.2.1).1).2==0)) then (z47 (z46 p.2.2.2.1).1).1 else 2
def qyF (p:qi):LU:=bif p.2.2.1 then z68 (z46 p.2.2.2.1).2.1 else p.2.2.2.1
def octsP:List qi→LU
 | []=>[]
 | p :: r=>qyF p++r.flatMap qcr
def z30 (l:List qi):LI :=
 match l with
 | []=>[]
 | p :: r=>bif p.2.2.1 then z50 (csP p) (octsP (p :: r)) else z51 (octsP (p :: r))
def quX (l:List qi):Bool:=(psOk l && !l.isEmpty)&&decide ((l.map fun p=>p.2.2.2.1.length).sum≤1048576)
abbrev PairT:=LU×(LI×Unit)
def pickP (l:List qi) (u:LI):List qi:=u.map fun i=>l.getD i.toNat ([],(0,(false,([],()))))
def joinF (l:List qi):List qi→List LU→List PairT
 | [],_=>[]
 | p :: r,met=>bif met.contains (z28 p.1)||(usedP l (z28 p.1)).isEmpty then joinF l r met
  else (z28 p.1,(z30 (pickP l (usedP l (z28 p.1))),())) :: joinF l r (z28 p.1 :: met)
def z14 (l:List qi):List PairT:=joinF l l []
def qpk (l:List qi):Bool:=(psOk l&&decide (l.length≤10000))&&l.all fun p=>decide (p.2.2.2.1.length≤1000)
def z7 (s:LU):List PairT:=z14 (z15 s)
def z7_ok (s:LU):Bool:=lenOk s&&qpk (z15 s)
def z18 (p:PairT) (name:LU):Bool×LU:=(z19 p.1 name,name)
def qyG (p:PairT) (name:LU):Bool:=lenOk p.1&&lenOk name
def findP (name:LU):List PairT→Option Nat
 | []=>none
 | p :: r=>bif z19 p.1 name then some 0 else (findP name r).map (· + 1)
def qiz (l:List PairT) (name:LU):Int×LU:=((match findP name l with | some i=>(i:Int) | none => -1),name)
def qjF (l:List PairT):Bool:=decide (l.length≤1048576)&&l.all fun p=>lenOk p.1&&lenOk p.2.1
def qeT (l:List PairT) (name:LU):Bool:=qjF l&&lenOk name
def z11 (l:List PairT) (name:LU):LI×Bool :=
 match findP name l with
 | some i=>((l.getD i ([],([],()))).2.1,true)
 | none=>([],false)
def qEp (l:List PairT) (name:LU):Bool:=qjF l&&lenOk name
def z5:Bool:=true
def z3 (_:LU) (_:LI):Bool:=true
def z3_ok (_:LU) (t:LI):Bool:=i32s t
end Go.Av
