import Derived.Test.YtabdohophompiaaGreatDoorPxM
namespace Go.Av
set_option linter.unusedVariables false
set_option linter.unusedSimpArgs false
def qF (s:List UInt8) (i:Int):Nat:=min i.toNat s.length
def z102 (s:List UInt8) (i:Int):Int:=(qF s i:Nat)
def z103 (_:List UInt8) (_:Int):Int×Int:=(0,0)
def blkB (c:UInt8):Bool:=z100 c 2||(c==13||c==10)
def gapN (s:List UInt8) (i:Nat):Nat:=i+((s.drop i).takeWhile blkB).length
def z67 (s:List UInt8) (i:Int):Int:=(gapN s (qF s i):Nat)
def qav (s:List UInt8) (i:Int):Bool:=lenOk s&&(s.getD (gapN s (qF s i)) 0 != 40)
def z69 (s:List UInt8) (i:Int) (c:UInt8):Int×Bool :=
 bif decide (gapN s (qF s i) < s.length)&&(s.getD (gapN s (qF s i)) 0==c) then (((gapN s (qF s i)+1:Nat):Int),true) else ((qF s i:Nat),false)
def qww (s:List UInt8) (i:Int) (_:UInt8):Bool:=qav s i
def tokN (s:List UInt8) (i:Nat):List UInt8:=(s.drop i).takeWhile fun c=>z100 c 64
def z68 (s:List UInt8) (i:Int):List UInt8×(Int×Int) :=
 bif qF s i==s.length then ([],(0,4)) else bif (tokN s (qF s i)).isEmpty then ([],(0,3)) else (tokN s (qF s i),(((qF s i+(tokN s (qF s i)).length:Nat):Int),0))
def qlw (s:List UInt8) (_:Int):Bool:=lenOk s
def unqG:List UInt8→Option (List UInt8×Nat)
 | []=>none
 | [c]=>bif c==34 then some ([],1) else none
 | c :: d :: r=>bif c==34 then some ([],1) else bif c==92 then (unqG r).map fun x=>(d :: x.1,x.2+2) else (unqG (d :: r)).map fun x=>(c :: x.1,x.2+1)
def unqR:Option (List UInt8×Nat)→List UInt8×(Int×Int)
 | some x=>(x.1,(((x.2+1:Nat):Int),0))
 | none=>([],(0,4))
def z66:List UInt8→List UInt8×(Int×Int)
 | []=>([],(0,3))
 | c :: r=>bif c != 34 then ([],(0,3)) else unqR (unqG r)
def qps (s:List UInt8):Bool:=lenOk s
def z70 (s:List UInt8) (i:Int):List UInt8×(Int×Int) :=
 bif (qF s i==s.length)||(s.getD (qF s i) 0 != 34) then z68 s i else
 bif (z66 (s.drop (qF s i))).2.2 != 0 then ([],(0,(z66 (s.drop (qF s i))).2.2)) else
 ((z66 (s.drop (qF s i))).1,((qF s i:Nat)+(z66 (s.drop (qF s i))).2.1,0))
def qwx (s:List UInt8) (_:Int):Bool:=lenOk s
def ptsQ:Nat→List UInt8→List UInt8→List (List UInt8)
 | 0,_,cur=>[cur]
 | _+1,[],cur=>[cur]
 | n+1,c :: r,cur=>bif c==34 then
  (match unqG r with | some x=>ptsQ n (r.drop x.2) (cur++c :: r.take x.2) | none=>[cur++c :: r])
  else bif c==59 then cur :: ptsQ n r [] else ptsQ n r (cur++[c])
def ptsB:Nat→List UInt8→Bool
 | 0,_=>true
 | _+1,[]=>true
 | n+1,c :: r=>bif c==34 then
  (match unqG r with | some x=>ptsB n (r.drop x.2) | none=>true)
  else (c != 40)&&ptsB n r
def z38 (s:List UInt8):List (List UInt8):=ptsQ (s.length+1) s []
def qpt (s:List UInt8):Bool:=lenOk s&&ptsB (s.length+1) s
def numV (s:List UInt8):Int:=(s.foldl (fun a c=>a*10+(c.toNat - 48)) 0:Nat)
def z104 (s:List UInt8):Int:=numV s
def qdC (s:List UInt8):Bool:=(List.range 100).any fun n=>s==digI (n:Int)
def starN:List UInt8→Option Nat
 | []=>none
 | c :: r=>bif c==42 then some 0 else (starN r).map (· + 1)
def attrR (a:List UInt8) (k:Nat):List UInt8×(Int×Bool) :=
 bif (a.drop (k+1)).isEmpty then (qJ (a.take k),(-1,true)) else
 (qJ (a.take k),(numV ((a.drop (k+1)).take ((a.drop (k+1)).length - 1)),true))
def z71 (a:List UInt8):List UInt8×(Int×Bool):=match starN a with | none=>(qJ a,(-1,false)) | some k=>attrR a k
def qfs (a:List UInt8):Bool:=lenOk a&&match starN a with
 | none=>true
 | some k=>(decide (0 < k)&&(a.take k).all fun c=>z100 c 256)&&((a.drop (k+1)).isEmpty||(((a.drop (k+1)).getD ((a.drop (k+1)).length - 1) 0==42)&&qdC ((a.drop (k+1)).take ((a.drop (k+1)).length - 1))))
def z40 (p:List UInt8):Bool:=gapN p 0==p.length
def qwy (p:List UInt8):Bool:=qav p 0
def oneT (p:List UInt8):List UInt8×(Int×Int):=z68 p (z67 p 0)
def oneS (p:List UInt8):Int×Bool:=z69 p (oneT p).2.1 61
def oneV (p:List UInt8):List UInt8×(Int×Int):=z70 p (z67 p (oneS p).1)
def z39 (p:List UInt8):qiJ×Int :=
 bif ((oneT p).2.2 != 0)||(!(oneS p).2||(((oneV p).2.2 != 0)||(z67 p (oneV p).2.1 != ((p.length:Nat):Int)))) then (([],(0,(false,([],())))),3)
 else (((z71 (oneT p).1).1,((z71 (oneT p).1).2.1,((z71 (oneT p).1).2.2,((oneV p).1,())))),0)
def qel (p:List UInt8):Bool:=(qav p 0&&qav p (oneT p).2.1)&&((qav p (oneS p).1&&qav p (oneV p).2.1)&&qfs (oneT p).1)
def readF (l:List (List UInt8)):List qiJ×Int :=
 (l.flatMap fun p=>bif (z39 p).2==0 then [(z39 p).1] else [],(l.countP fun p=>((z39 p).2 != 0) && !(z40 p):Nat))
def z20 (s:List UInt8):List qiJ×Int:=readF (z38 s)
def qpu (s:List UInt8):Bool:=qpt s&&((z38 s).all qel&&decide ((z38 s).length≤1048576))
end Go.Av
