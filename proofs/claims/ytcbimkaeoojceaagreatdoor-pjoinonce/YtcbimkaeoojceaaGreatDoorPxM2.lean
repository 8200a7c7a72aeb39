import Derived.Test.YtcbimkaeoojceaaGreatDoorPxM
namespace Go.Av
set_option linter.unusedVariables false
set_option linter.unusedSimpArgs false
def qy (s:List UInt8) (i:Int):Nat:=min i.toNat s.length
def blkB (c:UInt8):Bool:=z77 c 2||(c==13||c==10)
def tokN (s:List UInt8) (i:Nat):List UInt8:=(s.drop i).takeWhile fun c=>z77 c 64
def qak (s:List UInt8) (i:Int):List UInt8×(Int×Int) :=
 bif qy s i==s.length then ([],(0,4)) else bif (tokN s (qy s i)).isEmpty then ([],(0,3)) else (tokN s (qy s i),(((qy s i+(tokN s (qy s i)).length:Nat):Int),0))
def unqG:List UInt8→Option (List UInt8×Nat)
 | []=>none
 | [c]=>bif c==34 then some ([],1) else none
 | c :: d :: r=>bif c==34 then some ([],1) else bif c==92 then (unqG r).map fun x=>(d :: x.1,x.2+2) else (unqG (d :: r)).map fun x=>(c :: x.1,x.2+1)
def unqR:Option (List UInt8×Nat)→List UInt8×(Int×Int)
 | some x=>(x.1,(((x.2+1:Nat):Int),0))
 | none=>([],(0,4))
def qu:List UInt8→List UInt8×(Int×Int)
 | []=>([],(0,3))
 | c :: r=>bif c != 34 then ([],(0,3)) else unqR (unqG r)
def qaF (s:List UInt8) (i:Int):List UInt8×(Int×Int) :=
 bif (qy s i==s.length)||(s.getD (qy s i) 0 != 34) then qak s i else
 bif (qu (s.drop (qy s i))).2.2 != 0 then ([],(0,(qu (s.drop (qy s i))).2.2)) else
 ((qu (s.drop (qy s i))).1,((qy s i:Nat)+(qu (s.drop (qy s i))).2.1,0))
def numV (s:List UInt8):Int:=(s.foldl (fun a c=>a*10+(c.toNat - 48)) 0:Nat)
def starN:List UInt8→Option Nat
 | []=>none
 | c :: r=>bif c==42 then some 0 else (starN r).map (· + 1)
end Go.Av
