import Derived.Test.YtcbimkaeoojceaaGreatDoorPxM
namespace Go.Av
set_option linter.unusedSimpArgs false
set_option linter.unusedVariables false
def qF (s:LU) (i:Int):Nat:=min i.toNat s.length
def blkB (c:UInt8):Bool:=z77 c 2||(c==13||c==10)
def tokN (s:LU) (i:Nat):LU:=(s.drop i).takeWhile fun c=>z77 c 64
def qW (s:LU) (i:Int):LU×(Int×Int) :=
 bif qF s i==s.length then ([],(0,4)) else bif (tokN s (qF s i)).isEmpty then ([],(0,3)) else (tokN s (qF s i),(((qF s i+(tokN s (qF s i)).length:Nat):Int),0))
def unqG:LU→Option (LU×Nat)
 | []=>none
 | [c]=>bif c==34 then some ([],1) else none
 | c :: d :: r=>bif c==34 then some ([],1) else bif c==92 then (unqG r).map fun x=>(d :: x.1,x.2+2) else (unqG (d :: r)).map fun x=>(c :: x.1,x.2+1)
def unqR:Option (LU×Nat)→LU×(Int×Int)
 | some x=>(x.1,(((x.2+1:Nat):Int),0))
 | none=>([],(0,4))
def qJ:LU→LU×(Int×Int)
 | []=>([],(0,3))
 | c :: r=>bif c != 34 then ([],(0,3)) else unqR (unqG r)
def qbi (s:LU) (i:Int):LU×(Int×Int) :=
 bif (qF s i==s.length)||(s.getD (qF s i) 0 != 34) then qW s i else
 bif (qJ (s.drop (qF s i))).2.2 != 0 then ([],(0,(qJ (s.drop (qF s i))).2.2)) else
 ((qJ (s.drop (qF s i))).1,((qF s i:Nat)+(qJ (s.drop (qF s i))).2.1,0))
def numV (s:LU):Int:=(s.foldl (fun a c=>a*10+(c.toNat - 48)) 0:Nat)
def starN:LU→Option Nat
 | []=>none
 | c :: r=>bif c==42 then some 0 else (starN r).map (· + 1)
end Go.Av
