import Derived.Test.YtmageajchmoomaaGreatDoorAvE
import Derived.Lib.Bytealg
import Derived.Lib.Index
import Derived.Lib.MapLaws
import Derived.KernelRfl
import Derived.Lib.TrailingZeros
namespace Go.Av
set_option linter.unusedSimpArgs false
set_option linter.unusedVariables false
section
def z162 (s:List UInt8) (c:UInt8):Int:=Lib.indexByte s c
def z7 (a b:List UInt8):Bool:=decide (a=b)
def z7_ok (a _b:List UInt8):Bool:=lenOk a
def z143 (s sep:List UInt8):Int:=Lib.index s sep
def qkJ (s sep:List UInt8):Bool:=lenOk s&&(lenOk sep&&decide (sep.length=1))
def z20 (b:List UInt8):List UInt8:=b
def qop (b:List UInt8):Bool:=lenOk b
def z60 (a b:List UInt8):Bool:=a==b
def z125 (s _:List UInt8):List UInt8:=s
def qqW (_ _:List UInt8):Bool:=false
def z126 (s _:List UInt8):List UInt8:=s
def qqX (_ _:List UInt8):Bool:=false
def z30 (c:UInt8):UInt8:=bif decide ((65:UInt8)≤c)&&decide (c≤(90:UInt8)) then c ||| 32 else c
def z37 (s:List UInt8):List UInt8:=s.map z30
def qio (s:List UInt8):Bool:=lenOk s
def z42 (a b:List UInt8):Bool:=a.map z30==b.map z30
def qkK (a b:List UInt8):Bool:=lenOk a&&lenOk b
end
section
def z17 (c:UInt8):UInt8:=z30 c
end
section
def z61 (n:Int):List (List UInt8) :=
 bif n==1 then [[117,115,45,97,115,99,105,105],[97,115,99,105,105],[97,110,115,105,95,120,51,46,52,45,49,57,54,56],[105,115,111,54,52,54,45,117,115]]
 else bif n==2 then [[105,115,111,45,56,56,53,57,45,49],[105,115,111,95,56,56,53,57,45,49],[108,97,116,105,110,49],[108,49]]
 else bif n==3 then [[105,115,111,45,56,56,53,57,45,49,53],[105,115,111,95,56,56,53,57,45,49,53],[108,97,116,105,110,45,57]]
 else bif n==4 then [[119,105,110,100,111,119,115,45,49,50,53,50],[99,112,49,50,53,50]]
 else bif n==5 then [[117,116,102,45,56],[117,116,102,56]] else []
def z44:List (List UInt8×Int) :=
 ([1,2,3,4,5]:List Int).flatMap fun n=>(z61 n).map fun s=>(s,n)
def z90 (s:List UInt8) (c:UInt8):Int:=Lib.indexByte s c
def z62 (s:List UInt8) (c:UInt8):Int:=Lib.indexByte s c
def z8 (s:List UInt8):List UInt8:=z37 s
def z8_ok (s:List UInt8):Bool:=lenOk s
end
section
def z43 (s:List Int):List Int:=s
def qsq (s:List Int):Bool:=lenOk s
end
section
abbrev qN:=List UInt8×(Int×(Bool×(List UInt8×Unit)))
abbrev PutT:=Bool×(List UInt8×List (List UInt8))
end
section
set_option linter.unusedSimpArgs false
end
section
def z82 (s:List UInt8):List UInt8:=s
def qsr (s:List UInt8):Bool:=lenOk s
def qw (name:List UInt8) (f:qN→Bool):List qN→Option Nat
 | []=>none
 | p :: r=>bif z42 p.1 name&&f p then some 0 else (qw name f r).map (· + 1)
def numP (n:Int) (p:qN):Bool:=p.2.1==n
def extP (p:qN):Bool:=(p.2.1 == -1)&&p.2.2.1
def qav (p:qN):Bool:=(p.2.1 == -1) && !p.2.2.1
def numsP (l:List qN) (name:List UInt8):Nat→Int→List Int
 | 0,_=>[]
 | k+1,n=>match qw name (numP n) l with
  | some i=>(i:Int) :: numsP l name k (n+1)
  | none=>[]
def usedP (l:List qN) (name:List UInt8):List Int :=
 match qw name extP l with
 | some i=>[(i:Int)]
 | none=>match numsP l name 1001 0,qw name qav l with
  | [],some i=>[(i:Int)]
  | o,_=>o
def z56 (l:List qN) (name:List UInt8):List Int:=usedP l name
def psOk (l:List qN):Bool:=decide (l.length≤1048576)&&l.all fun p=>lenOk p.1&&(lenOk p.2.2.2.1&&decide (-1≤p.2.1∧p.2.1 < 1000))
def qoq (l:List qN) (name:List UInt8):Bool:=psOk l&&lenOk name
end
section
abbrev CtT:=List UInt8×(List UInt8×(List (List UInt8×(List Int×Unit))×Unit))
def z10 (t:CtT):CtT:=t
def qim (t:CtT):Bool:=lenOk t.2.2.1
def farP (p:List UInt8×(List Int×Unit)):Bool:=decide ((100:Int) < (p.1.length:Nat))||decide ((80:Int) < (p.2.1.length:Nat))
def z5 (t:CtT):Bool :=
 (t.2.2.1.take 6).any farP||(decide ((6:Int) < (t.2.2.1.length:Nat))||(decide ((100:Int) < (t.1.length:Nat))||decide ((100:Int) < (t.2.1.length:Nat))))
def sameC:List UInt8→List UInt8→Bool
 | [],[]=>true
 | x :: s,c :: t=>decide (c.toNat < 128)&&((z30 x==z30 c)&&sameC s t)
 | _,_=>false
def z18 (s text:List UInt8):Bool:=sameC s text
def qgE (s text:List UInt8):Bool:=lenOk s&&lenOk text
def z9 (t:CtT) (a b:List UInt8):Bool:=sameC t.1 a&&sameC t.2.1 b
def z9_ok (t:CtT) (a b:List UInt8):Bool:=(lenOk t.1&&lenOk a)&&(lenOk t.2.1&&lenOk b)
def z6:Bool:=true
def z3 (_:CtT) (_ _:List UInt8):Bool:=true
end
end Go.Av
