import Derived.Test.YtcbimkaeoojceaaGreatDoorEtM
namespace Go.Av
set_option linter.unusedVariables false
set_option linter.unusedSimpArgs false
def z138 (c:UInt8):Int×Bool :=
 bif z77 (z44 c) 8 then ((((z44 c) - (48:UInt8)).toNat:Int),true)
 else bif decide ((97:UInt8)≤z44 c)&&decide (z44 c≤(102:UInt8)) then ((((z44 c) - (97:UInt8)).toNat:Int)+10,true) else (0,false)
def z130 (a b:UInt8):UInt8×Bool :=
 bif (z138 a).2&&(z138 b).2 then (UInt8.ofNat (Int.toNat ((z138 a).1*16+(z138 b).1)),true) else (0,false)
def qzX (s:List UInt8) (i:Nat) (sign:UInt8):UInt8×Bool :=
 bif List.getD s i 0==sign then z130 (List.getD s (i+1) 0) (List.getD s (i+2) 0) else (0,false)
def z113 (s:List UInt8) (at1:Int) (sign:UInt8):UInt8×Bool :=
 bif decide (0≤at1)&&decide (at1≤(s.length:Int) - 3) then qzX s at1.toNat sign else (0,false)
def qnp (s:List UInt8) (_:Int) (_:UInt8):Bool:=lenOk s
def z34 (c:Int):Bool:=decide (55296≤c)&&decide (c≤57343)
def z21 (c:Int):Bool:=decide (0≤c)&&(decide (c≤1114111) && !(z34 c))
def qdf (p:Int→Bool):List Int→Int→Int
 | [],_ => -1
 | x :: r,i=>bif p x then qdf p r (i+1) else i
def z118 (n:Int):UInt8:=bif n==2 then 192 else bif n==3 then 224 else bif n==4 then 240 else 0
def oct8 (n:Int):UInt8:=UInt8.ofNat (Int.toNat (IntKind.wrap .u8 n))
def z114:List (UInt8×(Int×Unit)):=[(164,(8364,())),(166,(352,())),(168,(353,())),(180,(381,())),(184,(382,())),(188,(338,())),(189,(339,())),(190,(376,()))]
def z115:List Int:=[8364,0,8218,402,8222,8230,8224,8225,710,8240,352,8249,338,0,381,0,0,8216,8217,8220,8221,8226,8211,8212,732,8482,353,8250,339,0,382,376]
def z105 (x:UInt8):Int :=
 bif x==164 then 8364 else bif x==166 then 352 else bif x==168 then 353 else bif x==180 then 381 else bif x==184 then 382 else bif x==188 then 338
 else bif x==189 then 339 else bif x==190 then 376 else (x.toNat:Int)
def qzY:List Int:=[8364,65533,8218,402,8222,8230,8224,8225,710,8240,352,8249,338,65533,381,65533,65533,8216,8217,8220,8221,8226,8211,8212,732,8482,353,8250,339,65533,382,376]
def z106 (x:UInt8):Int:=bif decide (x < 128)||decide (159 < x) then (x.toNat:Int) else List.getD qzY (x.toNat - 128) 0
def z90 (n:Int):List (List UInt8) :=
 bif n==1 then [[117,115,45,97,115,99,105,105],[97,115,99,105,105],[97,110,115,105,95,120,51,46,52,45,49,57,54,56],[105,115,111,54,52,54,45,117,115]]
 else bif n==2 then [[105,115,111,45,56,56,53,57,45,49],[105,115,111,95,56,56,53,57,45,49],[108,97,116,105,110,49],[108,49]]
 else bif n==3 then [[105,115,111,45,56,56,53,57,45,49,53],[105,115,111,95,56,56,53,57,45,49,53],[108,97,116,105,110,45,57]]
 else bif n==4 then [[119,105,110,100,111,119,115,45,49,50,53,50],[99,112,49,50,53,50]]
 else bif n==5 then [[117,116,102,45,56],[117,116,102,56]] else []
def qgw (l:List Int):Int:=l.foldl (fun n b=>IntKind.wrap .i64 (IntKind.wrap .i64 (2*n)+b)) 0
def qpA (n:Int):UInt8 :=
 let k:=Int.tmod (IntKind.wrap .i64 (Int.tmod n 64+64)) 64
 bif decide (k < 26) then oct8 (IntKind.wrap .i64 (65+k)) else bif decide (k < 52) then oct8 (IntKind.wrap .i64 (IntKind.wrap .i64 (97+k) - 26))
 else bif decide (k < 62) then oct8 (IntKind.wrap .i64 (IntKind.wrap .i64 (48+k) - 52)) else bif k==62 then 43 else 47
def bit8 (c:UInt8) (k:Nat):Int:=Int.tmod (IntKind.wrap .i64 ((UInt8.toNat (UInt8.ofNat (UInt8.toNat c / 2 ^ (min k 8))):Nat):Int)) 2
def qki (c:UInt8):List Int:=[bit8 c 7,bit8 c 6,bit8 c 5,bit8 c 4,bit8 c 3,bit8 c 2,bit8 c 1,bit8 c 0]
def qdL (s:List UInt8):List Int:=s.flatMap qki
def sixes:Nat→List Int→List UInt8
 | 0,_=>[]
 | n+1,l=>qpA (qgw (l.take 6)) :: sixes n (l.drop 6)
def qe (c:UInt8):Nat:=bif decide (c < 128) then 1 else bif decide (c < 194)||decide (244 < c) then 0 else bif decide (c < 224) then 2 else bif decide (c < 240) then 3 else 4
def z117 (c:UInt8):Int:=(qe c:Nat)
def z131 (c:UInt8):Bool:=decide (128≤c)&&decide (c < 192)
def z132 (f c:UInt8):Bool :=
 bif f==224 then decide (160≤c)&&z131 c else bif f==237 then decide (c < 160)&&z131 c
 else bif f==240 then decide (144≤c)&&z131 c else bif f==244 then decide (c < 144)&&z131 c else z131 c
def runB (f:UInt8):Nat→Bool→List UInt8→Nat
 | 0,_,_=>0
 | _,_,[]=>0
 | n+1,one,x :: r=>bif z131 x&&(!one||z132 f x) then runB f n false r+1 else 0
def farN:List UInt8→Nat
 | []=>0
 | x :: r=>bif qe x==0 then 0 else 1+runB x (qe x - 1) true r
def z116 (s:List UInt8):Int:=(farN s:Nat)
def qhx (s:List UInt8):Bool:=lenOk s && !(s.isEmpty)
def signN (n:Nat):List UInt8→Int
 | []=>0
 | x :: r=>(r.take (n - 1)).foldl (fun c y=>c*64+((y &&& 63).toNat:Int)) (((x &&& (255 ^^^ (z118 (n:Nat)))).toNat:Nat):Int)
def z98 (s:List UInt8):Int×(Int×Int) :=
 match s with
 | []=>(0,0,4)
 | x :: r=>bif farN (x :: r)==0 then (0,1,3) else bif decide (farN (x :: r) < qe x)&&(farN (x :: r)==(x :: r).length) then (0,(farN (x :: r):Nat),4)
  else bif decide (farN (x :: r) < qe x) then (0,(farN (x :: r):Nat),3) else (signN (farN (x :: r)) (x :: r),(farN (x :: r):Nat),0)
def qvE (s:List UInt8):Bool:=lenOk s
def utfR:Nat→List UInt8→List Int
 | 0,_=>[]
 | _,[]=>[]
 | n+1,s=>(bif (z98 s).2.2 != 0 then 65533 else (z98 s).1) :: utfR n (s.drop (z98 s).2.1.toNat)
def z51 (s:List UInt8):List Int:=utfR (s.length+1) s
def qpB (s:List UInt8):Bool:=lenOk s
def z72 (s:List UInt8):List Int:=s.map fun c=>(c.toNat:Int)
def qpC (s:List UInt8):Bool:=lenOk s
def z96 (c:UInt8):Int:=z105 c
def z70 (s:List UInt8):List Int:=s.map z105
def qvF (s:List UInt8):Bool:=lenOk s
def z97 (c:UInt8):Int:=z106 c
def z71 (s:List UInt8):List Int:=s.map z106
def qvG (s:List UInt8):Bool:=lenOk s
def z95 (c:Int):Int:=bif decide (128≤c) then 65533 else c
def z69 (s:List UInt8):List Int:=s.map fun c=>z95 (c.toNat:Int)
def qvH (s:List UInt8):Bool:=lenOk s
def z50 (cs:Int) (s:List UInt8):List Int:=bif cs==1 then z69 s else bif cs==3 then z70 s else bif cs==4 then z71 s else bif cs==5 then z51 s else z72 s
def qvI (_:Int) (s:List UInt8):Bool:=lenOk s
def z66:List (List UInt8×Int) :=
 ([1,2,3,4,5]:List Int).flatMap fun n=>(z90 n).map fun s=>(s,n)
def z67 (s:List UInt8):List UInt8:=z92 (s.takeWhile fun c=>c != 42)
def qvJ (s:List UInt8):Bool:=lenOk s
def qvK (s:List UInt8):List (List UInt8×Int)→Option Int
 | []=>none
 | p :: l=>bif s==p.1 then some p.2 else qvK s l
def z47 (s:List UInt8):Int×Int :=
 match qvK (z28 (z67 s)) z66 with
 | some n=>(n,0)
 | none=>(0,10)
def qvL (s:List UInt8):Bool:=lenOk s
def b64D:List UInt8:=[65,66,67,68,69,70,71,72,73,74,75,76,77,78,79,80,81,82,83,84,85,86,87,88,89,90,97,98,99,100,101,102,103,104,105,106,107,108,109,110,111,112,113,114,115,116,117,118,119,120,121,122,48,49,50,51,52,53,54,55,56,57,43,47]
def qet (n:Int):UInt8:=List.getD b64D (Int.toNat (n % 64)) 0
def qeu (c:UInt8):Int×Bool:=bif decide (Lib.indexByte b64D c < 0) then (0,false) else (Lib.indexByte b64D c,true)
def qeW (n:Int):List Int:=[n / 32 % 2,n / 16 % 2,n / 8 % 2,n / 4 % 2,n / 2 % 2,n % 2]
def bitsB (s:List UInt8):List Int:=s.flatMap fun c=>qeW (qeu c).1
def octs:Nat→List Int→List UInt8
 | 0,_=>[]
 | n+1,l=>oct8 (qgw (l.take 8)) :: octs n (l.drop 8)
def z111 (s:List UInt8) (c:UInt8):Int:=Lib.indexByte s c
def z91 (s:List UInt8) (c:UInt8):Int:=Lib.indexByte s c
def z102 (s t:List UInt8):Bool:=bif decide (t.length≤s.length) then s.drop (s.length - t.length)==t else false
def qnq (s _:List UInt8):Bool:=lenOk s
def z74 (c e:Int) (t:List Int):List Int:=t++[bif e != 0 then 65533 else c]
def qvM (_ _:Int) (t:List Int):Bool:=decide (t.length≤2097152)
def qzZ (s:List UInt8) (t:List Int):List Int:=t++utfR (s.length+1) s
def qcA (s:List UInt8) (t:List Int):Bool:=lenOk s&&decide (t.length≤1048576)
def z10 (a b:List Int):Bool:=decide (a=b)
def qpD (a _b:List Int):Bool:=lenOk a
end Go.Av
