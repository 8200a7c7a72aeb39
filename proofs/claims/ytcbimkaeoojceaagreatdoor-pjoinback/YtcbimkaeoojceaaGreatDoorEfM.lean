import Derived.Test.YtcbimkaeoojceaaGreatDoorEtM
namespace Go.Av
set_option linter.unusedSimpArgs false
set_option linter.unusedVariables false
def hexD:LU:=[48,49,50,51,52,53,54,55,56,57,65,66,67,68,69,70]
def qaK (n:Int):Bool:=decide (-9223372036854775808≤n∧n≤9223372036854775807)
def z107 (n:Int):UInt8:=List.getD hexD (Int.toNat (n % 16)) 0
def qdY (n:Int):Bool:=decide (-9223372036854775808≤n∧n≤9223372036854775807)
def z138 (c:UInt8):Int×Bool :=
 bif z77 (z44 c) 8 then ((((z44 c) - (48:UInt8)).toNat:Int),true)
 else bif decide ((97:UInt8)≤z44 c)&&decide (z44 c≤(102:UInt8)) then ((((z44 c) - (97:UInt8)).toNat:Int)+10,true) else (0,false)
def z130 (a b:UInt8):UInt8×Bool :=
 bif (z138 a).2&&(z138 b).2 then (UInt8.ofNat (Int.toNat ((z138 a).1*16+(z138 b).1)),true) else (0,false)
def qZ (c:UInt8):LU:=[List.getD hexD (c.toNat / 16) 0,List.getD hexD (c.toNat % 16) 0]
def qwQ (s:LU) (i:Nat) (sign:UInt8):UInt8×Bool :=
 bif List.getD s i 0==sign then z130 (List.getD s (i+1) 0) (List.getD s (i+2) 0) else (0,false)
def z113 (s:LU) (at1:Int) (sign:UInt8):UInt8×Bool :=
 bif decide (0≤at1)&&decide (at1≤(s.length:Int) - 3) then qwQ s at1.toNat sign else (0,false)
def qqP (s:LU) (_:Int) (_:UInt8):Bool:=lenOk s
def z88 (b:LU) (sign c:UInt8):LU:=b++sign :: qZ c
def qHZ (b:LU) (_ _:UInt8):Bool:=lenOk b
def qdd (c:Int):Bool:=decide (55296≤c)&&decide (c≤57343)
def qS (c:Int):Bool:=decide (IntKind.wrap .u32 c≤1114111) && !(qdd c)
def z34 (c:Int):Bool:=decide (55296≤c)&&decide (c≤57343)
def z21 (c:Int):Bool:=decide (0≤c)&&(decide (c≤1114111) && !(z34 c))
def qD (p:Int→Bool):LI→Int→Int
 | [],_ => -1
 | x :: r,i=>bif p x then qD p r (i+1) else i
def qv (s:LI) (v:Int):Int:=qD (fun x => !(v==x)) s 0
def qR (t:LI):Bool:=qD qS t 0 == -1
def qau (c:Int):Int:=bif !(qS c) then 0 else bif decide (c < 128) then 1 else bif decide (c < 2048) then 2 else bif decide (c < 65536) then 3 else 4
def z118 (n:Int):UInt8:=bif n==2 then 192 else bif n==3 then 224 else bif n==4 then 240 else 0
def oct8 (n:Int):UInt8:=UInt8.ofNat (Int.toNat (IntKind.wrap .u8 n))
def foll (n:Int):UInt8:=128 ||| (oct8 n &&& 63)
def qde (b:LU) (c:Int):LU×Int :=
 bif qau c==0 then ([],7)
 else (b++(bif qau c==4 then [240 ||| oct8 (Int.fdiv c (2 ^ 18)),foll (Int.fdiv c (2 ^ 12)),foll (Int.fdiv c (2 ^ 6)),foll c]
  else bif qau c==3 then [224 ||| oct8 (Int.fdiv c (2 ^ 12)),foll (Int.fdiv c (2 ^ 6)),foll c]
  else bif qau c==2 then [192 ||| oct8 (Int.fdiv c (2 ^ 6)),foll c]
  else [0 ||| oct8 (Int.fdiv c (2 ^ 0))]),0)
def z87 (c:Int):LU :=
 bif !(z21 c) then []
 else bif decide (c < 128) then [oct8 c]
 else bif decide (c < 2048) then [oct8 (192+c / 64),oct8 (128+c % 64)]
 else bif decide (c < 65536) then [oct8 (224+c / 4096),oct8 (128+c / 64 % 64),oct8 (128+c % 64)]
 else [oct8 (240+c / 262144),oct8 (128+c / 4096 % 64),oct8 (128+c / 64 % 64),oct8 (128+c % 64)]
def z114:List (UInt8×(Int×Unit)):=[(164,(8364,())),(166,(352,())),(168,(353,())),(180,(381,())),(184,(382,())),(188,(338,())),(189,(339,())),(190,(376,()))]
def qr (c:Int):UInt8×Bool :=
 bif c==8364 then (164,true) else bif c==164 then (0,false) else bif c==352 then (166,true) else bif c==166 then (0,false)
 else bif c==353 then (168,true) else bif c==168 then (0,false) else bif c==381 then (180,true) else bif c==180 then (0,false)
 else bif c==382 then (184,true) else bif c==184 then (0,false) else bif c==338 then (188,true) else bif c==188 then (0,false)
 else bif c==339 then (189,true) else bif c==189 then (0,false) else bif c==376 then (190,true) else bif c==190 then (0,false)
 else bif decide (c < 0)||decide (256≤c) then (0,false) else (oct8 c,true)
def qdv (c:Int):Bool:=(qr c).2
def z115:LI:=[8364,0,8218,402,8222,8230,8224,8225,710,8240,352,8249,338,0,381,0,0,8216,8217,8220,8221,8226,8211,8212,732,8482,353,8250,339,0,382,376]
def qC (c:Int):UInt8×Bool :=
 bif (decide (0≤c)&&decide (c < 128))||(decide (160≤c)&&decide (c < 256)) then (oct8 c,true)
 else bif decide (c < 256) then (0,false)
 else bif decide (qv z115 c < 0) then (0,false) else (oct8 (IntKind.wrap .i64 (128+qv z115 c)),true)
def qil (c:Int):Bool:=(qC c).2
def qej (t:LI):Int:=qD qil t 0
def qaT (c:Int):Bool:=decide (IntKind.wrap .u32 c < 256)
def qbv (t:LI):Int:=qD qaT t 0
def qA (t:LI):LU×Int:=bif qbv t != -1 then ([],9) else (t.map fun c=>UInt8.ofNat (IntKind.wrap .u8 c).toNat,0)
def qcn (t:LI):LU×Int:=bif t.all qdv then (t.map fun c=>(qr c).1,0) else ([],9)
def qdf (t:LI):LU×Int:=bif decide (0≤qej t) then ([],9) else (t.map fun c=>(qC c).1,0)
def qco (t:LI):LU×Int:=bif !(qR t) then ([],7) else (t.flatMap fun c=>(qde [] c).1,0)
def z104 (x:UInt8):Int:=IntKind.wrap .i32 (UInt8.toNat x:Nat)
def z84 (c:Int):UInt8×Bool:=bif decide (0≤c)&&decide (c < 256) then (UInt8.ofNat c.toNat,true) else (0,false)
def z105 (x:UInt8):Int :=
 bif x==164 then 8364 else bif x==166 then 352 else bif x==168 then 353 else bif x==180 then 381 else bif x==184 then 382 else bif x==188 then 338
 else bif x==189 then 339 else bif x==190 then 376 else (x.toNat:Int)
def z85 (c:Int):UInt8×Bool:=qr c
def qIa:LI:=[8364,65533,8218,402,8222,8230,8224,8225,710,8240,352,8249,338,65533,381,65533,65533,8216,8217,8220,8221,8226,8211,8212,732,8482,353,8250,339,65533,382,376]
def z106 (x:UInt8):Int:=bif decide (x < 128)||decide (159 < x) then (x.toNat:Int) else List.getD qIa (x.toNat - 128) 0
def z86 (c:Int):UInt8×Bool:=qC c
def qap (cs c:Int):Bool :=
 bif cs==1 then decide (0≤c)&&decide (c < 128) else bif cs==2 then qaT c else bif cs==3 then qdv c else bif cs==4 then qil c else bif cs==5 then qS c else false
def qjB (cs:Int) (t:LI):Int:=qD (qap cs) t 0
def qcp (cs:Int):Int:=bif cs==1 then 128 else bif cs==2 then 256 else bif cs==3 then 256 else bif cs==4 then 251 else bif cs==5 then 1112064 else 0
def qkM (cs:Int) (t:LI):Bool:=decide (0 < qcp cs)&&(qjB cs t == -1)
def qbW (cs:Int) (t:LI):LU×Int :=
 bif qcp cs==0 then ([],10) else bif !(qkM cs t) then ([],9)
 else bif cs==5 then qco t else bif cs==3 then qcn t else bif cs==4 then qdf t else qA t
def z83 (cs c:Int):Bool :=
 bif cs==1 then decide (0≤c)&&decide (c < 128) else bif cs==2 then (z84 c).2 else bif cs==3 then (z85 c).2 else bif cs==4 then (z86 c).2 else bif cs==5 then z21 c else false
def z62 (cs c:Int):LU :=
 bif !(z83 cs c) then [] else bif cs==1 then [oct8 c] else bif cs==2 then [(z84 c).1] else bif cs==3 then [(z85 c).1] else bif cs==4 then [(z86 c).1] else z87 c
def i32s (t:LI):Bool:=t.all fun c=>decide (-2147483648≤c∧c≤2147483647)
def z39 (cs:Int) (t:LI):LU×Int :=
 bif decide (cs < 1)||decide (5 < cs) then ([],10)
 else bif t.all (fun c=>(z62 cs c).length != 0) then (t.flatMap (z62 cs),0) else ([],9)
def qBT (_:Int) (t:LI):Bool:=lenOk t
def z90 (n:Int):List LU :=
 bif n==1 then [[117,115,45,97,115,99,105,105],[97,115,99,105,105],[97,110,115,105,95,120,51,46,52,45,49,57,54,56],[105,115,111,54,52,54,45,117,115]]
 else bif n==2 then [[105,115,111,45,56,56,53,57,45,49],[105,115,111,95,56,56,53,57,45,49],[108,97,116,105,110,49],[108,49]]
 else bif n==3 then [[105,115,111,45,56,56,53,57,45,49,53],[105,115,111,95,56,56,53,57,45,49,53],[108,97,116,105,110,45,57]]
 else bif n==4 then [[119,105,110,100,111,119,115,45,49,50,53,50],[99,112,49,50,53,50]]
 else bif n==5 then [[117,116,102,45,56],[117,116,102,56]] else []
def qe (n:Int):LU:=List.getD (z90 n) 0 []
def z42 (n:Int):List LU:=z90 n
def z27 (n:Int):LU:=qe n
def qim (l:LI):Int:=l.foldl (fun n b=>IntKind.wrap .i64 (IntKind.wrap .i64 (2*n)+b)) 0
def qtZ (n:Int):UInt8 :=
 let k:=Int.tmod (IntKind.wrap .i64 (Int.tmod n 64+64)) 64
 bif decide (k < 26) then oct8 (IntKind.wrap .i64 (65+k)) else bif decide (k < 52) then oct8 (IntKind.wrap .i64 (IntKind.wrap .i64 (97+k) - 26))
 else bif decide (k < 62) then oct8 (IntKind.wrap .i64 (IntKind.wrap .i64 (48+k) - 52)) else bif k==62 then 43 else 47
def bit8 (c:UInt8) (k:Nat):Int:=Int.tmod (IntKind.wrap .i64 ((UInt8.toNat (UInt8.ofNat (UInt8.toNat c / 2 ^ (min k 8))):Nat):Int)) 2
def qmN (c:UInt8):LI:=[bit8 c 7,bit8 c 6,bit8 c 5,bit8 c 4,bit8 c 3,bit8 c 2,bit8 c 1,bit8 c 0]
def qeR (s:LU):LI:=s.flatMap qmN
def sixes:Nat→LI→LU
 | 0,_=>[]
 | n+1,l=>qtZ (qim (l.take 6)) :: sixes n (l.drop 6)
def qp (c:UInt8):Nat:=bif decide (c < 128) then 1 else bif decide (c < 194)||decide (244 < c) then 0 else bif decide (c < 224) then 2 else bif decide (c < 240) then 3 else 4
def z117 (c:UInt8):Int:=(qp c:Nat)
def z131 (c:UInt8):Bool:=decide (128≤c)&&decide (c < 192)
def z132 (f c:UInt8):Bool :=
 bif f==224 then decide (160≤c)&&z131 c else bif f==237 then decide (c < 160)&&z131 c
 else bif f==240 then decide (144≤c)&&z131 c else bif f==244 then decide (c < 144)&&z131 c else z131 c
def runB (f:UInt8):Nat→Bool→LU→Nat
 | 0,_,_=>0
 | _,_,[]=>0
 | n+1,one,x :: r=>bif z131 x&&(!one||z132 f x) then runB f n false r+1 else 0
def farN:LU→Nat
 | []=>0
 | x :: r=>bif qp x==0 then 0 else 1+runB x (qp x - 1) true r
def z116 (s:LU):Int:=(farN s:Nat)
def qjC (s:LU):Bool:=lenOk s && !(s.isEmpty)
def signN (n:Nat):LU→Int
 | []=>0
 | x :: r=>(r.take (n - 1)).foldl (fun c y=>c*64+((y &&& 63).toNat:Int)) (((x &&& (255 ^^^ (z118 (n:Nat)))).toNat:Nat):Int)
def z98 (s:LU):Int×(Int×Int) :=
 match s with
 | []=>(0,0,4)
 | x :: r=>bif farN (x :: r)==0 then (0,1,3) else bif decide (farN (x :: r) < qp x)&&(farN (x :: r)==(x :: r).length) then (0,(farN (x :: r):Nat),4)
  else bif decide (farN (x :: r) < qp x) then (0,(farN (x :: r):Nat),3) else (signN (farN (x :: r)) (x :: r),(farN (x :: r):Nat),0)
def qBU (s:LU):Bool:=lenOk s
def utfR:Nat→LU→LI
 | 0,_=>[]
 | _,[]=>[]
 | n+1,s=>(bif (z98 s).2.2 != 0 then 65533 else (z98 s).1) :: utfR n (s.drop (z98 s).2.1.toNat)
def z51 (s:LU):LI:=utfR (s.length+1) s
def qua (s:LU):Bool:=lenOk s
def z72 (s:LU):LI:=s.map fun c=>(c.toNat:Int)
def qub (s:LU):Bool:=lenOk s
def z96 (c:UInt8):Int:=z105 c
def z70 (s:LU):LI:=s.map z105
def qBV (s:LU):Bool:=lenOk s
def z97 (c:UInt8):Int:=z106 c
def z71 (s:LU):LI:=s.map z106
def qBW (s:LU):Bool:=lenOk s
def z95 (c:Int):Int:=bif decide (128≤c) then 65533 else c
def z69 (s:LU):LI:=s.map fun c=>z95 (c.toNat:Int)
def qBX (s:LU):Bool:=lenOk s
def z50 (cs:Int) (s:LU):LI:=bif cs==1 then z69 s else bif cs==3 then z70 s else bif cs==4 then z71 s else bif cs==5 then z51 s else z72 s
def qBY (_:Int) (s:LU):Bool:=lenOk s
def z66:List (LU×Int) :=
 ([1,2,3,4,5]:LI).flatMap fun n=>(z90 n).map fun s=>(s,n)
def z67 (s:LU):LU:=z92 (s.takeWhile fun c=>c != 42)
def qBZ (s:LU):Bool:=lenOk s
def qCa (s:LU):List (LU×Int)→Option Int
 | []=>none
 | p :: l=>bif s==p.1 then some p.2 else qCa s l
def z47 (s:LU):Int×Int :=
 match qCa (z28 (z67 s)) z66 with
 | some n=>(n,0)
 | none=>(0,10)
def qCb (s:LU):Bool:=lenOk s
def b64D:LU:=[65,66,67,68,69,70,71,72,73,74,75,76,77,78,79,80,81,82,83,84,85,86,87,88,89,90,97,98,99,100,101,102,103,104,105,106,107,108,109,110,111,112,113,114,115,116,117,118,119,120,121,122,48,49,50,51,52,53,54,55,56,57,43,47]
def qfJ (n:Int):UInt8:=List.getD b64D (Int.toNat (n % 64)) 0
def qfK (c:UInt8):Int×Bool:=bif decide (Lib.indexByte b64D c < 0) then (0,false) else (Lib.indexByte b64D c,true)
def qgA (n:Int):LI:=[n / 32 % 2,n / 16 % 2,n / 8 % 2,n / 4 % 2,n / 2 % 2,n % 2]
def bitsB (s:LU):LI:=s.flatMap fun c=>qgA (qfK c).1
def octs:Nat→LI→LU
 | 0,_=>[]
 | n+1,l=>oct8 (qim (l.take 8)) :: octs n (l.drop 8)
def z111 (s:LU) (c:UInt8):Int:=Lib.indexByte s c
def z91 (s:LU) (c:UInt8):Int:=Lib.indexByte s c
def z102 (s t:LU):Bool:=bif decide (t.length≤s.length) then s.drop (s.length - t.length)==t else false
def qqQ (s _:LU):Bool:=lenOk s
def z74 (c e:Int) (t:LI):LI:=t++[bif e != 0 then 65533 else c]
def qCc (_ _:Int) (t:LI):Bool:=decide (t.length≤2097152)
def qIb (s:LU) (t:LI):LI:=t++utfR (s.length+1) s
def qdw (s:LU) (t:LI):Bool:=lenOk s&&decide (t.length≤1048576)
def z9 (s:LU):LU:=z28 s
def z9_ok (s:LU):Bool:=lenOk s
def z10 (a b:LI):Bool:=decide (a=b)
def quc (a _b:LI):Bool:=lenOk a
end Go.Av
