import Derived.Test.YtnfehbljinflbaaGreatDoorRRRREtM
namespace Go.Av
def hexD:LU:=[48,49,50,51,52,53,54,55,56,57,65,66,67,68,69,70]
def z139 (n:Int):UInt8:=List.getD hexD (Int.toNat (n % 16)) 0
def qlv (n:Int):Bool:=decide (-9223372036854775808≤n∧n≤9223372036854775807)
def z175 (c:UInt8):Int×Bool :=
 bif z36 (z118 c) 8 then ((((z118 c) - (48:UInt8)).toNat:Int),true)
 else bif decide ((97:UInt8)≤z118 c)&&decide (z118 c≤(102:UInt8)) then ((((z118 c) - (97:UInt8)).toNat:Int)+10,true) else (0,false)
def qrK:Nat→Int→UInt8→Int×Bool
 | 0,_,_=>(0,false)
 | d+1,n,c=>bif z139 n==c then (n,true) else bif decide ((10:Int)≤n)&&(z139 n+32==c) then (n,true) else qrK d (n+1) c
def z112 (c:UInt8):Int×Bool:=qrK 16 0 c
def z167 (a b:UInt8):UInt8×Bool :=
 bif (z175 a).2&&(z175 b).2 then (UInt8.ofNat (Int.toNat ((z175 a).1*16+(z175 b).1)),true) else (0,false)
def qpt (s:LU) (i:Nat) (sign:UInt8):UInt8×Bool :=
 bif List.getD s i 0==sign then z167 (List.getD s (i+1) 0) (List.getD s (i+2) 0) else (0,false)
def z144 (s:LU) (at1:Int) (sign:UInt8):UInt8×Bool :=
 bif decide (0≤at1)&&decide (at1≤(s.length:Int) - 3) then qpt s at1.toNat sign else (0,false)
def quh (s:LU) (_:Int) (_:UInt8):Bool:=lenOk s
def z73 (s:LU) (at1:Int) (sign:UInt8):UInt8×Bool:=z144 s at1 sign
def qFv (s:LU) (_:Int) (_:UInt8):Bool:=lenOk s
def z133 (n:Int):UInt8:=bif n==2 then 192 else bif n==3 then 224 else bif n==4 then 240 else 0
def oct8 (n:Int):UInt8:=UInt8.ofNat (Int.toNat (IntKind.wrap .u8 n))
def z161:List (UInt8×(Int×Unit)):=[(164,(8364,())),(166,(352,())),(168,(353,())),(180,(381,())),(184,(382,())),(188,(338,())),(189,(339,())),(190,(376,()))]
def z162:LI:=[8364,0,8218,402,8222,8230,8224,8225,710,8240,352,8249,338,0,381,0,0,8216,8217,8220,8221,8226,8211,8212,732,8482,353,8250,339,0,382,376]
def z74 (x:UInt8):Int :=
 bif x==164 then 8364 else bif x==166 then 352 else bif x==168 then 353 else bif x==180 then 381 else bif x==184 then 382 else bif x==188 then 338
 else bif x==189 then 339 else bif x==190 then 376 else (x.toNat:Int)
def qLJ:LI:=[8364,65533,8218,402,8222,8230,8224,8225,710,8240,352,8249,338,65533,381,65533,65533,8216,8217,8220,8221,8226,8211,8212,732,8482,353,8250,339,65533,382,376]
def z75 (x:UInt8):Int:=bif decide (x < 128)||decide (159 < x) then (x.toNat:Int) else List.getD qLJ (x.toNat - 128) 0
def z117 (n:Int):List LU :=
 bif n==1 then [[117,115,45,97,115,99,105,105],[97,115,99,105,105],[97,110,115,105,95,120,51,46,52,45,49,57,54,56],[105,115,111,54,52,54,45,117,115]]
 else bif n==2 then [[105,115,111,45,56,56,53,57,45,49],[105,115,111,95,56,56,53,57,45,49],[108,97,116,105,110,49],[108,49]]
 else bif n==3 then [[105,115,111,45,56,56,53,57,45,49,53],[105,115,111,95,56,56,53,57,45,49,53],[108,97,116,105,110,45,57]]
 else bif n==4 then [[119,105,110,100,111,119,115,45,49,50,53,50],[99,112,49,50,53,50]]
 else bif n==5 then [[117,116,102,45,56],[117,116,102,56]] else []
def z78 (n:Int):List LU:=z117 n
def z111 (l:LI):Int:=l.foldl (fun n b=>IntKind.wrap .i64 (IntKind.wrap .i64 (2*n)+b)) 0
def qfE (l:LI):Bool:=decide (l.length≤1048576)
def z138 (n:Int):UInt8 :=
 let k:=Int.tmod (IntKind.wrap .i64 (Int.tmod n 64+64)) 64
 bif decide (k < 26) then oct8 (IntKind.wrap .i64 (65+k)) else bif decide (k < 52) then oct8 (IntKind.wrap .i64 (IntKind.wrap .i64 (97+k) - 26))
 else bif decide (k < 62) then oct8 (IntKind.wrap .i64 (IntKind.wrap .i64 (48+k) - 52)) else bif k==62 then 43 else 47
def bit8 (c:UInt8) (k:Nat):Int:=Int.tmod (IntKind.wrap .i64 ((UInt8.toNat (UInt8.ofNat (UInt8.toNat c / 2 ^ (min k 8))):Nat):Int)) 2
def qpu (c:UInt8):LI:=[bit8 c 7,bit8 c 6,bit8 c 5,bit8 c 4,bit8 c 3,bit8 c 2,bit8 c 1,bit8 c 0]
def qfF (s:LU):LI:=s.flatMap qpu
def sixes:Nat→LI→LU
 | 0,_=>[]
 | n+1,l=>z138 (z111 (l.take 6)) :: sixes n (l.drop 6)
def qk (c:UInt8):Nat:=bif decide (c < 128) then 1 else bif decide (c < 194)||decide (244 < c) then 0 else bif decide (c < 224) then 2 else bif decide (c < 240) then 3 else 4
def z132 (c:UInt8):Int:=(qk c:Nat)
def z159 (c:UInt8):Bool:=decide (128≤c)&&decide (c < 192)
def z160 (f c:UInt8):Bool :=
 bif f==224 then decide (160≤c)&&z159 c else bif f==237 then decide (c < 160)&&z159 c
 else bif f==240 then decide (144≤c)&&z159 c else bif f==244 then decide (c < 144)&&z159 c else z159 c
def runB (f:UInt8):Nat→Bool→LU→Nat
 | 0,_,_=>0
 | _,_,[]=>0
 | n+1,one,x :: r=>bif z159 x&&(!one||z160 f x) then runB f n false r+1 else 0
def farN:LU→Nat
 | []=>0
 | x :: r=>bif qk x==0 then 0 else 1+runB x (qk x - 1) true r
def z131 (s:LU):Int:=(farN s:Nat)
def qlw (s:LU):Bool:=lenOk s && !(s.isEmpty)
def signN (n:Nat):LU→Int
 | []=>0
 | x :: r=>(r.take (n - 1)).foldl (fun c y=>c*64+((y &&& 63).toNat:Int)) (((x &&& (255 ^^^ (z133 (n:Nat)))).toNat:Nat):Int)
def z102 (s:LU):Int×(Int×Int) :=
 match s with
 | []=>(0,0,4)
 | x :: r=>bif farN (x :: r)==0 then (0,1,3) else bif decide (farN (x :: r) < qk x)&&(farN (x :: r)==(x :: r).length) then (0,(farN (x :: r):Nat),4)
  else bif decide (farN (x :: r) < qk x) then (0,(farN (x :: r):Nat),3) else (signN (farN (x :: r)) (x :: r),(farN (x :: r):Nat),0)
def qui (s:LU):Bool:=lenOk s
def utfR:Nat→LU→LI
 | 0,_=>[]
 | _,[]=>[]
 | n+1,s=>(bif (z102 s).2.2 != 0 then 65533 else (z102 s).1) :: utfR n (s.drop (z102 s).2.1.toNat)
def z38 (s:LU):LI:=utfR (s.length+1) s
def qhT (s:LU):Bool:=lenOk s
def z106 (s:LU):LI:=s.map fun c=>(c.toNat:Int)
def qlx (s:LU):Bool:=lenOk s
def z135 (c:UInt8):Int:=z74 c
def z104 (s:LU):LI:=s.map z74
def quj (s:LU):Bool:=lenOk s
def z136 (c:UInt8):Int:=z75 c
def z105 (s:LU):LI:=s.map z75
def quk (s:LU):Bool:=lenOk s
def z134 (c:Int):Int:=bif decide (128≤c) then 65533 else c
def z103 (s:LU):LI:=s.map fun c=>z134 (c.toNat:Int)
def qul (s:LU):Bool:=lenOk s
def z63 (cs:Int) (s:LU):LI:=bif cs==1 then z103 s else bif cs==3 then z104 s else bif cs==4 then z105 s else bif cs==5 then z38 s else z106 s
def qFw (_:Int) (s:LU):Bool:=lenOk s
def z81 (c:UInt8):Int:=z132 c
def z115 (c:UInt8):UInt8×UInt8:=bif c==224 then (160,191) else bif c==237 then (128,159) else bif c==240 then (144,191) else bif c==244 then (128,143) else (128,191)
def z80 (s:LU):Int:=(farN s:Nat)
def qFx (s:LU):Bool:=lenOk s
def z49 (s:LU):Int×(Int×Int):=z102 s
def qFy (s:LU):Bool:=lenOk s
def utfE:Nat→LU→Int×Int→Int×Int
 | 0,_,a=>a
 | _,[],a=>a
 | n+1,s,a=>utfE n (s.drop (z102 s).2.1.toNat) (bif (z102 s).2.2 != 0 then (a.1+1,bif a.2==0 then (z102 s).2.2 else a.2) else a)
def z27 (s:LU):LI×(Int×Int):=(z38 s,utfE (s.length+1) s (0,0))
def qwZ (s:LU):Bool:=lenOk s
def z45 (cs:Int) (s:LU):LI:=z63 cs s
def qxa (_:Int) (s:LU):Bool:=lenOk s
def z86:List (LU×Int) :=
 ([1,2,3,4,5]:LI).flatMap fun n=>(z117 n).map fun s=>(s,n)
def z88 (s:LU):LU:=z119 (s.takeWhile fun c=>c != 42)
def qFz (s:LU):Bool:=lenOk s
def qkY (s:LU):List (LU×Int)→Option Int
 | []=>none
 | p :: l=>bif s==p.1 then some p.2 else qkY s l
def z53 (s:LU):Int×Int :=
 match qkY (z87 (z88 s)) z86 with
 | some n=>(n,0)
 | none=>(0,10)
def qxb (s:LU):Bool:=lenOk s
def z77 (s:LU):LU:=z88 s
def qFA (s:LU):Bool:=lenOk s
def z46 (s:LU):Int×Int:=z53 s
def qxc (s:LU):Bool:=lenOk s
def b64D:LU:=[65,66,67,68,69,70,71,72,73,74,75,76,77,78,79,80,81,82,83,84,85,86,87,88,89,90,97,98,99,100,101,102,103,104,105,106,107,108,109,110,111,112,113,114,115,116,117,118,119,120,121,122,48,49,50,51,52,53,54,55,56,57,43,47]
def qgC (n:Int):UInt8:=List.getD b64D (Int.toNat (n % 64)) 0
def z121 (c:UInt8):Int×Bool:=bif decide (Lib.indexByte b64D c < 0) then (0,false) else (Lib.indexByte b64D c,true)
def z110 (c:UInt8):Int×Bool:=z121 c
def isB64 (c:UInt8):Bool:=(z121 c).2
def qbL (n:Int):LI:=[n / 32 % 2,n / 16 % 2,n / 8 % 2,n / 4 % 2,n / 2 % 2,n % 2]
def bitsB (s:LU):LI:=s.flatMap fun c=>qbL (z121 c).1
def z71 (s:LU):LI×Bool:=bif s.all isB64 then (bitsB s,true) else ([],false)
def qxd (s:LU):Bool:=lenOk s
def octs:Nat→LI→LU
 | 0,_=>[]
 | n+1,l=>oct8 (z111 (l.take 8)) :: octs n (l.drop 8)
def z72 (l:LI):LU×Bool:=(octs (l.length / 8) l,z111 (l.drop (l.length / 8*8))==0)
def qxe (l:LI):Bool:=decide (l.length≤16777216)
def bodyB (s:LU):LU :=
 let t:=bif s.getLast? == some 61 then s.dropLast else s
 bif t.getLast? == some 61&&(t.length != s.length) then t.dropLast else t
def z120 (s:LU):LU:=bodyB s
def qum (s:LU):Bool:=lenOk s
def z89 (s:LU):LU×Int :=
 bif !((bodyB s).all isB64) then ([],3) else bif s.length % 4 != 0 then ([],4) else bif !((z72 (bitsB (bodyB s))).2) then ([],3) else ((z72 (bitsB (bodyB s))).1,0)
def qFB (s:LU):Bool:=lenOk s
def z47 (s:LU):LU×Int:=z89 s
def qFC (s:LU):Bool:=lenOk s
def z54 (s:LU):Bool:=(z89 s).2==0
def qFD (s:LU):Bool:=lenOk s
def digB (s:LU):LU:=(s.takeWhile fun c=>c != 61).filter isB64
def z137 (s:LU):LU×Int:=((z72 (bitsB (digB s))).1,(((bitsB (digB s)).length % 8:Nat):Int))
def qun (s:LU):Bool:=lenOk s
def z107 (s:LU):LU:=(z137 s).1
def qup (s:LU):Bool:=lenOk s
def z70 (s:LU):LU×Int:=(digB s,((((s.takeWhile fun c=>c != 61).filter fun c => !(isB64 c)).length:Nat):Int))
def qFE (s:LU):Bool:=lenOk s
def z43 (s:LU):LU×Int:=z137 s
def qFF (s:LU):Bool:=lenOk s
def qwS:Nat→LU→LU×Nat
 | _,[]=>([],0)
 | k+1,_ :: r=>qwS k r
 | 0,x :: r=>bif (z144 (x :: r) 0 61).2 then ((z144 (x :: r) 0 61).1 :: (qwS 2 r).1,(qwS 2 r).2)
  else ((bif x==95 then 32 else x) :: (qwS 0 r).1,(qwS 0 r).2+(bif x==61 then 1 else 0))
def z124 (s:LU):LU×Int:=((qwS 0 s).1,((qwS 0 s).2:Int))
def qly (s:LU):Bool:=lenOk s
def z108 (s:LU):LU:=(qwS 0 s).1
def quq (s:LU):Bool:=lenOk s
def z92 (s:LU):Int:=((qwS 0 s).2:Int)
def qFG (s:LU):Bool:=lenOk s
def z44 (s:LU):LU×Int:=z124 s
def qxf (s:LU):Bool:=lenOk s
def z55 (s:LU):Int:=bif !(s.all fun c=>z36 c 4)||(s.contains 63||decide (0 < (qwS 0 s).2)) then 3 else 0
def qFH (s:LU):Bool:=lenOk s
def z48 (s:LU):Int:=z55 s
def qFI (s:LU):Bool:=lenOk s
abbrev Word:=WordT
def csOf (w:Word):Int:=bif (z53 w.1).2 != 0 then 2 else (z53 w.1).1
def octOf (w:Word):LU:=bif w.2.1==1 then z107 w.2.2.1 else z108 w.2.2.1
def z33 (s:LU):Bool:=((z51 s).2==0)&&(((z53 (z51 s).1.1).2==0) &&
 bif (z51 s).1.2.1==1 then z54 (z51 s).1.2.2.1 else z55 (z51 s).1.2.2.1==0)
def qFJ (s:LU):Bool:=lenOk s
def z26 (s:LU):Bool:=z33 s
def qFK (s:LU):Bool:=lenOk s
def z31 (s:LU):Int:=bif (z51 s).2 != 0 then 0 else csOf (z51 s).1
def qFL (s:LU):Bool:=lenOk s
def z25 (s:LU):Int:=z31 s
def qrL (s:LU):Bool:=lenOk s
def z39 (s:LU):LI×Bool:=bif (z51 s).2 != 0 then ([],false) else (z63 (csOf (z51 s).1) (octOf (z51 s).1),true)
def qkZ (s:LU):Bool:=lenOk s
def z24 (s:LU):LI×Bool:=z39 s
def qFM (s:LU):Bool:=lenOk s
def z123 (s:LU) (c:UInt8):Int:=Lib.indexByte s c
def z91 (s:LU) (c:UInt8):Int:=Lib.indexByte s c
def z166 (s t:LU):Bool:=bif decide (t.length≤s.length) then s.drop (s.length - t.length)==t else false
def qur (s _:LU):Bool:=lenOk s
def z143 (s t:LU):LU:=bif z166 s t then s.take (s.length - t.length) else s
def qjj (s _:LU):Bool:=lenOk s
def z62 (c e:Int) (t:LI):LI:=t++[bif e != 0 then 65533 else c]
def qFN (_ _:Int) (t:LI):Bool:=decide (t.length≤2097152)
def qLK (s:LU) (t:LI):LI:=t++utfR (s.length+1) s
def qdV (s:LU) (t:LI):Bool:=lenOk s&&decide (t.length≤1048576)
def eachB {σ:Type} (f:σ→UInt8→Int→Bool×Bool×σ):σ→LU→Bool×σ
 | x,[]=>(true,x)
 | x,c :: r=>bif c==61 then (true,x) else
  bif (f x c (bif (z121 c).2 then (z121 c).1 else -1)).1 then
   bif (f x c (bif (z121 c).2 then (z121 c).1 else -1)).2.1 then eachB f (f x c (bif (z121 c).2 then (z121 c).1 else -1)).2.2 r
   else (true,(f x c (bif (z121 c).2 then (z121 c).1 else -1)).2.2)
  else (false,x)
def z173 {σ:Type} (f:σ→UInt8→Int→Bool×Bool×σ) (x:σ) (s:LU):Bool×σ×LU :=
 bif lenOk s then ((eachB f x s).1,(eachB f x s).2,s) else (false,x,s)
def z52 (w:Word):Int:=csOf w
def qxg (w:Word):Bool:=lenOk w.1
def z64 (w:Word):LU:=octOf w
def qFO (w:Word):Bool:=lenOk w.2.2.1
def z76 (s:LU):LU:=z87 s
def qFP (s:LU):Bool:=lenOk s
def z8 (a b:LI):Bool:=decide (a=b)
def z8_ok (a _b:LI):Bool:=lenOk a
end Go.Av
