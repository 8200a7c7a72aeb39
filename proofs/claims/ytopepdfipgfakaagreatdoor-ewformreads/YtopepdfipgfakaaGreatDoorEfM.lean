import Derived.Test.YtopepdfipgfakaaGreatDoorEtM
namespace Go.Av
def hexD:LU:=[48,49,50,51,52,53,54,55,56,57,65,66,67,68,69,70]
def z181 (n:Int):UInt8:=List.getD hexD (Int.toNat (n % 16)) 0
def qdp (n:Int):Bool:=decide (-9223372036854775808≤n∧n≤9223372036854775807)
def z184 (n:Int):UInt8:=List.getD hexD (Int.toNat (n % 16)) 0
def qci (n:Int):Bool:=decide (-9223372036854775808≤n∧n≤9223372036854775807)
def z237 (c:UInt8):Int×Bool :=
 bif z129 (z126 c) 8 then ((((z126 c) - (48:UInt8)).toNat:Int),true)
 else bif decide ((97:UInt8)≤z126 c)&&decide (z126 c≤(102:UInt8)) then ((((z126 c) - (97:UInt8)).toNat:Int)+10,true) else (0,false)
def qnc:Nat→Int→UInt8→Int×Bool
 | 0,_,_=>(0,false)
 | d+1,n,c=>bif z184 n==c then (n,true) else bif decide ((10:Int)≤n)&&(z184 n+32==c) then (n,true) else qnc d (n+1) c
def z146 (c:UInt8):Int×Bool:=qnc 16 0 c
def z220 (a b:UInt8):UInt8×Bool :=
 bif (z237 a).2&&(z237 b).2 then (UInt8.ofNat (Int.toNat ((z237 a).1*16+(z237 b).1)),true) else (0,false)
def z130 (c:UInt8):LU:=[List.getD hexD (c.toNat / 16) 0,List.getD hexD (c.toNat % 16) 0]
def qll (s:LU) (i:Nat) (sign:UInt8):UInt8×Bool :=
 bif List.getD s i 0==sign then z220 (List.getD s (i+1) 0) (List.getD s (i+2) 0) else (0,false)
def z189 (s:LU) (at1:Int) (sign:UInt8):UInt8×Bool :=
 bif decide (0≤at1)&&decide (at1≤(s.length:Int) - 3) then qll s at1.toNat sign else (0,false)
def qoF (s:LU) (_:Int) (_:UInt8):Bool:=lenOk s
def z103 (s:LU) (at1:Int) (sign:UInt8):UInt8×Bool:=z189 s at1 sign
def qoG (s:LU) (_:Int) (_:UInt8):Bool:=lenOk s
def z85 (b:LU) (sign c:UInt8):LU:=b++sign :: z130 c
def qzd (b:LU) (_ _:UInt8):Bool:=lenOk b
def z137 (b:LU) (sign c:UInt8):LU:=b++sign :: z130 c
def z218 (n:Int):UInt8:=bif n==2 then 192 else bif n==3 then 224 else bif n==4 then 240 else 0
def oct8 (n:Int):UInt8:=UInt8.ofNat (Int.toNat (IntKind.wrap .u8 n))
def z185:List (UInt8×(Int×Unit)):=[(164,(8364,())),(166,(352,())),(168,(353,())),(180,(381,())),(184,(382,())),(188,(338,())),(189,(339,())),(190,(376,()))]
def z186:LI:=[8364,0,8218,402,8222,8230,8224,8225,710,8240,352,8249,338,0,381,0,0,8216,8217,8220,8221,8226,8211,8212,732,8482,353,8250,339,0,382,376]
def z64 (x:UInt8):Int :=
 bif x==164 then 8364 else bif x==166 then 352 else bif x==168 then 353 else bif x==180 then 381 else bif x==184 then 382 else bif x==188 then 338
 else bif x==189 then 339 else bif x==190 then 376 else (x.toNat:Int)
def qDh:LI:=[8364,65533,8218,402,8222,8230,8224,8225,710,8240,352,8249,338,65533,381,65533,65533,8216,8217,8220,8221,8226,8211,8212,732,8482,353,8250,339,65533,382,376]
def z65 (x:UInt8):Int:=bif decide (x < 128)||decide (159 < x) then (x.toNat:Int) else List.getD qDh (x.toNat - 128) 0
def z133 (n:Int):List LU :=
 bif n==1 then [[117,115,45,97,115,99,105,105],[97,115,99,105,105],[97,110,115,105,95,120,51,46,52,45,49,57,54,56],[105,115,111,54,52,54,45,117,115]]
 else bif n==2 then [[105,115,111,45,56,56,53,57,45,49],[105,115,111,95,56,56,53,57,45,49],[108,97,116,105,110,49],[108,49]]
 else bif n==3 then [[105,115,111,45,56,56,53,57,45,49,53],[105,115,111,95,56,56,53,57,45,49,53],[108,97,116,105,110,45,57]]
 else bif n==4 then [[119,105,110,100,111,119,115,45,49,50,53,50],[99,112,49,50,53,50]]
 else bif n==5 then [[117,116,102,45,56],[117,116,102,56]] else []
def z89 (n:Int):LU:=List.getD (z133 n) 0 []
def z44 (n:Int):Bool:=decide (1≤n)&&decide (n≤5)
def z92 (n:Int):List LU:=z133 n
def z45 (n:Int):LU:=bif n==1 then [66] else bif n==2 then [81] else []
def z48 (cs code:Int):LU:=[61,63]++z89 cs++[63]++z45 code++[63]
def z17 (cs:Int):Int:=bif !(z44 cs) then 0 else ((z89 cs).length+7:Nat)
def z84 (c:UInt8):Int:=bif (c==32)||z129 c 128 then 1 else 3
def qLen (s:LU):Nat:=(s.map fun c=>(z84 c).toNat).sum
def z83 (s:LU):Int:=(qLen s:Int)
def qqL (s:LU):Bool:=decide (s.length≤4194304)
def z91 (c:UInt8):LU:=bif c==32 then [95] else bif z82 c 128 then [c] else z137 [] 61 c
def z50 (s:LU):LU:=s.flatMap z91
def z136 (l:LI):Int:=l.foldl (fun n b=>IntKind.wrap .i64 (IntKind.wrap .i64 (2*n)+b)) 0
def qeo (l:LI):Bool:=decide (l.length≤1048576)
def z135 (n:Int):UInt8 :=
 let k:=Int.tmod (IntKind.wrap .i64 (Int.tmod n 64+64)) 64
 bif decide (k < 26) then oct8 (IntKind.wrap .i64 (65+k)) else bif decide (k < 52) then oct8 (IntKind.wrap .i64 (IntKind.wrap .i64 (97+k) - 26))
 else bif decide (k < 62) then oct8 (IntKind.wrap .i64 (IntKind.wrap .i64 (48+k) - 52)) else bif k==62 then 43 else 47
def bit8 (c:UInt8) (k:Nat):Int:=Int.tmod (IntKind.wrap .i64 ((UInt8.toNat (UInt8.ofNat (UInt8.toNat c / 2 ^ (min k 8))):Nat):Int)) 2
def qfe (c:UInt8):LI:=[bit8 c 7,bit8 c 6,bit8 c 5,bit8 c 4,bit8 c 3,bit8 c 2,bit8 c 1,bit8 c 0]
def z134 (s:LU):LI:=s.flatMap qfe
def qbc (n m:Nat):Nat:=(m - n % m) % m
def padTo {α:Type} (m:Nat) (x:α) (l:List α):List α:=l++List.replicate (qbc l.length m) x
def sixes:Nat→LI→LU
 | 0,_=>[]
 | n+1,l=>z135 (z136 (l.take 6)) :: sixes n (l.drop 6)
def z90 (s:LU):LU:=sixes ((padTo 6 0 (z134 s)).length / 6) (padTo 6 0 (z134 s))
def z49 (s:LU):LU:=padTo 4 61 (z90 s)
def qg (c:UInt8):Nat:=bif decide (c < 128) then 1 else bif decide (c < 194)||decide (244 < c) then 0 else bif decide (c < 224) then 2 else bif decide (c < 240) then 3 else 4
def z217 (c:UInt8):Int:=(qg c:Nat)
def z235 (c:UInt8):Bool:=decide (128≤c)&&decide (c < 192)
def z236 (f c:UInt8):Bool :=
 bif f==224 then decide (160≤c)&&z235 c else bif f==237 then decide (c < 160)&&z235 c
 else bif f==240 then decide (144≤c)&&z235 c else bif f==244 then decide (c < 144)&&z235 c else z235 c
def runB (f:UInt8):Nat→Bool→LU→Nat
 | 0,_,_=>0
 | _,_,[]=>0
 | n+1,one,x :: r=>bif z235 x&&(!one||z236 f x) then runB f n false r+1 else 0
def farN:LU→Nat
 | []=>0
 | x :: r=>bif qg x==0 then 0 else 1+runB x (qg x - 1) true r
def z216 (s:LU):Int:=(farN s:Nat)
def qio (s:LU):Bool:=lenOk s && !(s.isEmpty)
def signN (n:Nat):LU→Int
 | []=>0
 | x :: r=>(r.take (n - 1)).foldl (fun c y=>c*64+((y &&& 63).toNat:Int)) (((x &&& (255 ^^^ (z218 (n:Nat)))).toNat:Nat):Int)
def z187 (s:LU):Int×(Int×Int) :=
 match s with
 | []=>(0,0,4)
 | x :: r=>bif farN (x :: r)==0 then (0,1,3) else bif decide (farN (x :: r) < qg x)&&(farN (x :: r)==(x :: r).length) then (0,(farN (x :: r):Nat),4)
  else bif decide (farN (x :: r) < qg x) then (0,(farN (x :: r):Nat),3) else (signN (farN (x :: r)) (x :: r),(farN (x :: r):Nat),0)
def qoH (s:LU):Bool:=lenOk s
def utfR:Nat→LU→LI
 | 0,_=>[]
 | _,[]=>[]
 | n+1,s=>(bif (z187 s).2.2 != 0 then 65533 else (z187 s).1) :: utfR n (s.drop (z187 s).2.1.toNat)
def z96 (s:LU):LI:=utfR (s.length+1) s
def qze (s:LU):Bool:=lenOk s
def z97 (s:LU):LI:=s.map fun c=>(c.toNat:Int)
def qqM (s:LU):Bool:=lenOk s
def z139 (c:UInt8):Int:=z64 c
def z94 (s:LU):LI:=s.map z64
def qzf (s:LU):Bool:=lenOk s
def z140 (c:UInt8):Int:=z65 c
def z95 (s:LU):LI:=s.map z65
def qzg (s:LU):Bool:=lenOk s
def z138 (c:Int):Int:=bif decide (128≤c) then 65533 else c
def z93 (s:LU):LI:=s.map fun c=>z138 (c.toNat:Int)
def qzh (s:LU):Bool:=lenOk s
def z52 (cs:Int) (s:LU):LI:=bif cs==1 then z93 s else bif cs==3 then z94 s else bif cs==4 then z95 s else bif cs==5 then z96 s else z97 s
def qqN (_:Int) (s:LU):Bool:=lenOk s
def z153 (c:UInt8):Int:=z217 c
def z193 (c:UInt8):UInt8×UInt8:=bif c==224 then (160,191) else bif c==237 then (128,159) else bif c==240 then (144,191) else bif c==244 then (128,143) else (128,191)
def z152 (s:LU):Int:=(farN s:Nat)
def qoI (s:LU):Bool:=lenOk s
def z111 (s:LU):Int×(Int×Int):=z187 s
def qoJ (s:LU):Bool:=lenOk s
def utfE:Nat→LU→Int×Int→Int×Int
 | 0,_,a=>a
 | _,[],a=>a
 | n+1,s,a=>utfE n (s.drop (z187 s).2.1.toNat) (bif (z187 s).2.2 != 0 then (a.1+1,bif a.2==0 then (z187 s).2.2 else a.2) else a)
def z63 (s:LU):LI×(Int×Int):=(z96 s,utfE (s.length+1) s (0,0))
def qzi (s:LU):Bool:=lenOk s
def z26 (cs:Int) (s:LU):LI:=z52 cs s
def qqO (_:Int) (s:LU):Bool:=lenOk s
def z106:List (LU×Int) :=
 ([1,2,3,4,5]:LI).flatMap fun n=>(z133 n).map fun s=>(s,n)
def z107 (s:LU):LU:=z148 (s.takeWhile fun c=>c != 42)
def qoK (s:LU):Bool:=lenOk s
def qib (s:LU):List (LU×Int)→Option Int
 | []=>none
 | p :: l=>bif s==p.1 then some p.2 else qib s l
def z58 (s:LU):Int×Int :=
 match qib (z79 (z107 s)) z106 with
 | some n=>(n,0)
 | none=>(0,10)
def qqP (s:LU):Bool:=lenOk s
def z105 (s:LU):LU:=z107 s
def qoL (s:LU):Bool:=lenOk s
def z57 (s:LU):Int×Int:=z58 s
def qqQ (s:LU):Bool:=lenOk s
def b64D:LU:=[65,66,67,68,69,70,71,72,73,74,75,76,77,78,79,80,81,82,83,84,85,86,87,88,89,90,97,98,99,100,101,102,103,104,105,106,107,108,109,110,111,112,113,114,115,116,117,118,119,120,121,122,48,49,50,51,52,53,54,55,56,57,43,47]
def z132 (n:Int):UInt8:=List.getD b64D (Int.toNat (n % 64)) 0
def z150 (c:UInt8):Int×Bool:=bif decide (Lib.indexByte b64D c < 0) then (0,false) else (Lib.indexByte b64D c,true)
def z145 (c:UInt8):Int×Bool:=z150 c
def isB64 (c:UInt8):Bool:=(z150 c).2
def qaz (n:Int):LI:=[n / 32 % 2,n / 16 % 2,n / 8 % 2,n / 4 % 2,n / 2 % 2,n % 2]
def bitsB (s:LU):LI:=s.flatMap fun c=>qaz (z150 c).1
def z101 (s:LU):LI×Bool:=bif s.all isB64 then (bitsB s,true) else ([],false)
def qip (s:LU):Bool:=lenOk s
def octs:Nat→LI→LU
 | 0,_=>[]
 | n+1,l=>oct8 (z136 (l.take 8)) :: octs n (l.drop 8)
def z102 (l:LI):LU×Bool:=(octs (l.length / 8) l,z136 (l.drop (l.length / 8*8))==0)
def qiq (l:LI):Bool:=decide (l.length≤16777216)
def bodyB (s:LU):LU :=
 let t:=bif s.getLast? == some 61 then s.dropLast else s
 bif t.getLast? == some 61&&(t.length != s.length) then t.dropLast else t
def z149 (s:LU):LU:=bodyB s
def qoM (s:LU):Bool:=lenOk s
def z108 (s:LU):LU×Int :=
 bif !((bodyB s).all isB64) then ([],3) else bif s.length % 4 != 0 then ([],4) else bif !((z102 (bitsB (bodyB s))).2) then ([],3) else ((z102 (bitsB (bodyB s))).1,0)
def qoN (s:LU):Bool:=lenOk s
def z61 (s:LU):LU×Int:=z108 s
def qzj (s:LU):Bool:=lenOk s
def z59 (s:LU):Bool:=(z108 s).2==0
def qzk (s:LU):Bool:=lenOk s
def z88 (s:LU):LU:=z90 s
def qJi (s:LU):Bool:=lenOk s
def z47 (s:LU):LU:=z49 s
def qDi (s:LU):Bool:=lenOk s
def digB (s:LU):LU:=(s.takeWhile fun c=>c != 61).filter isB64
def z143 (s:LU):LU×Int:=((z102 (bitsB (digB s))).1,(((bitsB (digB s)).length % 8:Nat):Int))
def qoO (s:LU):Bool:=lenOk s
def z98 (s:LU):LU:=(z143 s).1
def qzl (s:LU):Bool:=lenOk s
def z100 (s:LU):LU×Int:=(digB s,((((s.takeWhile fun c=>c != 61).filter fun c => !(isB64 c)).length:Nat):Int))
def qoP (s:LU):Bool:=lenOk s
def z55 (s:LU):LU×Int:=z143 s
def qzm (s:LU):Bool:=lenOk s
def qwS:Nat→LU→LU×Nat
 | _,[]=>([],0)
 | k+1,_ :: r=>qwS k r
 | 0,x :: r=>bif (z189 (x :: r) 0 61).2 then ((z189 (x :: r) 0 61).1 :: (qwS 2 r).1,(qwS 2 r).2)
  else ((bif x==95 then 32 else x) :: (qwS 0 r).1,(qwS 0 r).2+(bif x==61 then 1 else 0))
def z144 (s:LU):LU×Int:=((qwS 0 s).1,((qwS 0 s).2:Int))
def qir (s:LU):Bool:=lenOk s
def z99 (s:LU):LU:=(qwS 0 s).1
def qzn (s:LU):Bool:=lenOk s
def z110 (s:LU):Int:=((qwS 0 s).2:Int)
def qoQ (s:LU):Bool:=lenOk s
def z56 (s:LU):LU×Int:=z144 s
def qqR (s:LU):Bool:=lenOk s
def z60 (s:LU):Int:=bif !(s.all fun c=>z129 c 4)||(s.contains 63||decide (0 < (qwS 0 s).2)) then 3 else 0
def qzo (s:LU):Bool:=lenOk s
def z62 (s:LU):Int:=z60 s
def qzp (s:LU):Bool:=lenOk s
def z46 (s:LU):LU:=z50 s
def qzq (s:LU):Bool:=decide (s.length≤262144)
abbrev Word:=WordT
def csOf (w:Word):Int:=bif (z58 w.1).2 != 0 then 2 else (z58 w.1).1
def octOf (w:Word):LU:=bif w.2.1==1 then z98 w.2.2.1 else z99 w.2.2.1
def z24 (s:LU):Bool:=((z11 s).2==0)&&(((z58 (z11 s).1.1).2==0) &&
 bif (z11 s).1.2.1==1 then z59 (z11 s).1.2.2.1 else z60 (z11 s).1.2.2.1==0)
def qzr (s:LU):Bool:=lenOk s
def z25 (s:LU):Bool:=z24 s
def qzs (s:LU):Bool:=lenOk s
def z22 (s:LU):Int:=bif (z11 s).2 != 0 then 0 else csOf (z11 s).1
def qzt (s:LU):Bool:=lenOk s
def z23 (s:LU):Int:=z22 s
def qnd (s:LU):Bool:=lenOk s
def z19 (s:LU):LI×Bool:=bif (z11 s).2 != 0 then ([],false) else (z52 (csOf (z11 s).1) (octOf (z11 s).1),true)
def quX (s:LU):Bool:=lenOk s
def z20 (s:LU):LI×Bool:=z19 s
def qzu (s:LU):Bool:=lenOk s
def z15 (cs code:Int) (s:LU):LU×Int :=
 bif !(z44 cs) then ([],10) else bif (z45 code==[])||s.isEmpty then ([],3)
 else bif decide (75 < (z48 cs code++(bif code==1 then z47 s else z46 s)++[63,61]).length) then ([],12)
 else (z48 cs code++(bif code==1 then z47 s else z46 s)++[63,61],0)
def qDj (_ _:Int) (s:LU):Bool:=decide (s.length≤262144)
def z151 (s:LU) (c:UInt8):Int:=Lib.indexByte s c
def z109 (s:LU) (c:UInt8):Int:=Lib.indexByte s c
def z228 (s t:LU):Bool:=bif decide (t.length≤s.length) then s.drop (s.length - t.length)==t else false
def qoR (s _:LU):Bool:=lenOk s
def z191 (s t:LU):LU:=bif z228 s t then s.take (s.length - t.length) else s
def qhf (s _:LU):Bool:=lenOk s
def z142 (c e:Int) (t:LI):LI:=t++[bif e != 0 then 65533 else c]
def qoS (_ _:Int) (t:LI):Bool:=decide (t.length≤2097152)
def quY (s:LU) (t:LI):LI:=t++utfR (s.length+1) s
def qbL (s:LU) (t:LI):Bool:=lenOk s&&decide (t.length≤1048576)
def eachB {σ:Type} (f:σ→UInt8→Int→Bool×Bool×σ):σ→LU→Bool×σ
 | x,[]=>(true,x)
 | x,c :: r=>bif c==61 then (true,x) else
  bif (f x c (bif (z150 c).2 then (z150 c).1 else -1)).1 then
   bif (f x c (bif (z150 c).2 then (z150 c).1 else -1)).2.1 then eachB f (f x c (bif (z150 c).2 then (z150 c).1 else -1)).2.2 r
   else (true,(f x c (bif (z150 c).2 then (z150 c).1 else -1)).2.2)
  else (false,x)
def z219 {σ:Type} (f:σ→UInt8→Int→Bool×Bool×σ) (x:σ) (s:LU):Bool×σ×LU :=
 bif lenOk s then ((eachB f x s).1,(eachB f x s).2,s) else (false,x,s)
def z53 (w:Word):Int:=csOf w
def qlm (w:Word):Bool:=lenOk w.1
def z54 (w:Word):LU:=octOf w
def qqS (w:Word):Bool:=lenOk w.2.2.1
def z104 (s:LU):LU:=z79 s
def qoT (s:LU):Bool:=lenOk s
def z21 (a b:LI):Bool:=decide (a=b)
def qzv (a _b:LI):Bool:=lenOk a
def z10:Bool:=true
def z5 (_:LU):Bool:=true
end Go.Av
