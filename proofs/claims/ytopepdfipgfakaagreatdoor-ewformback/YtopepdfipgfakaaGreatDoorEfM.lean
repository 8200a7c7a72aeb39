import Derived.Test.YtopepdfipgfakaaGreatDoorEtM
namespace Go.Av
set_option linter.unusedVariables false
set_option linter.unusedSimpArgs false
def hexD:List UInt8:=[48,49,50,51,52,53,54,55,56,57,65,66,67,68,69,70]
def z181 (n:Int):UInt8:=List.getD hexD (Int.toNat (n % 16)) 0
def qcD (n:Int):Bool:=decide (-9223372036854775808≤n∧n≤9223372036854775807)
def qgJ (n:Int):Bool:=decide (-9223372036854775808≤n∧n≤9223372036854775807)
def z237 (c:UInt8):Int×Bool :=
 bif z129 (z126 c) 8 then ((((z126 c) - (48:UInt8)).toNat:Int),true)
 else bif decide ((97:UInt8)≤z126 c)&&decide (z126 c≤(102:UInt8)) then ((((z126 c) - (97:UInt8)).toNat:Int)+10,true) else (0,false)
def z220 (a b:UInt8):UInt8×Bool :=
 bif (z237 a).2&&(z237 b).2 then (UInt8.ofNat (Int.toNat ((z237 a).1*16+(z237 b).1)),true) else (0,false)
def z130 (c:UInt8):List UInt8:=[List.getD hexD (c.toNat / 16) 0,List.getD hexD (c.toNat % 16) 0]
def qkH (s:List UInt8) (i:Nat) (sign:UInt8):UInt8×Bool :=
 bif List.getD s i 0==sign then z220 (List.getD s (i+1) 0) (List.getD s (i+2) 0) else (0,false)
def z189 (s:List UInt8) (at1:Int) (sign:UInt8):UInt8×Bool :=
 bif decide (0≤at1)&&decide (at1≤(s.length:Int) - 3) then qkH s at1.toNat sign else (0,false)
def qme (s:List UInt8) (_:Int) (_:UInt8):Bool:=lenOk s
def z85 (b:List UInt8) (sign c:UInt8):List UInt8:=b++sign :: z130 c
def qvf (b:List UInt8) (_ _:UInt8):Bool:=lenOk b
def z137 (b:List UInt8) (sign c:UInt8):List UInt8:=b++sign :: z130 c
def z218 (n:Int):UInt8:=bif n==2 then 192 else bif n==3 then 224 else bif n==4 then 240 else 0
def oct8 (n:Int):UInt8:=UInt8.ofNat (Int.toNat (IntKind.wrap .u8 n))
def z185:List (UInt8×(Int×Unit)):=[(164,(8364,())),(166,(352,())),(168,(353,())),(180,(381,())),(184,(382,())),(188,(338,())),(189,(339,())),(190,(376,()))]
def z186:List Int:=[8364,0,8218,402,8222,8230,8224,8225,710,8240,352,8249,338,0,381,0,0,8216,8217,8220,8221,8226,8211,8212,732,8482,353,8250,339,0,382,376]
def z64 (x:UInt8):Int :=
 bif x==164 then 8364 else bif x==166 then 352 else bif x==168 then 353 else bif x==180 then 381 else bif x==184 then 382 else bif x==188 then 338
 else bif x==189 then 339 else bif x==190 then 376 else (x.toNat:Int)
def qyI:List Int:=[8364,65533,8218,402,8222,8230,8224,8225,710,8240,352,8249,338,65533,381,65533,65533,8216,8217,8220,8221,8226,8211,8212,732,8482,353,8250,339,65533,382,376]
def z65 (x:UInt8):Int:=bif decide (x < 128)||decide (159 < x) then (x.toNat:Int) else List.getD qyI (x.toNat - 128) 0
def z133 (n:Int):List (List UInt8) :=
 bif n==1 then [[117,115,45,97,115,99,105,105],[97,115,99,105,105],[97,110,115,105,95,120,51,46,52,45,49,57,54,56],[105,115,111,54,52,54,45,117,115]]
 else bif n==2 then [[105,115,111,45,56,56,53,57,45,49],[105,115,111,95,56,56,53,57,45,49],[108,97,116,105,110,49],[108,49]]
 else bif n==3 then [[105,115,111,45,56,56,53,57,45,49,53],[105,115,111,95,56,56,53,57,45,49,53],[108,97,116,105,110,45,57]]
 else bif n==4 then [[119,105,110,100,111,119,115,45,49,50,53,50],[99,112,49,50,53,50]]
 else bif n==5 then [[117,116,102,45,56],[117,116,102,56]] else []
def z89 (n:Int):List UInt8:=List.getD (z133 n) 0 []
def z44 (n:Int):Bool:=decide (1≤n)&&decide (n≤5)
def z45 (n:Int):List UInt8:=bif n==1 then [66] else bif n==2 then [81] else []
def z48 (cs code:Int):List UInt8:=[61,63]++z89 cs++[63]++z45 code++[63]
def z17 (cs:Int):Int:=bif !(z44 cs) then 0 else ((z89 cs).length+7:Nat)
def z84 (c:UInt8):Int:=bif (c==32)||z129 c 128 then 1 else 3
def qLen (s:List UInt8):Nat:=(s.map fun c=>(z84 c).toNat).sum
def z83 (s:List UInt8):Int:=(qLen s:Int)
def qnP (s:List UInt8):Bool:=decide (s.length≤4194304)
def z91 (c:UInt8):List UInt8:=bif c==32 then [95] else bif z82 c 128 then [c] else z137 [] 61 c
def z50 (s:List UInt8):List UInt8:=s.flatMap z91
def z136 (l:List Int):Int:=l.foldl (fun n b=>IntKind.wrap .i64 (IntKind.wrap .i64 (2*n)+b)) 0
def z135 (n:Int):UInt8 :=
 let k:=Int.tmod (IntKind.wrap .i64 (Int.tmod n 64+64)) 64
 bif decide (k < 26) then oct8 (IntKind.wrap .i64 (65+k)) else bif decide (k < 52) then oct8 (IntKind.wrap .i64 (IntKind.wrap .i64 (97+k) - 26))
 else bif decide (k < 62) then oct8 (IntKind.wrap .i64 (IntKind.wrap .i64 (48+k) - 52)) else bif k==62 then 43 else 47
def bit8 (c:UInt8) (k:Nat):Int:=Int.tmod (IntKind.wrap .i64 ((UInt8.toNat (UInt8.ofNat (UInt8.toNat c / 2 ^ (min k 8))):Nat):Int)) 2
def qcu (c:UInt8):List Int:=[bit8 c 7,bit8 c 6,bit8 c 5,bit8 c 4,bit8 c 3,bit8 c 2,bit8 c 1,bit8 c 0]
def z134 (s:List UInt8):List Int:=s.flatMap qcu
def qac (n m:Nat):Nat:=(m - n % m) % m
def padTo {α:Type} (m:Nat) (x:α) (l:List α):List α:=l++List.replicate (qac l.length m) x
def sixes:Nat→List Int→List UInt8
 | 0,_=>[]
 | n+1,l=>z135 (z136 (l.take 6)) :: sixes n (l.drop 6)
def z90 (s:List UInt8):List UInt8:=sixes ((padTo 6 0 (z134 s)).length / 6) (padTo 6 0 (z134 s))
def z49 (s:List UInt8):List UInt8:=padTo 4 61 (z90 s)
def qf (c:UInt8):Nat:=bif decide (c < 128) then 1 else bif decide (c < 194)||decide (244 < c) then 0 else bif decide (c < 224) then 2 else bif decide (c < 240) then 3 else 4
def z217 (c:UInt8):Int:=(qf c:Nat)
def z235 (c:UInt8):Bool:=decide (128≤c)&&decide (c < 192)
def z236 (f c:UInt8):Bool :=
 bif f==224 then decide (160≤c)&&z235 c else bif f==237 then decide (c < 160)&&z235 c
 else bif f==240 then decide (144≤c)&&z235 c else bif f==244 then decide (c < 144)&&z235 c else z235 c
def runB (f:UInt8):Nat→Bool→List UInt8→Nat
 | 0,_,_=>0
 | _,_,[]=>0
 | n+1,one,x :: r=>bif z235 x&&(!one||z236 f x) then runB f n false r+1 else 0
def farN:List UInt8→Nat
 | []=>0
 | x :: r=>bif qf x==0 then 0 else 1+runB x (qf x - 1) true r
def z216 (s:List UInt8):Int:=(farN s:Nat)
def qgK (s:List UInt8):Bool:=lenOk s && !(s.isEmpty)
def signN (n:Nat):List UInt8→Int
 | []=>0
 | x :: r=>(r.take (n - 1)).foldl (fun c y=>c*64+((y &&& 63).toNat:Int)) (((x &&& (255 ^^^ (z218 (n:Nat)))).toNat:Nat):Int)
def z187 (s:List UInt8):Int×(Int×Int) :=
 match s with
 | []=>(0,0,4)
 | x :: r=>bif farN (x :: r)==0 then (0,1,3) else bif decide (farN (x :: r) < qf x)&&(farN (x :: r)==(x :: r).length) then (0,(farN (x :: r):Nat),4)
  else bif decide (farN (x :: r) < qf x) then (0,(farN (x :: r):Nat),3) else (signN (farN (x :: r)) (x :: r),(farN (x :: r):Nat),0)
def qmf (s:List UInt8):Bool:=lenOk s
def utfR:Nat→List UInt8→List Int
 | 0,_=>[]
 | _,[]=>[]
 | n+1,s=>(bif (z187 s).2.2 != 0 then 65533 else (z187 s).1) :: utfR n (s.drop (z187 s).2.1.toNat)
def z96 (s:List UInt8):List Int:=utfR (s.length+1) s
def qvg (s:List UInt8):Bool:=lenOk s
def z97 (s:List UInt8):List Int:=s.map fun c=>(c.toNat:Int)
def qnQ (s:List UInt8):Bool:=lenOk s
def z139 (c:UInt8):Int:=z64 c
def z94 (s:List UInt8):List Int:=s.map z64
def qvh (s:List UInt8):Bool:=lenOk s
def z140 (c:UInt8):Int:=z65 c
def z95 (s:List UInt8):List Int:=s.map z65
def qvi (s:List UInt8):Bool:=lenOk s
def z138 (c:Int):Int:=bif decide (128≤c) then 65533 else c
def z93 (s:List UInt8):List Int:=s.map fun c=>z138 (c.toNat:Int)
def qvj (s:List UInt8):Bool:=lenOk s
def z52 (cs:Int) (s:List UInt8):List Int:=bif cs==1 then z93 s else bif cs==3 then z94 s else bif cs==4 then z95 s else bif cs==5 then z96 s else z97 s
def qnR (_:Int) (s:List UInt8):Bool:=lenOk s
def z153 (c:UInt8):Int:=z217 c
def z193 (c:UInt8):UInt8×UInt8:=bif c==224 then (160,191) else bif c==237 then (128,159) else bif c==240 then (144,191) else bif c==244 then (128,143) else (128,191)
def z152 (s:List UInt8):Int:=(farN s:Nat)
def qmg (s:List UInt8):Bool:=lenOk s
def z111 (s:List UInt8):Int×(Int×Int):=z187 s
def qmh (s:List UInt8):Bool:=lenOk s
def utfE:Nat→List UInt8→Int×Int→Int×Int
 | 0,_,a=>a
 | _,[],a=>a
 | n+1,s,a=>utfE n (s.drop (z187 s).2.1.toNat) (bif (z187 s).2.2 != 0 then (a.1+1,bif a.2==0 then (z187 s).2.2 else a.2) else a)
def z63 (s:List UInt8):List Int×(Int×Int):=(z96 s,utfE (s.length+1) s (0,0))
def qvk (s:List UInt8):Bool:=lenOk s
def z26 (cs:Int) (s:List UInt8):List Int:=z52 cs s
def qvl (_:Int) (s:List UInt8):Bool:=lenOk s
def z106:List (List UInt8×Int) :=
 ([1,2,3,4,5]:List Int).flatMap fun n=>(z133 n).map fun s=>(s,n)
def z107 (s:List UInt8):List UInt8:=z148 (s.takeWhile fun c=>c != 42)
def qmi (s:List UInt8):Bool:=lenOk s
def qvm (s:List UInt8):List (List UInt8×Int)→Option Int
 | []=>none
 | p :: l=>bif s==p.1 then some p.2 else qvm s l
def z58 (s:List UInt8):Int×Int :=
 match qvm (z79 (z107 s)) z106 with
 | some n=>(n,0)
 | none=>(0,10)
def qnS (s:List UInt8):Bool:=lenOk s
def b64D:List UInt8:=[65,66,67,68,69,70,71,72,73,74,75,76,77,78,79,80,81,82,83,84,85,86,87,88,89,90,97,98,99,100,101,102,103,104,105,106,107,108,109,110,111,112,113,114,115,116,117,118,119,120,121,122,48,49,50,51,52,53,54,55,56,57,43,47]
def z132 (n:Int):UInt8:=List.getD b64D (Int.toNat (n % 64)) 0
def z150 (c:UInt8):Int×Bool:=bif decide (Lib.indexByte b64D c < 0) then (0,false) else (Lib.indexByte b64D c,true)
def isB64 (c:UInt8):Bool:=(z150 c).2
def qbI (n:Int):List Int:=[n / 32 % 2,n / 16 % 2,n / 8 % 2,n / 4 % 2,n / 2 % 2,n % 2]
def bitsB (s:List UInt8):List Int:=s.flatMap fun c=>qbI (z150 c).1
def octs:Nat→List Int→List UInt8
 | 0,_=>[]
 | n+1,l=>oct8 (z136 (l.take 8)) :: octs n (l.drop 8)
def z102 (l:List Int):List UInt8×Bool:=(octs (l.length / 8) l,z136 (l.drop (l.length / 8*8))==0)
def bodyB (s:List UInt8):List UInt8 :=
 let t:=bif s.getLast?==some 61 then s.dropLast else s
 bif t.getLast?==some 61&&(t.length != s.length) then t.dropLast else t
def z149 (s:List UInt8):List UInt8:=bodyB s
def qmj (s:List UInt8):Bool:=lenOk s
def z108 (s:List UInt8):List UInt8×Int :=
 bif !((bodyB s).all isB64) then ([],3) else bif s.length % 4 != 0 then ([],4) else bif !((z102 (bitsB (bodyB s))).2) then ([],3) else ((z102 (bitsB (bodyB s))).1,0)
def qmk (s:List UInt8):Bool:=lenOk s
def z59 (s:List UInt8):Bool:=(z108 s).2==0
def qvn (s:List UInt8):Bool:=lenOk s
def z88 (s:List UInt8):List UInt8:=z90 s
def qDC (s:List UInt8):Bool:=lenOk s
def z47 (s:List UInt8):List UInt8:=z49 s
def qyJ (s:List UInt8):Bool:=lenOk s
def digB (s:List UInt8):List UInt8:=(s.takeWhile fun c=>c != 61).filter isB64
def z143 (s:List UInt8):List UInt8×Int:=((z102 (bitsB (digB s))).1,(((bitsB (digB s)).length % 8:Nat):Int))
def qml (s:List UInt8):Bool:=lenOk s
def z98 (s:List UInt8):List UInt8:=(z143 s).1
def qvo (s:List UInt8):Bool:=lenOk s
def qwS:Nat→List UInt8→List UInt8×Nat
 | _,[]=>([],0)
 | k+1,_ :: r=>qwS k r
 | 0,x :: r=>bif (z189 (x :: r) 0 61).2 then ((z189 (x :: r) 0 61).1 :: (qwS 2 r).1,(qwS 2 r).2)
  else ((bif x==95 then 32 else x) :: (qwS 0 r).1,(qwS 0 r).2+(bif x==61 then 1 else 0))
def z144 (s:List UInt8):List UInt8×Int:=((qwS 0 s).1,((qwS 0 s).2:Int))
def qgL (s:List UInt8):Bool:=lenOk s
def z99 (s:List UInt8):List UInt8:=(qwS 0 s).1
def qvp (s:List UInt8):Bool:=lenOk s
def z110 (s:List UInt8):Int:=((qwS 0 s).2:Int)
def qmm (s:List UInt8):Bool:=lenOk s
def z60 (s:List UInt8):Int:=bif !(s.all fun c=>z129 c 4)||(s.contains 63||decide (0 < (qwS 0 s).2)) then 3 else 0
def qvq (s:List UInt8):Bool:=lenOk s
def z46 (s:List UInt8):List UInt8:=z50 s
def qvr (s:List UInt8):Bool:=decide (s.length≤262144)
abbrev Word:=WordT
def csOf (w:Word):Int:=bif (z58 w.1).2 != 0 then 2 else (z58 w.1).1
def octOf (w:Word):List UInt8:=bif w.2.1==1 then z98 w.2.2.1 else z99 w.2.2.1
def z24 (s:List UInt8):Bool:=((z11 s).2==0)&&(((z58 (z11 s).1.1).2==0) &&
 bif (z11 s).1.2.1==1 then z59 (z11 s).1.2.2.1 else z60 (z11 s).1.2.2.1==0)
def qvs (s:List UInt8):Bool:=lenOk s
def z22 (s:List UInt8):Int:=bif (z11 s).2 != 0 then 0 else csOf (z11 s).1
def qvt (s:List UInt8):Bool:=lenOk s
def z19 (s:List UInt8):List Int×Bool:=bif (z11 s).2 != 0 then ([],false) else (z52 (csOf (z11 s).1) (octOf (z11 s).1),true)
def qrt (s:List UInt8):Bool:=lenOk s
def z15 (cs code:Int) (s:List UInt8):List UInt8×Int :=
 bif !(z44 cs) then ([],10) else bif (z45 code==[])||s.isEmpty then ([],3)
 else bif decide (75 < (z48 cs code++(bif code==1 then z47 s else z46 s)++[63,61]).length) then ([],12)
 else (z48 cs code++(bif code==1 then z47 s else z46 s)++[63,61],0)
def qru (_ _:Int) (s:List UInt8):Bool:=decide (s.length≤262144)
def z151 (s:List UInt8) (c:UInt8):Int:=Lib.indexByte s c
def z109 (s:List UInt8) (c:UInt8):Int:=Lib.indexByte s c
def z228 (s t:List UInt8):Bool:=bif decide (t.length≤s.length) then s.drop (s.length - t.length)==t else false
def qmn (s _:List UInt8):Bool:=lenOk s
def z191 (s t:List UInt8):List UInt8:=bif z228 s t then s.take (s.length - t.length) else s
def qfU (s _:List UInt8):Bool:=lenOk s
def z142 (c e:Int) (t:List Int):List Int:=t++[bif e != 0 then 65533 else c]
def qmo (_ _:Int) (t:List Int):Bool:=decide (t.length≤2097152)
def qrv (s:List UInt8) (t:List Int):List Int:=t++utfR (s.length+1) s
def qbp (s:List UInt8) (t:List Int):Bool:=lenOk s&&decide (t.length≤1048576)
def eachB {σ:Type} (f:σ→UInt8→Int→Bool×Bool×σ):σ→List UInt8→Bool×σ
 | x,[]=>(true,x)
 | x,c :: r=>bif c==61 then (true,x) else
  bif (f x c (bif (z150 c).2 then (z150 c).1 else -1)).1 then
   bif (f x c (bif (z150 c).2 then (z150 c).1 else -1)).2.1 then eachB f (f x c (bif (z150 c).2 then (z150 c).1 else -1)).2.2 r
   else (true,(f x c (bif (z150 c).2 then (z150 c).1 else -1)).2.2)
  else (false,x)
def z219 {σ:Type} (f:σ→UInt8→Int→Bool×Bool×σ) (x:σ) (s:List UInt8):Bool×σ×List UInt8 :=
 bif lenOk s then ((eachB f x s).1,(eachB f x s).2,s) else (false,x,s)
def z53 (w:Word):Int:=csOf w
def qji (w:Word):Bool:=lenOk w.1
def z54 (w:Word):List UInt8:=octOf w
def qnT (w:Word):Bool:=lenOk w.2.2.1
def z21 (a b:List Int):Bool:=decide (a=b)
def qvu (a _b:List Int):Bool:=lenOk a
def z10:Bool:=true
def z6 (_ _:Int) (_:List UInt8):Bool:=true
end Go.Av
