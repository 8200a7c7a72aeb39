import Derived.Test.YtmdadpepccbpcaaGreatDoorAvE
import Derived.Lib.Bytealg
import Derived.Lib.Index
import Derived.Lib.MapLaws
import Derived.KernelRfl
import Derived.Lib.TrailingZeros
namespace Go.Av
set_option linter.unusedSimpArgs false
set_option linter.unusedVariables false
section
abbrev LU:=List UInt8
abbrev LI:=List Int
set_option linter.unusedVariables false
set_option linter.unusedSimpArgs false
def z164 (s:LU) (c:UInt8):Int:=Lib.indexByte s c
def z170 (a b:LU):Int:=Lib.index a b
def qne (m0:Int) (a b:LU):Bool:=decide (2≤b.length)&&decide ((b.length:Int)≤m0)&&decide (a.length≤1048576)
def z236 (s:LU) (c:UInt8):Int:=Lib.indexByte s c
def z216 (s:LU) (c:UInt8):Int:=Lib.indexByte s c
def z229 (s:LU) (c:UInt8):Bool:=decide ((0:Int)≤Lib.indexByte s c)
def z165 (_s:LU) (_r:Int):Int:=0
def qwD (_s:LU) (_r:Int):Bool:=false
def z169 (p:LU):Int×Int:=(((Lib.decodeL p).1:Int),((Lib.decodeL p).2:Int))
def qnf (p:LU):Bool:=decide (0 < p.length)
def z166 (n:Int):Bool:=decide ((8:Int) < n)
def setOf (cs:LU) (a:List Bool):List Bool:=cs.foldl (fun a c=>List.set a c.toNat true) a
def z167 (cs:LU):List Bool×Bool:=(setOf cs (List.replicate 256 false),true)
def ascii (cs:LU):Bool:=cs.all fun c=>decide (c < (128:UInt8))
def qco (cs:LU):Bool:=ascii cs&&lenOk cs
def z168 (as:List Bool) (c:UInt8):Bool:=List.getD as c.toNat false
def anyAt (cs:LU):LU→Int→Int
 | [],_ => -1
 | x :: r,i=>bif cs.contains x then i else anyAt cs r (i+1)
def z109 (s cs:LU):Int:=anyAt cs s 0
def qet (s cs:LU):Bool:=(decide (2≤cs.length)&&(ascii cs&&lenOk cs))&&lenOk s
def z200 (s cs:LU):Bool:=decide ((0:Int)≤z109 s cs)
def qng (s cs:LU):Bool:=qet s cs
def z10 (a b:LU):Bool:=decide (a=b)
def qwE (a _b:LU):Bool:=lenOk a
def orI (a b:Int):Int:=bits .or .i64 a b
def qrV (n:Int) (c:UInt8):Int :=
 bif c==(32:UInt8) then orI n 2 else bif c==(9:UInt8) then orI n 2
 else bif decide ((48:UInt8)≤c)&&decide (c≤(57:UInt8)) then orI n 648
 else bif (decide ((65:UInt8)≤c)&&decide (c≤(90:UInt8)))||(decide ((97:UInt8)≤c)&&decide (c≤(122:UInt8))) then orI n 656 else n
def z228 (c:UInt8):Int:=qrV (bif decide (c < (32:UInt8))||(c==(127:UInt8)) then orI 0 1 else 0) c
def qCC (t:Bool) (k n:Int):Int:=bif t then orI n k else n
def z198 (c:UInt8):Int :=
 bif decide (c < (33:UInt8))||decide ((126:UInt8) < c) then z228 c
 else
  let n:=qCC (z229 [43,47] c) 512 (qCC (z229 [33,42,43,45,47] c) 128 (orI (z228 c) 4))
  bif z229 [40,41,60,62,64,44,59,58,92,34,47,91,93,63,61] c then orI n 32
  else qCC (!(z229 [42,39,37] c)) 256 (orI n 64)
def z144 (c:UInt8) (k:Int):Bool:=(bits .and .i64 (z198 c) k) != 0
def z143 (s sep:LU):Int:=Lib.index s sep
def qiM (s sep:LU):Bool:=lenOk s&&(lenOk sep&&decide (1≤sep.length))
def z82 (s sep:LU):LU×LU×Bool :=
 bif decide ((0:Int)≤Lib.index s sep) then (s.take (Lib.index s sep).toNat,s.drop ((Lib.index s sep).toNat+sep.length),true) else (s,[],false)
def qjS (s sep:LU):Bool:=lenOk s&&(lenOk sep&&decide (1≤sep.length))
def blank (c:UInt8):Bool:=(c==32)||(c==9)
def z153 (b:LU):LU:=b
def qeu (b:LU):Bool:=lenOk b
def z194 (a b:LU):Bool:=a==b
def z205 (s:LU) (_:UInt8):LU:=s
def qwF (_:LU) (_:UInt8):Bool:=false
def z206 (s:LU) (_:UInt8):LU:=s
def qrW (_:LU) (_:UInt8):Bool:=false
def z209 (s _:LU):LU:=s
def qwG (_ _:LU):Bool:=false
def z210 (s _:LU):LU:=s
def qnh (_ _:LU):Bool:=false
def dropR (p:UInt8→Bool) (s:LU):LU:=(s.reverse.dropWhile p).reverse
def qiN (p:UInt8→Bool) (s:LU):LU:=(dropR p s).dropWhile p
def z207 (s:LU) (a:List Bool):LU:=s.dropWhile fun c=>z168 a c
def qni (s:LU) (_:List Bool):Bool:=lenOk s
def z208 (s:LU) (a:List Bool):LU:=dropR (fun c=>z168 a c) s
def qhg (s:LU) (_:List Bool):Bool:=lenOk s
def z155 (s cs:LU):LU:=qiN (fun c=>cs.contains c) s
def qkk (s cs:LU):Bool:=lenOk s&&(decide (2≤cs.length)&&(ascii cs&&lenOk cs))
def z154 (c:UInt8):UInt8:=bif decide ((65:UInt8)≤c)&&decide (c≤(90:UInt8)) then c ||| 32 else c
def z92 (s:LU):LU:=s.map z154
def qum (s:LU):Bool:=lenOk s
def z93 (s:LU):LU:=qiN blank s
def qnj (s:LU):Bool:=lenOk s
def qHC (s:LU) (_:UInt8):Bool:=lenOk s
def z225 (s:LU) (c:UInt8):Bool:=s.contains c
def z188 (c:UInt8):Int:=z198 c
def z136 (c:UInt8) (k:Int):Bool:=z144 c k
def z98 (s:LU):LU:=qiN blank s
def qun (s:LU):Bool:=lenOk s
def lineB:Bool→LU→LU→List LU
 | _,cur,[]=>[cur]
 | true,cur,_ :: r=>lineB false cur r
 | false,cur,c :: r=>if c=13∧r.head? = some 10 then cur :: lineB true [] r else lineB false (cur++[c]) r
def qaA (cur s:LU):List LU:=lineB false cur s
def qar:List LU→List LU×Bool
 | []=>([],true)
 | [x]=>if x=[] then ([],true) else ([x],false)
 | x :: r=>(x :: (qar r).1,(qar r).2)
def z102 (s:LU):List LU×Bool:=qar (qaA [] s)
def qkl (s:LU):Bool:=lenOk s
def z76 (s:LU):List LU:=(qar (qaA [] s)).1
def qCD (s:LU):Bool:=lenOk s
end
section
def z193 (s:LU) (c:UInt8):Int:=((s.count c:Nat):Int)
def z192 (_:LU):Int:=0
def qHB (_:LU):Bool:=false
def cntF (sep:LU):Nat→LU→Nat
 | 0,_=>0
 | f+1,s=>bif Lib.index s sep == -1 then 0 else cntF sep f (s.drop ((Lib.index s sep).toNat+sep.length))+1
def z139 (s sep:LU):Int:=bif sep.length==1 then ((s.count (sep.headD 0):Nat):Int) else ((cntF sep (s.length+1) s:Nat):Int)
def qfz (s sep:LU):Bool:=lenOk s&&(lenOk sep&&decide (1≤sep.length))
def z157 (c:UInt8):UInt8:=z154 c
end
section
open List (getD)
open IntKind (wrap)
def hexD:LU:=[48,49,50,51,52,53,54,55,56,57,65,66,67,68,69,70]
def qkg (n:Int):Bool:=decide (-9223372036854775808≤n∧n≤9223372036854775807)
def z189 (n:Int):UInt8:=getD hexD (Int.toNat (n % 16)) 0
def qcm (n:Int):Bool:=decide (-9223372036854775808≤n∧n≤9223372036854775807)
def z230 (c:UInt8):Int×Bool :=
 bif z144 (z154 c) 8 then ((((z154 c) - (48:UInt8)).toNat:Int),true)
 else bif decide ((97:UInt8)≤z154 c)&&decide (z154 c≤(102:UInt8)) then ((((z154 c) - (97:UInt8)).toNat:Int)+10,true) else (0,false)
def qpl:Nat→Int→UInt8→Int×Bool
 | 0,_,_=>(0,false)
 | d+1,n,c=>bif z189 n==c then (n,true) else bif decide ((10:Int)≤n)&&(z189 n+32==c) then (n,true) else qpl d (n+1) c
def z202 (c:UInt8):Int×Bool:=qpl 16 0 c
def z199 (a b:UInt8):UInt8×Bool :=
 bif (z230 a).2&&(z230 b).2 then (UInt8.ofNat (Int.toNat ((z230 a).1*16+(z230 b).1)),true) else (0,false)
def z219 (c:UInt8):LU:=[getD hexD (c.toNat / 16) 0,getD hexD (c.toNat % 16) 0]
def qjQ (s:LU) (i:Nat) (sign:UInt8):UInt8×Bool :=
 bif getD s i 0==sign then z199 (getD s (i+1) 0) (getD s (i+2) 0) else (0,false)
def z145 (s:LU) (at1:Int) (sign:UInt8):UInt8×Bool :=
 bif decide (0≤at1)&&decide (at1≤(s.length:Int) - 3) then qjQ s at1.toNat sign else (0,false)
def qkh (s:LU) (_:Int) (_:UInt8):Bool:=lenOk s
def z149 (s:LU) (at1:Int) (sign:UInt8):UInt8×Bool:=z145 s at1 sign
def qiK (s:LU) (_:Int) (_:UInt8):Bool:=lenOk s
def z137 (b:LU) (sign c:UInt8):LU:=b++sign :: z219 c
def qna (b:LU) (_ _:UInt8):Bool:=lenOk b
def z146 (s:LU):Bool := !(z200 s [97,98,99,100,101,102])
def qnb (s:LU):Bool:=lenOk s
def z185 (n:Int):UInt8:=bif n==2 then 192 else bif n==3 then 224 else bif n==4 then 240 else 0
def oct8 (n:Int):UInt8:=UInt8.ofNat (Int.toNat (wrap .u8 n))
def z176:List (UInt8×(Int×Unit)):=[(164,(8364,())),(166,(352,())),(168,(353,())),(180,(381,())),(184,(382,())),(188,(338,())),(189,(339,())),(190,(376,()))]
def z177:LI:=[8364,0,8218,402,8222,8230,8224,8225,710,8240,352,8249,338,0,381,0,0,8216,8217,8220,8221,8226,8211,8212,732,8482,353,8250,339,0,382,376]
def z90 (x:UInt8):Int :=
 bif x==164 then 8364 else bif x==166 then 352 else bif x==168 then 353 else bif x==180 then 381 else bif x==184 then 382 else bif x==188 then 338
 else bif x==189 then 339 else bif x==190 then 376 else (x.toNat:Int)
def qJO:LI:=[8364,65533,8218,402,8222,8230,8224,8225,710,8240,352,8249,338,65533,381,65533,65533,8216,8217,8220,8221,8226,8211,8212,732,8482,353,8250,339,65533,382,376]
def z91 (x:UInt8):Int:=bif decide (x < 128)||decide (159 < x) then (x.toNat:Int) else getD qJO (x.toNat - 128) 0
def z156 (n:Int):List LU :=
 bif n==1 then [[117,115,45,97,115,99,105,105],[97,115,99,105,105],[97,110,115,105,95,120,51,46,52,45,49,57,54,56],[105,115,111,54,52,54,45,117,115]]
 else bif n==2 then [[105,115,111,45,56,56,53,57,45,49],[105,115,111,95,56,56,53,57,45,49],[108,97,116,105,110,49],[108,49]]
 else bif n==3 then [[105,115,111,45,56,56,53,57,45,49,53],[105,115,111,95,56,56,53,57,45,49,53],[108,97,116,105,110,45,57]]
 else bif n==4 then [[119,105,110,100,111,119,115,45,49,50,53,50],[99,112,49,50,53,50]]
 else bif n==5 then [[117,116,102,45,56],[117,116,102,56]] else []
def z101 (n:Int):List LU:=z156 n
def z151 (l:LI):Int:=l.foldl (fun n b=>wrap .i64 (wrap .i64 (2*n)+b)) 0
def qfx (l:LI):Bool:=decide (l.length≤1048576)
def z191 (n:Int):UInt8 :=
 let k:=Int.tmod (wrap .i64 (Int.tmod n 64+64)) 64
 bif decide (k < 26) then oct8 (wrap .i64 (65+k)) else bif decide (k < 52) then oct8 (wrap .i64 (wrap .i64 (97+k) - 26))
 else bif decide (k < 62) then oct8 (wrap .i64 (wrap .i64 (48+k) - 52)) else bif k==62 then 43 else 47
def bit8 (c:UInt8) (k:Nat):Int:=Int.tmod (wrap .i64 ((UInt8.toNat (UInt8.ofNat (UInt8.toNat c / 2 ^ (min k 8))):Nat):Int)) 2
def qgq (c:UInt8):LI:=[bit8 c 7,bit8 c 6,bit8 c 5,bit8 c 4,bit8 c 3,bit8 c 2,bit8 c 1,bit8 c 0]
def z190 (s:LU):LI:=s.flatMap qgq
def qfy (n m:Nat):Nat:=(m - n % m) % m
def padTo {α:Type} (m:Nat) (x:α) (l:List α):List α:=l++List.replicate (qfy l.length m) x
def sixes:Nat→LI→LU
 | 0,_=>[]
 | n+1,l=>z191 (z151 (l.take 6)) :: sixes n (l.drop 6)
def z138 (s:LU):LU:=sixes ((padTo 6 0 (z190 s)).length / 6) (padTo 6 0 (z190 s))
def z74 (s:LU):LU:=padTo 4 61 (z138 s)
def qh (c:UInt8):Nat:=bif decide (c < 128) then 1 else bif decide (c < 194)||decide (244 < c) then 0 else bif decide (c < 224) then 2 else bif decide (c < 240) then 3 else 4
def z218 (c:UInt8):Int:=(qh c:Nat)
def z237 (c:UInt8):Bool:=decide (128≤c)&&decide (c < 192)
def z238 (f c:UInt8):Bool :=
 bif f==224 then decide (160≤c)&&z237 c else bif f==237 then decide (c < 160)&&z237 c
 else bif f==240 then decide (144≤c)&&z237 c else bif f==244 then decide (c < 144)&&z237 c else z237 c
def runB (f:UInt8):Nat→Bool→LU→Nat
 | 0,_,_=>0
 | _,_,[]=>0
 | n+1,one,x :: r=>bif z237 x&&(!one||z238 f x) then runB f n false r+1 else 0
def farN:LU→Nat
 | []=>0
 | x :: r=>bif qh x==0 then 0 else 1+runB x (qh x - 1) true r
def z217 (s:LU):Int:=(farN s:Nat)
def qki (s:LU):Bool:=lenOk s && !(s.isEmpty)
def signN (n:Nat):LU→Int
 | []=>0
 | x :: r=>(r.take (n - 1)).foldl (fun c y=>c*64+((y &&& 63).toNat:Int)) (((x &&& (255 ^^^ (z185 (n:Nat)))).toNat:Nat):Int)
def z178 (s:LU):Int×(Int×Int) :=
 match s with
 | []=>(0,0,4)
 | x :: r=>bif farN (x :: r)==0 then (0,1,3) else bif decide (farN (x :: r) < qh x)&&(farN (x :: r)==(x :: r).length) then (0,(farN (x :: r):Nat),4)
  else bif decide (farN (x :: r) < qh x) then (0,(farN (x :: r):Nat),3) else (signN (farN (x :: r)) (x :: r),(farN (x :: r):Nat),0)
def qrN (s:LU):Bool:=lenOk s
def utfR:Nat→LU→LI
 | 0,_=>[]
 | _,[]=>[]
 | n+1,s=>(bif (z178 s).2.2 != 0 then 65533 else (z178 s).1) :: utfR n (s.drop (z178 s).2.1.toNat)
def z58 (s:LU):LI:=utfR (s.length+1) s
def qCq (s:LU):Bool:=lenOk s
def z59 (s:LU):LI:=s.map fun c=>(c.toNat:Int)
def quh (s:LU):Bool:=lenOk s
def z115 (c:UInt8):Int:=z90 c
def z56 (s:LU):LI:=s.map z90
def qCr (s:LU):Bool:=lenOk s
def z116 (c:UInt8):Int:=z91 c
def z57 (s:LU):LI:=s.map z91
def qCs (s:LU):Bool:=lenOk s
def z114 (c:Int):Int:=bif decide (128≤c) then 65533 else c
def z55 (s:LU):LI:=s.map fun c=>z114 (c.toNat:Int)
def qCt (s:LU):Bool:=lenOk s
def z29 (cs:Int) (s:LU):LI:=bif cs==1 then z55 s else bif cs==3 then z56 s else bif cs==4 then z57 s else bif cs==5 then z58 s else z59 s
def qnc (_:Int) (s:LU):Bool:=lenOk s
def z204 (c:UInt8):Int:=z218 c
def z232 (c:UInt8):UInt8×UInt8:=bif c==224 then (160,191) else bif c==237 then (128,159) else bif c==240 then (144,191) else bif c==244 then (128,143) else (128,191)
def z203 (s:LU):Int:=(farN s:Nat)
def qrO (s:LU):Bool:=lenOk s
def z152 (s:LU):Int×(Int×Int):=z178 s
def qrP (s:LU):Bool:=lenOk s
def utfE:Nat→LU→Int×Int→Int×Int
 | 0,_,a=>a
 | _,[],a=>a
 | n+1,s,a=>utfE n (s.drop (z178 s).2.1.toNat) (bif (z178 s).2.2 != 0 then (a.1+1,bif a.2==0 then (z178 s).2.2 else a.2) else a)
def z89 (s:LU):LI×(Int×Int):=(z58 s,utfE (s.length+1) s (0,0))
def qCu (s:LU):Bool:=lenOk s
def z42 (cs:Int) (s:LU):LI:=z29 cs s
def qnd (_:Int) (s:LU):Bool:=lenOk s
def z95:List (LU×Int) :=
 ([1,2,3,4,5]:LI).flatMap fun n=>(z156 n).map fun s=>(s,n)
def z96 (s:LU):LU:=z93 (s.takeWhile fun c=>c != 42)
def qCv (s:LU):Bool:=lenOk s
def qjR (s:LU):List (LU×Int)→Option Int
 | []=>none
 | p :: l=>bif s==p.1 then some p.2 else qjR s l
def z44 (s:LU):Int×Int :=
 match qjR (z92 (z96 s)) z95 with
 | some n=>(n,0)
 | none=>(0,10)
def qCw (s:LU):Bool:=lenOk s
def z100 (s:LU):LU:=z96 s
def qrQ (s:LU):Bool:=lenOk s
def z46 (s:LU):Int×Int:=z44 s
def qCx (s:LU):Bool:=lenOk s
def b64D:LU:=[65,66,67,68,69,70,71,72,73,74,75,76,77,78,79,80,81,82,83,84,85,86,87,88,89,90,97,98,99,100,101,102,103,104,105,106,107,108,109,110,111,112,113,114,115,116,117,118,119,120,121,122,48,49,50,51,52,53,54,55,56,57,43,47]
def z222 (n:Int):UInt8:=getD b64D (Int.toNat (n % 64)) 0
def z175 (c:UInt8):Int×Bool:=bif decide (Lib.indexByte b64D c < 0) then (0,false) else (Lib.indexByte b64D c,true)
def z150 (c:UInt8):Int×Bool:=z175 c
def isB64 (c:UInt8):Bool:=(z175 c).2
def qbw (n:Int):LI:=[n / 32 % 2,n / 16 % 2,n / 8 % 2,n / 4 % 2,n / 2 % 2,n % 2]
def bitsB (s:LU):LI:=s.flatMap fun c=>qbw (z175 c).1
def z87 (s:LU):LI×Bool:=bif s.all isB64 then (bitsB s,true) else ([],false)
def qui (s:LU):Bool:=lenOk s
def octs:Nat→LI→LU
 | 0,_=>[]
 | n+1,l=>oct8 (z151 (l.take 8)) :: octs n (l.drop 8)
def z88 (l:LI):LU×Bool:=(octs (l.length / 8) l,z151 (l.drop (l.length / 8*8))==0)
def quj (l:LI):Bool:=decide (l.length≤16777216)
def bodyB (s:LU):LU :=
 let t:=bif s.getLast? == some 61 then s.dropLast else s
 bif t.getLast? == some 61&&(t.length != s.length) then t.dropLast else t
def z201 (s:LU):LU:=bodyB s
def qrR (s:LU):Bool:=lenOk s
def z148 (s:LU):LU×Int :=
 bif !((bodyB s).all isB64) then ([],3) else bif s.length % 4 != 0 then ([],4) else bif !((z88 (bitsB (bodyB s))).2) then ([],3) else ((z88 (bitsB (bodyB s))).1,0)
def qrS (s:LU):Bool:=lenOk s
def z104 (s:LU):LU×Int:=z148 s
def qrT (s:LU):Bool:=lenOk s
def z182 (s:LU):LU:=z138 s
def qHA (s:LU):Bool:=lenOk s
def z123 (s:LU):LU:=z74 s
def qNC (s:LU):Bool:=lenOk s
def digB (s:LU):LU:=(s.takeWhile fun c=>c != 61).filter isB64
def z54 (s:LU):LU×Int:=((z88 (bitsB (digB s))).1,(((bitsB (digB s)).length % 8:Nat):Int))
def qCy (s:LU):Bool:=lenOk s
def z28 (s:LU):LU:=(z54 s).1
def qCz (s:LU):Bool:=lenOk s
def z86 (s:LU):LU×Int:=(digB s,((((s.takeWhile fun c=>c != 61).filter fun c => !(isB64 c)).length:Nat):Int))
def qCA (s:LU):Bool:=lenOk s
def z41 (s:LU):LU×Int:=z54 s
def qCB (s:LU):Bool:=lenOk s
def z141 (s:LU) (c:UInt8):Int:=Lib.indexByte s c
def z80 (s:LU) (c:UInt8):Int:=Lib.indexByte s c
def z215 (s t:LU):Bool:=bif decide (t.length≤s.length) then s.drop (s.length - t.length)==t else false
def qkj (s _:LU):Bool:=lenOk s
def z231 (s t:LU):LU:=bif z215 s t then s.take (s.length - t.length) else s
def qiL (s _:LU):Bool:=lenOk s
def z118 (c e:Int) (t:LI):LI:=t++[bif e != 0 then 65533 else c]
def qrU (_ _:Int) (t:LI):Bool:=decide (t.length≤2097152)
def qwC (s:LU) (t:LI):LI:=t++utfR (s.length+1) s
def qcB (s:LU) (t:LI):Bool:=lenOk s&&decide (t.length≤1048576)
def eachB {σ:Type} (f:σ→UInt8→Int→Bool×Bool×σ):σ→LU→Bool×σ
 | x,[]=>(true,x)
 | x,c :: r=>bif c==61 then (true,x) else
  bif (f x c (bif (z175 c).2 then (z175 c).1 else -1)).1 then
   bif (f x c (bif (z175 c).2 then (z175 c).1 else -1)).2.1 then eachB f (f x c (bif (z175 c).2 then (z175 c).1 else -1)).2.2 r
   else (true,(f x c (bif (z175 c).2 then (z175 c).1 else -1)).2.2)
  else (false,x)
def z174 {σ:Type} (f:σ→UInt8→Int→Bool×Bool×σ) (x:σ) (s:LU):Bool×σ×LU :=
 bif lenOk s then ((eachB f x s).1,(eachB f x s).2,s) else (false,x,s)
def z97 (s:LU):LU:=z92 s
def quk (s:LU):Bool:=lenOk s
def z11 (a b:LI):Bool:=decide (a=b)
def qul (a _b:LI):Bool:=lenOk a
end
section
def z163 (x:Int):Int:=(Lib.ctz 64 x.toNat:Nat)
def qNx (x:Int):Bool:=decide (0≤x∧x < 18446744073709551616)
end
section
abbrev PutT:=Bool×(LU×List LU)
end
section
set_option linter.unusedSimpArgs false
end
section
def z173 (s t:LU):LU×Bool:=bif z215 s t then (s.take (s.length - t.length),true) else (s,false)
def qrX (s _:LU):Bool:=lenOk s
end
section
def qhE:LU→Bool
 | []=>true
 | x :: r=>(z144 x 6)&&((bif (x==61) && !(r.isEmpty) then (z145 (x :: r) 0 61).2&&z146 (r.take 2) else true)&&qhE r)
def qlA (l:LU):Bool:=match l.getLast? with | none=>false | some c=>z144 c 2
def z83 (l:LU):Bool:=qhE l && !(qlA l)
def qzL (l:LU):Bool:=lenOk l
def z103 (l:LU):Bool:=z83 l
def qnP (l:LU):Bool:=lenOk l
def qiY:List LU→Bool→Int
 | [],_=>0
 | [x],ends=>bif decide (76 < x.length) then 12 else bif !ends then 4 else bif z83 x then 0 else 3
 | x :: y :: r,ends=>bif decide (76 < x.length) then 12 else bif z83 x then qiY (y :: r) ends else 3
def z38 (s:LU):Int:=qiY (z102 s).1 (z102 s).2
def qFi (s:LU):Bool:=lenOk s
def z47 (s:LU):Int:=qiY (z102 s).1 (z102 s).2
def qFj (s:LU):Bool:=lenOk s
def z172 (s cs:LU):LU:=dropR (fun c=>cs.contains c) s
def qkp (s cs:LU):Bool:=lenOk s&&(decide (2≤cs.length)&&(ascii cs&&lenOk cs))
def z171 (s t:LU):Bool:=bif decide (t.length≤s.length) then s.take t.length==t else false
def qfB (l:LU):Bool:=l.getLast? == some 61
def bareL (l:LU):LU:=bif qfB (dropR blank l) then (dropR blank l).dropLast else dropR blank l
def z111 (l:LU):LU×Bool:=(bareL l,qfB (dropR blank l))
def qsB (l:LU):Bool:=lenOk l
def qaT:Nat→LU→LU×Nat
 | _,[]=>([],0)
 | k+1,_ :: r=>qaT k r
 | 0,x :: r=>bif (z145 (x :: r) 0 61).2 then ((z145 (x :: r) 0 61).1 :: (qaT 2 r).1,(qaT 2 r).2)
  else (x :: (qaT 0 r).1,(qaT 0 r).2+(bif x==61 then 1 else 0))
def z112 (l:LU):LU×Int:=((qaT 0 l).1,((qaT 0 l).2:Int))
def qsC (l:LU):Bool:=lenOk l
def z53 (l:LU):LU×Bool:=((qaT 0 (bareL l)).1,qfB (dropR blank l))
def qFk (l:LU):Bool:=lenOk l
def qas (l:LU):Nat:=(qaT 0 (bareL l)).2
def z85 (l:LU):LU×Bool×Int:=((z53 l).1,(z53 l).2,(qas l:Int))
def quL (l:LU):Bool:=lenOk l
def brkA:LU→Nat
 | []=>0
 | [_]=>1
 | x :: y :: _=>bif (x==13)&&(y==10) then 2 else 1
def z110 (s:LU):Int:=(brkA s:Nat)
def isBrk (c:UInt8):Bool:=(c==13)||(c==10)
def qJ (s:LU):LU:=s.takeWhile fun c => !(isBrk c)
def qad (s:LU):LU:=s.dropWhile fun c => !(isBrk c)
def endOf (s:LU):LU:=(qad s).take (brkA (qad s))
def qbG (s:LU):LU:=(qad s).drop (brkA (qad s))
def qjT {σ:Type} (f:σ→LU→LU→Bool×Bool×σ):Nat→σ→LU→Bool×σ×LU
 | 0,x,s=>(false,x,s)
 | n+1,x,s=>bif s.isEmpty then (true,x,s) else
  bif (f x (qJ s) (endOf s)).1 then
   bif (f x (qJ s) (endOf s)).2.1 then qjT f n (f x (qJ s) (endOf s)).2.2 (qbG s) else (true,(f x (qJ s) (endOf s)).2.2,s)
  else (false,x,s)
def z108 {σ:Type} (f:σ→LU→LU→Bool×Bool×σ) (x:σ) (s:LU):Bool×σ×LU :=
 bif lenOk s then qjT f (s.length+1) x s else (false,x,s)
def qah:Bool→LU→LU→List (LU×LU)
 | _,cur,[]=>[(cur,[])]
 | true,cur,_ :: r=>qah false cur r
 | false,cur,c :: r=>bif isBrk c then
  bif (c==13)&&(r.head? == some 10) then (cur,[13,10]) :: qah true [] r else (cur,[c]) :: qah false [] r
  else qah false (cur++[c]) r
def qcQ (p:LU×LU):LU:=(z53 p.1).1++(bif (z53 p.1).2 then [] else p.2)
def z27 (s:LU):LU:=(qah false [] s).flatMap qcQ
def qFl (s:LU):Bool:=lenOk s
def qcR (l:List (LU×LU)):Nat:=(l.map fun p=>qas p.1).sum
def qnQ (s:LU):Int:=(qcR (qah false [] s):Nat)
def z40 (s:LU):LU×Int:=(z27 s,qnQ s)
def qFm (s:LU):Bool:=lenOk s
end
section
def codeW:Nat→LU→LU→LU×Int
 | 0,_,_=>([],0)
 | n+1,acc,s =>
  bif s.isEmpty then (acc,0)
  else bif decide (76 < (z82 s [13,10]).1.length) then ([],12)
  else bif !((z82 s [13,10]).2.2) then ([],4)
  else bif (z82 s [13,10]).1.isEmpty then ([],3)
  else codeW n (acc++(z82 s [13,10]).1) (z82 s [13,10]).2.1
def z147 (s:LU):LU×Int:=codeW (s.length+1) [] s
def qsv (s:LU):Bool:=lenOk s
def z84 (s:LU):LU×Int:=bif (z147 s).2 != 0 then ([],(z147 s).2) else z148 (z147 s).1
def qER (s:LU):Bool:=lenOk s
def z39 (s:LU):Int:=(z84 s).2
def qES (s:LU):Bool:=lenOk s
def z48 (s:LU):LU×Int :=
 bif (z147 s).2 != 0 then ([],(z147 s).2) else bif (z148 (z147 s).1).2 != 0 then ([],(z148 (z147 s).1).2) else ((z147 s).1,0)
def qET (s:LU):Bool:=lenOk s
def z142 (s:LU):List LU:=(qar (qaA [] s)).1
def qsw (s:LU):Bool:=lenOk s
def z140 (c:UInt8) (s:LU):Int×LU:=(z139 s [c],s)
def qko (_:UInt8) (s:LU):Bool:=lenOk s
def bareN:Bool→LU→Nat
 | _,[]=>0
 | p,x :: r=>(bif ((x==13) && !(r.head? == some 10))||((x==10) && !p) then 1 else 0)+bareN (x==13) r
def z79 (s:LU):Int:=(bareN false s:Nat)
def qEU (s:LU):Bool:=lenOk s
def z75 (s:LU):Int:=(bareN false s:Nat)
def qEV (s:LU):Bool:=lenOk s
def maxL:List LU→Nat→Nat
 | [],m=>m
 | l :: r,m=>maxL r (max m l.length)
def z81 (s:LU):Int:=(maxL (z142 s) 0:Nat)
def qEW (s:LU):Bool:=lenOk s
def z78 (c:UInt8):Bool:=decide ((128:UInt8)≤c)
def z37 (s:LU) (most:Int):Int :=
 bif decide (0 < bareN false s)||s.contains 0 then 8
 else bif s.any z78 then 9
 else bif (z142 s).any (fun l=>decide (most < (l.length:Nat))) then 12 else 0
def quB (s:LU) (most:Int):Bool:=lenOk s&&decide (0≤most∧most≤1048576)
def z35 (s:LU) (most:Int):Int:=z37 s most
def qzA (s:LU) (most:Int):Bool:=lenOk s&&decide (0≤most∧most≤1048576)
def z94 (n:Int):LU :=
 bif n==1 then [55,98,105,116] else bif n==2 then [113,117,111,116,101,100,45,112,114,105,110,116,97,98,108,101] else bif n==3 then [98,97,115,101,54,52] else []
def z99 (n:Int):LU:=z94 n
def z43 (s:LU):Int×Int :=
 bif z94 1==z92 (z93 s) then (1,0) else bif z94 2==z92 (z93 s) then (2,0) else bif z94 3==z92 (z93 s) then (3,0) else (0,11)
def qEX (s:LU):Bool:=lenOk s
def z45 (s:LU):Int×Int:=z43 s
def qEY (s:LU):Bool:=lenOk s
def z12 (coding charset:Int) (s:LU):LI :=
 z29 charset (bif coding==2 then z27 s else bif coding==3 then z28 s else s)
def qqq (_ _:Int) (s:LU):Bool:=decide (s.length≤300000)
def z20 (coding charset:Int) (s:LU):LI:=z12 coding charset s
def qqr (_ _:Int) (s:LU):Bool:=decide (s.length≤300000)
def z21 (coding charset s:LU):LI:=z12 (z43 coding).1 (z44 charset).1 s
def quC (coding charset s:LU):Bool:=lenOk coding&&(lenOk charset&&decide (s.length≤300000))
def z22 (coding charset s:LU):LI:=z21 coding charset s
def qzB (coding charset s:LU):Bool:=lenOk coding&&(lenOk charset&&decide (s.length≤300000))
def z19 (coding:Int) (s:LU):Int :=
 bif coding==1 then z37 s 76 else bif coding==2 then z38 s else bif coding==3 then z39 s else 11
def qEZ (_:Int) (s:LU):Bool:=lenOk s
def z23 (coding:Int) (s:LU):Int:=z19 coding s
def qFa (_:Int) (s:LU):Bool:=lenOk s
def z7:Bool:=true
def z6 (_:Int×Int×Unit) (_:LU) (_:List LU):Bool:=true
end
end Go.Av
