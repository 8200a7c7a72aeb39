import Derived.Test.YtmageajchmoomaaGreatDoorAvE
import Derived.Lib.Bytealg
import Derived.Lib.Index
import Derived.Lib.MapLaws
import Derived.KernelRfl
import Derived.Lib.TrailingZeros
namespace Go.Av
set_option linter.unusedSimpArgs false
set_option linter.unusedVariables false
section
abbrev LU:=List UInt8
abbrev LI:=List Int
set_option linter.unusedVariables false
set_option linter.unusedSimpArgs false
def z162 (s:LU) (c:UInt8):Int:=Lib.indexByte s c
def z142 (s:LU) (c:UInt8):Int:=Lib.indexByte s c
def z108 (s:LU) (c:UInt8):Int:=Lib.indexByte s c
def z79 (s:LU) (c:UInt8):Bool:=decide ((0:Int)≤Lib.indexByte s c)
def setOf (cs:LU) (a:List Bool):List Bool:=cs.foldl (fun a c=>List.set a c.toNat true) a
def z122 (cs:LU):List Bool×Bool:=(setOf cs (List.replicate 256 false),true)
def ascii (cs:LU):Bool:=cs.all fun c=>decide (c < (128:UInt8))
def qjh (cs:LU):Bool:=ascii cs&&lenOk cs
def z151 (as:List Bool) (c:UInt8):Bool:=List.getD as c.toNat false
def z7 (a b:LU):Bool:=decide (a=b)
def z7_ok (a _b:LU):Bool:=lenOk a
def orI (a b:Int):Int:=bits .or .i64 a b
def qtq (n:Int) (c:UInt8):Int :=
 bif c==(32:UInt8) then orI n 2 else bif c==(9:UInt8) then orI n 2
 else bif decide ((48:UInt8)≤c)&&decide (c≤(57:UInt8)) then orI n 648
 else bif (decide ((65:UInt8)≤c)&&decide (c≤(90:UInt8)))||(decide ((97:UInt8)≤c)&&decide (c≤(122:UInt8))) then orI n 656 else n
def z78 (c:UInt8):Int:=qtq (bif decide (c < (32:UInt8))||(c==(127:UInt8)) then orI 0 1 else 0) c
def qGk (t:Bool) (k n:Int):Int:=bif t then orI n k else n
def z55 (c:UInt8):Int :=
 bif decide (c < (33:UInt8))||decide ((126:UInt8) < c) then z78 c
 else
  let n:=qGk (z79 [43,47] c) 512 (qGk (z79 [33,42,43,45,47] c) 128 (orI (z78 c) 4))
  bif z79 [40,41,60,62,64,44,59,58,92,34,47,91,93,63,61] c then orI n 32
  else qGk (!(z79 [42,39,37] c)) 256 (orI n 64)
def z35 (c:UInt8) (k:Int):Bool:=(bits .and .i64 (z55 c) k) != 0
def z143 (s sep:LU):Int:=Lib.index s sep
def qnT (s sep:LU):Bool:=lenOk s&&(lenOk sep&&decide (sep.length=1))
def z109 (s sep:LU):LU×LU×Bool :=
 bif decide ((0:Int)≤Lib.index s sep) then (s.take (Lib.index s sep).toNat,s.drop ((Lib.index s sep).toNat+sep.length),true) else (s,[],false)
def qgY (s sep:LU):Bool:=lenOk s&&(lenOk sep&&decide (sep.length=1))
def blank (c:UInt8):Bool:=(c==32)||(c==9)
def z20 (b:LU):LU:=b
def qaH (b:LU):Bool:=lenOk b
def z60 (a b:LU):Bool:=a==b
def z120 (s:LU) (_:UInt8):LU:=s
def qAP (_:LU) (_:UInt8):Bool:=false
def z121 (s:LU) (_:UInt8):LU:=s
def qAQ (_:LU) (_:UInt8):Bool:=false
def z125 (s _:LU):LU:=s
def qAR (_ _:LU):Bool:=false
def z126 (s _:LU):LU:=s
def qAS (_ _:LU):Bool:=false
def dropR (p:UInt8→Bool) (s:LU):LU:=(s.reverse.dropWhile p).reverse
def qGl (p:UInt8→Bool) (s:LU):LU:=(dropR p s).dropWhile p
def z123 (s:LU) (a:List Bool):LU:=s.dropWhile fun c=>z151 a c
def qnU (s:LU) (_:List Bool):Bool:=lenOk s
def z124 (s:LU) (a:List Bool):LU:=dropR (fun c=>z151 a c) s
def qnV (s:LU) (_:List Bool):Bool:=lenOk s
def z91 (s cs:LU):LU:=qGl (fun c=>cs.contains c) s
def quR (s cs:LU):Bool:=lenOk s&&(decide (2≤cs.length)&&(ascii cs&&lenOk cs))
def z30 (c:UInt8):UInt8:=bif decide ((65:UInt8)≤c)&&decide (c≤(90:UInt8)) then c ||| 32 else c
def z37 (s:LU):LU:=s.map z30
def qeE (s:LU):Bool:=lenOk s
def z42 (a b:LU):Bool:=a.map z30==b.map z30
def qAT (a b:LU):Bool:=lenOk a&&lenOk b
def z46 (s:LU) (k:Int):Int:=((s.countP fun c=>z35 c k:Nat):Int)
def qGm (s:LU) (_:Int):Bool:=lenOk s
def z31 (s:LU) (k:Int):Bool:=s.all fun c=>z35 c k
def qju (s:LU) (_:Int):Bool:=lenOk s
def z63 (s:LU):LU:=qGl blank s
def quS (s:LU):Bool:=lenOk s
end
section
def z17 (c:UInt8):UInt8:=z30 c
end
section
open List (getD)
open UInt8 (ofNat)
open IntKind (wrap)
def hexD:LU:=[48,49,50,51,52,53,54,55,56,57,65,66,67,68,69,70]
def z160 (n:Int):UInt8:=getD hexD (Int.toNat (n % 16)) 0
def qeh (n:Int):Bool:=decide (-9223372036854775808≤n∧n≤9223372036854775807)
def qau (n:Int):Bool:=decide (-9223372036854775808≤n∧n≤9223372036854775807)
def z183 (c:UInt8):Int×Bool :=
 bif z35 (z30 c) 8 then ((((z30 c) - (48:UInt8)).toNat:Int),true)
 else bif decide ((97:UInt8)≤z30 c)&&decide (z30 c≤(102:UInt8)) then ((((z30 c) - (97:UInt8)).toNat:Int)+10,true) else (0,false)
def z176 (a b:UInt8):UInt8×Bool :=
 bif (z183 a).2&&(z183 b).2 then (ofNat (Int.toNat ((z183 a).1*16+(z183 b).1)),true) else (0,false)
def z140 (c:UInt8):LU:=[getD hexD (c.toNat / 16) 0,getD hexD (c.toNat % 16) 0]
def qAN (s:LU) (i:Nat) (sign:UInt8):UInt8×Bool :=
 bif getD s i 0==sign then z176 (getD s (i+1) 0) (getD s (i+2) 0) else (0,false)
def z166 (s:LU) (at1:Int) (sign:UInt8):UInt8×Bool :=
 bif decide (0≤at1)&&decide (at1≤(s.length:Int) - 3) then qAN s at1.toNat sign else (0,false)
def qsY (s:LU) (_:Int) (_:UInt8):Bool:=lenOk s
def z106 (b:LU) (sign c:UInt8):LU:=b++sign :: z140 c
def qsZ (b:LU) (_ _:UInt8):Bool:=lenOk b
def z155 (c:Int):Bool:=decide (55296≤c)&&decide (c≤57343)
def z129 (c:Int):Bool:=decide (wrap .u32 c≤1114111) && !(z155 c)
def z128 (c:Int):Bool := !(z129 c)
def qbn (c:Int):Bool:=decide (55296≤c)&&decide (c≤57343)
def qN (c:Int):Bool:=decide (0≤c)&&(decide (c≤1114111) && !(qbn c))
def qai (p:Int→Bool):LI→Int→Int
 | [],_ => -1
 | x :: r,i=>bif p x then qai p r (i+1) else i
def z93 (s:LI) (v:Int):Int:=qai (fun x => !(v==x)) s 0
def quM (s:LI) (_:Int):Bool:=lenOk s
def z127 (s:LI):Int:=qai z129 s 0
def qei (s:LI):Bool:=lenOk s
def z92 (t:LI):Int:=qai z129 t 0
def qGc (t:LI):Bool:=lenOk t
def z65 (t:LI):Bool:=qai z129 t 0 == -1
def quN (t:LI):Bool:=lenOk t
def z156 (c:Int):Int:=bif !(z129 c) then 0 else bif decide (c < 128) then 1 else bif decide (c < 2048) then 2 else bif decide (c < 65536) then 3 else 4
def z157 (n:Int):UInt8:=bif n==2 then 192 else bif n==3 then 224 else bif n==4 then 240 else 0
def oct8 (n:Int):UInt8:=ofNat (Int.toNat (wrap .u8 n))
def foll (n:Int):UInt8:=128 ||| (oct8 n &&& 63)
def z136 (b:LU) (c:Int):LU×Int :=
 bif z156 c==0 then ([],7)
 else (b++(bif z156 c==4 then [240 ||| oct8 (Int.fdiv c (2 ^ 18)),foll (Int.fdiv c (2 ^ 12)),foll (Int.fdiv c (2 ^ 6)),foll c]
  else bif z156 c==3 then [224 ||| oct8 (Int.fdiv c (2 ^ 12)),foll (Int.fdiv c (2 ^ 6)),foll c]
  else bif z156 c==2 then [192 ||| oct8 (Int.fdiv c (2 ^ 6)),foll c]
  else [0 ||| oct8 (Int.fdiv c (2 ^ 0))]),0)
def qta (b:LU) (_:Int):Bool:=lenOk b
def qi (c:Int):LU :=
 bif !(qN c) then []
 else bif decide (c < 128) then [oct8 c]
 else bif decide (c < 2048) then [oct8 (192+c / 64),oct8 (128+c % 64)]
 else bif decide (c < 65536) then [oct8 (224+c / 4096),oct8 (128+c / 64 % 64),oct8 (128+c % 64)]
 else [oct8 (240+c / 262144),oct8 (128+c / 4096 % 64),oct8 (128+c / 64 % 64),oct8 (128+c % 64)]
def z158:List (UInt8×(Int×Unit)):=[(164,(8364,())),(166,(352,())),(168,(353,())),(180,(381,())),(184,(382,())),(188,(338,())),(189,(339,())),(190,(376,()))]
def z137 (c:Int):UInt8×Bool :=
 bif c==8364 then (164,true) else bif c==164 then (0,false) else bif c==352 then (166,true) else bif c==166 then (0,false)
 else bif c==353 then (168,true) else bif c==168 then (0,false) else bif c==381 then (180,true) else bif c==180 then (0,false)
 else bif c==382 then (184,true) else bif c==184 then (0,false) else bif c==338 then (188,true) else bif c==188 then (0,false)
 else bif c==339 then (189,true) else bif c==189 then (0,false) else bif c==376 then (190,true) else bif c==190 then (0,false)
 else bif decide (c < 0)||decide (256≤c) then (0,false) else (oct8 c,true)
def z131 (c:Int):Bool:=(z137 c).2
def z159:LI:=[8364,0,8218,402,8222,8230,8224,8225,710,8240,352,8249,338,0,381,0,0,8216,8217,8220,8221,8226,8211,8212,732,8482,353,8250,339,0,382,376]
def z139 (c:Int):UInt8×Bool :=
 bif (decide (0≤c)&&decide (c < 128))||(decide (160≤c)&&decide (c < 256)) then (oct8 c,true)
 else bif decide (c < 256) then (0,false)
 else bif decide (z93 z159 c < 0) then (0,false) else (oct8 (wrap .i64 (128+z93 z159 c)),true)
def z132 (c:Int):Bool:=(z139 c).2
def z138 (t:LI):Int:=qai z132 t 0
def qtb (t:LI):Bool:=lenOk t
def z130 (c:Int):Bool:=decide (wrap .u32 c < 256)
def z96 (t:LI):Int:=qai z130 t 0
def qGd (t:LI):Bool:=lenOk t
def z68 (t:LI):LU×Int:=bif z96 t != -1 then ([],9) else (t.map fun c=>ofNat (wrap .u8 c).toNat,0)
def quO (t:LI):Bool:=lenOk t
def z103 (t:LI):LU×Int:=bif t.all z131 then (t.map fun c=>(z137 c).1,0) else ([],9)
def qtc (t:LI):Bool:=lenOk t
def z104 (t:LI):LU×Int:=bif decide (0≤z138 t) then ([],9) else (t.map fun c=>(z139 c).1,0)
def qtd (t:LI):Bool:=lenOk t
def z102 (t:LI):LU×Int:=bif !(z65 t) then ([],7) else (t.flatMap fun c=>(z136 [] c).1,0)
def qte (t:LI):Bool:=lenOk t
def qbo (c:Int):UInt8×Bool:=bif decide (0≤c)&&decide (c < 256) then (ofNat c.toNat,true) else (0,false)
def qcw (x:UInt8):Int :=
 bif x==164 then 8364 else bif x==166 then 352 else bif x==168 then 353 else bif x==180 then 381 else bif x==184 then 382 else bif x==188 then 338
 else bif x==189 then 339 else bif x==190 then 376 else (x.toNat:Int)
def qtf (c:Int):UInt8×Bool:=z137 c
def qMW:LI:=[8364,65533,8218,402,8222,8230,8224,8225,710,8240,352,8249,338,65533,381,65533,65533,8216,8217,8220,8221,8226,8211,8212,732,8482,353,8250,339,65533,382,376]
def qay (x:UInt8):Int:=bif decide (x < 128)||decide (159 < x) then (x.toNat:Int) else getD qMW (x.toNat - 128) 0
def qtg (c:Int):UInt8×Bool:=z139 c
def z98 (cs c:Int):Bool :=
 bif cs==1 then decide (0≤c)&&decide (c < 128) else bif cs==2 then z130 c else bif cs==3 then z131 c else bif cs==4 then z132 c else bif cs==5 then z129 c else false
def z135 (cs:Int) (t:LI):Int:=qai (z98 cs) t 0
def qth (_:Int) (t:LI):Bool:=lenOk t
def z100 (cs:Int):Int:=bif cs==1 then 128 else bif cs==2 then 256 else bif cs==3 then 256 else bif cs==4 then 251 else bif cs==5 then 1112064 else 0
def z101 (cs:Int) (t:LI):Bool:=decide (0 < z100 cs)&&(z135 cs t == -1)
def qti (_:Int) (t:LI):Bool:=lenOk t
def z72 (cs:Int) (t:LI):LU×Int :=
 bif z100 cs==0 then ([],10) else bif !(z101 cs t) then ([],9)
 else bif cs==5 then z102 t else bif cs==3 then z103 t else bif cs==4 then z104 t else z68 t
def qGe (_:Int) (t:LI):Bool:=lenOk t
def qH (cs c:Int):Bool :=
 bif cs==1 then decide (0≤c)&&decide (c < 128) else bif cs==2 then (qbo c).2 else bif cs==3 then (qtf c).2 else bif cs==4 then (qtg c).2 else bif cs==5 then qN c else false
def qb (cs c:Int):LU :=
 bif !(qH cs c) then [] else bif cs==1 then [oct8 c] else bif cs==2 then [(qbo c).1] else bif cs==3 then [(qtf c).1] else bif cs==4 then [(qtg c).1] else qi c
def i32s (t:LI):Bool:=t.all fun c=>decide (-2147483648≤c∧c≤2147483647)
def qbZ (cs:Int) (t:LI):LU×Int :=
 bif decide (cs < 1)||decide (5 < cs) then ([],10)
 else bif t.all (fun c=>(qb cs c).length != 0) then (t.flatMap (qb cs),0) else ([],9)
def z61 (n:Int):List LU :=
 bif n==1 then [[117,115,45,97,115,99,105,105],[97,115,99,105,105],[97,110,115,105,95,120,51,46,52,45,49,57,54,56],[105,115,111,54,52,54,45,117,115]]
 else bif n==2 then [[105,115,111,45,56,56,53,57,45,49],[105,115,111,95,56,56,53,57,45,49],[108,97,116,105,110,49],[108,49]]
 else bif n==3 then [[105,115,111,45,56,56,53,57,45,49,53],[105,115,111,95,56,56,53,57,45,49,53],[108,97,116,105,110,45,57]]
 else bif n==4 then [[119,105,110,100,111,119,115,45,49,50,53,50],[99,112,49,50,53,50]]
 else bif n==5 then [[117,116,102,45,56],[117,116,102,56]] else []
def z75 (n:Int):LU:=getD (z61 n) 0 []
def qjg (l:LI):Int:=l.foldl (fun n b=>wrap .i64 (wrap .i64 (2*n)+b)) 0
def quP (n:Int):UInt8 :=
 let k:=Int.tmod (wrap .i64 (Int.tmod n 64+64)) 64
 bif decide (k < 26) then oct8 (wrap .i64 (65+k)) else bif decide (k < 52) then oct8 (wrap .i64 (wrap .i64 (97+k) - 26))
 else bif decide (k < 62) then oct8 (wrap .i64 (wrap .i64 (48+k) - 52)) else bif k==62 then 43 else 47
def bit8 (c:UInt8) (k:Nat):Int:=Int.tmod (wrap .i64 ((UInt8.toNat (ofNat (UInt8.toNat c / 2 ^ (min k 8))):Nat):Int)) 2
def qnS (c:UInt8):LI:=[bit8 c 7,bit8 c 6,bit8 c 5,bit8 c 4,bit8 c 3,bit8 c 2,bit8 c 1,bit8 c 0]
def qfC (s:LU):LI:=s.flatMap qnS
def sixes:Nat→LI→LU
 | 0,_=>[]
 | n+1,l=>quP (qjg (l.take 6)) :: sixes n (l.drop 6)
def qk (c:UInt8):Nat:=bif decide (c < 128) then 1 else bif decide (c < 194)||decide (244 < c) then 0 else bif decide (c < 224) then 2 else bif decide (c < 240) then 3 else 4
def z168 (c:UInt8):Int:=(qk c:Nat)
def z177 (c:UInt8):Bool:=decide (128≤c)&&decide (c < 192)
def z178 (f c:UInt8):Bool :=
 bif f==224 then decide (160≤c)&&z177 c else bif f==237 then decide (c < 160)&&z177 c
 else bif f==240 then decide (144≤c)&&z177 c else bif f==244 then decide (c < 144)&&z177 c else z177 c
def runB (f:UInt8):Nat→Bool→LU→Nat
 | 0,_,_=>0
 | _,_,[]=>0
 | n+1,one,x :: r=>bif z177 x&&(!one||z178 f x) then runB f n false r+1 else 0
def farN:LU→Nat
 | []=>0
 | x :: r=>bif qk x==0 then 0 else 1+runB x (qk x - 1) true r
def z167 (s:LU):Int:=(farN s:Nat)
def qko (s:LU):Bool:=lenOk s && !(s.isEmpty)
def signN (n:Nat):LU→Int
 | []=>0
 | x :: r=>(r.take (n - 1)).foldl (fun c y=>c*64+((y &&& 63).toNat:Int)) (((x &&& (255 ^^^ (z157 (n:Nat)))).toNat:Nat):Int)
def z149 (s:LU):Int×(Int×Int) :=
 match s with
 | []=>(0,0,4)
 | x :: r=>bif farN (x :: r)==0 then (0,1,3) else bif decide (farN (x :: r) < qk x)&&(farN (x :: r)==(x :: r).length) then (0,(farN (x :: r):Nat),4)
  else bif decide (farN (x :: r) < qk x) then (0,(farN (x :: r):Nat),3) else (signN (farN (x :: r)) (x :: r),(farN (x :: r):Nat),0)
def qtj (s:LU):Bool:=lenOk s
def utfR:Nat→LU→LI
 | 0,_=>[]
 | _,[]=>[]
 | n+1,s=>(bif (z149 s).2.2 != 0 then 65533 else (z149 s).1) :: utfR n (s.drop (z149 s).2.1.toNat)
def z85 (s:LU):LI:=utfR (s.length+1) s
def quQ (s:LU):Bool:=lenOk s
def z114 (s:LU):LI:=s.map fun c=>(c.toNat:Int)
def qkp (s:LU):Bool:=lenOk s
def z147 (c:UInt8):Int:=qcw c
def z112 (s:LU):LI:=s.map qcw
def qtk (s:LU):Bool:=lenOk s
def z148 (c:UInt8):Int:=qay c
def z113 (s:LU):LI:=s.map qay
def qtl (s:LU):Bool:=lenOk s
def z146 (c:Int):Int:=bif decide (128≤c) then 65533 else c
def z111 (s:LU):LI:=s.map fun c=>z146 (c.toNat:Int)
def qtm (s:LU):Bool:=lenOk s
def z84 (cs:Int) (s:LU):LI:=bif cs==1 then z111 s else bif cs==3 then z112 s else bif cs==4 then z113 s else bif cs==5 then z85 s else z114 s
def qGf (_:Int) (s:LU):Bool:=lenOk s
def z44:List (LU×Int) :=
 ([1,2,3,4,5]:LI).flatMap fun n=>(z61 n).map fun s=>(s,n)
def z45 (s:LU):LU:=z63 (s.takeWhile fun c=>c != 42)
def qGg (s:LU):Bool:=lenOk s
def qGh (s:LU):List (LU×Int)→Option Int
 | []=>none
 | p :: l=>bif s==p.1 then some p.2 else qGh s l
def z29 (s:LU):Int×Int :=
 match qGh (z37 (z45 s)) z44 with
 | some n=>(n,0)
 | none=>(0,10)
def qGi (s:LU):Bool:=lenOk s
def b64D:LU:=[65,66,67,68,69,70,71,72,73,74,75,76,77,78,79,80,81,82,83,84,85,86,87,88,89,90,97,98,99,100,101,102,103,104,105,106,107,108,109,110,111,112,113,114,115,116,117,118,119,120,121,122,48,49,50,51,52,53,54,55,56,57,43,47]
def qgG (n:Int):UInt8:=getD b64D (Int.toNat (n % 64)) 0
def qgH (c:UInt8):Int×Bool:=bif decide (Lib.indexByte b64D c < 0) then (0,false) else (Lib.indexByte b64D c,true)
def qgX (n:Int):LI:=[n / 32 % 2,n / 16 % 2,n / 8 % 2,n / 4 % 2,n / 2 % 2,n % 2]
def bitsB (s:LU):LI:=s.flatMap fun c=>qgX (qgH c).1
def octs:Nat→LI→LU
 | 0,_=>[]
 | n+1,l=>oct8 (qjg (l.take 8)) :: octs n (l.drop 8)
def z90 (s:LU) (c:UInt8):Int:=Lib.indexByte s c
def z62 (s:LU) (c:UInt8):Int:=Lib.indexByte s c
def z150 (s t:LU):Bool:=bif decide (t.length≤s.length) then s.drop (s.length - t.length)==t else false
def qtn (s _:LU):Bool:=lenOk s
def z116 (c e:Int) (t:LI):LI:=t++[bif e != 0 then 65533 else c]
def qto (_ _:Int) (t:LI):Bool:=decide (t.length≤2097152)
def qAO (s:LU) (t:LI):LI:=t++utfR (s.length+1) s
def qcx (s:LU) (t:LI):Bool:=lenOk s&&decide (t.length≤1048576)
def z8 (s:LU):LU:=z37 s
def z8_ok (s:LU):Bool:=lenOk s
def z26 (a b:LI):Bool:=decide (a=b)
def qGj (a _b:LI):Bool:=lenOk a
end
section
def z134 (x:Int):Int:=(Lib.ctz 64 x.toNat:Nat)
def qAK (x:Int):Bool:=decide (0≤x∧x < 18446744073709551616)
def z99 (x:Int):Int:=(Lib.ctz 64 x.toNat:Nat)
def qFV (x:Int):Bool:=decide (0≤x∧x < 18446744073709551616)
def maskB (a b c d e:Bool):Int:=(bif a then 2 else 0)+(bif b then 4 else 0)+(bif c then 8 else 0)+(bif d then 16 else 0)+(bif e then 32 else 0)
def maskF (p:Int→Bool):Int:=maskB (p 1) (p 2) (p 3) (p 4) (p 5)
def z70 (c:Int):Int:=maskF fun n=>z98 n c
def qFW (p:Int→Bool):Int:=bif p 1 then 1 else bif p 2 then 2 else bif p 3 then 3 else bif p 4 then 4 else bif p 5 then 5 else 0
def z71 (s:Int):Int:=bif s==0 then 0 else (Lib.ctz 64 s.toNat:Nat)
def qFX (s:Int):Bool:=decide (0≤s∧s < 64)
def selF (p:Int→Bool):Int×Int:=bif qFW p==0 then (0,7) else (qFW p,0)
def z49 (t:LI):Int×Int:=selF fun n=>t.all (z98 n)
def qFY (t:LI):Bool:=lenOk t
def z43 (s:LI):LI:=s
def qTh (s:LI):Bool:=lenOk s
def joinB (sep:LU):List LU→LU
 | []=>[]
 | [a]=>a
 | a :: b :: l=>a++sep++joinB sep (b :: l)
def z52 (l:List LU) (sep:LU):LU:=joinB sep l
def quL (l:List LU) (sep:LU):Bool:=decide (l.length≤65536)&&(lenOk sep&&l.all fun s=>decide (s.length≤75))
end
section
def len1k {α:Type} (l:List α):Bool:=decide (l.length≤1000)
def z105 (c:UInt8):Int:=bif z35 c 256 then 1 else 3
def oneC (c:UInt8):LU:=bif z35 c 256 then [c] else 37 :: z140 c
def z73 (s:LU):LU:=s.flatMap oneC
def qGw (s:LU):Bool:=len1k s
def quoC (c:UInt8):LU:=bif (c==34)||(c==92) then [92,c] else [c]
def quoL (s:LU):LU:=34 :: (s.flatMap quoC++[34])
def z97 (s:LU):LU:=quoL s
def qGx (s:LU):Bool:=len1k s
def tokB (s:LU):Bool := !s.isEmpty&&s.all fun c=>z35 c 64
def z19 (s:LU):Bool:=tokB s
def qnZ (s:LU):Bool:=len1k s
def atomL (s:LU):LU:=bif tokB s then s else quoL s
def z69 (s:LU):LU:=atomL s
def qGy (s:LU):Bool:=len1k s
def digI (n:Int):LU:=bif decide (n < 10) then [UInt8.ofNat (48+n.toNat)] else [UInt8.ofNat (48+n.toNat / 10),UInt8.ofNat (48+n.toNat % 10)]
def qoa (n:Int):Bool:=decide (0≤n∧n < 100)
def z171 (n:Int):LU:=digI n
def qtu (n:Int):Bool:=qoa n
def z172 (_:Int):Int:=0
def z174 (_:LU) (_ _:Int) (_ _:Bool):LU×LU:=([],[])
def z161 (dst:LU) (n _:Int):LU:=dst++digI n
def qkr (dst:LU) (n b:Int):Bool:=lenOk dst&&(qoa n&&(b==10))
def z141 (dst:LU) (n _:Int):LU:=dst++digI n
def qob (dst:LU) (n b:Int):Bool:=lenOk dst&&(qoa n&&(b==10))
def z107 (dst:LU) (n _:Int):LU:=dst++digI n
def qoc (dst:LU) (n b:Int):Bool:=lenOk dst&&(qoa n&&(b==10))
abbrev qc:=LU×(Int×(Bool×(LU×Unit)))
def nameL (name:LU) (n:Int) (e:Bool):LU:=(name++bif decide (0≤n) then 42 :: digI n else [])++bif e then [42] else []
def z74 (p:qc):LU:=nameL p.1 p.2.1 p.2.2.1
def qAW (p:qc):Bool:=len1k p.1&&decide (p.2.1 < 100)
def headL (name:LU) (n:Int) (cs:LU):LU:=nameL name n true++61 :: bif decide (0 < n) then [] else cs++[39,39]
def z51 (name:LU) (n cs:Int):LU:=headL name n (z75 cs)
def qhh (name:LU) (n _:Int):Bool:=len1k name&&decide (n < 100)
def mayN (name:LU):Bool:=(decide (0 < name.length)&&decide (name.length≤30))&&name.all fun c=>z35 c 256
def z64 (name:LU):Bool:=mayN name
def qGz (name:LU):Bool:=lenOk name
def z66 (s:LI) (v:Int):Bool:=decide (0≤z93 s v)
def qGA (s:LI) (_:Int):Bool:=lenOk s
def z95 (c:Int):Bool:=decide (c < 32)||decide (126 < c)
def qy (s:LI):Int:=qai (fun c => !(z95 c)) s 0
def z94 (s:LI):Bool:=s.any z95
def qGB (s:LI):Bool:=lenOk s
def z67 (t:LI):Bool := !(t.any z95)
def qGC (t:LI):Bool:=lenOk t
def qjx (name:LU) (t:LI):Int:=bif !(mayN name) then 13 else bif !(z65 t) then 7 else bif t.contains 0 then 8 else 0
def z47 (name:LU) (t:LI):Int:=qjx name t
def quX (name:LU) (t:LI):Bool:=lenOk name&&lenOk t
def qjy (name:LU) (t:LI):LU:=name++61 :: atomL (z68 t).1
def z48 (name:LU) (t:LI):LU×Bool:=bif !(z67 t) then ([],false) else (qjy name t,decide ((qjy name t).length≤74))
def quY (name:LU) (t:LI):Bool:=len1k name&&len1k t
def unitL (cs:Int) (c:Int):LU:=z73 (z72 cs [c]).1
def z50 (cs:Int) (t:LI):List LU:=t.map (unitL cs)
def qGD (_:Int) (t:LI):Bool:=len1k t
abbrev PutT:=Bool×(LU×List LU)
def putU (name cs:LU) (st:PutT) (u:LU):PutT :=
 bif !st.1&&decide (74 < st.2.1.length+u.length) then (false,(headL name ((st.2.2.length+1:Nat):Int) cs++u,st.2.2++[st.2.1])) else (false,(st.2.1++u,st.2.2))
def z77 (u:LU) (e:Bool) (now:LU) (out:List LU) (name:LU) (cs:Int):Bool×(LU×(List LU×(LU×Int))) :=
 ((putU name (z75 cs) (e,(now,out)) u).1,((putU name (z75 cs) (e,(now,out)) u).2.1,((putU name (z75 cs) (e,(now,out)) u).2.2,(name,cs))))
def quZ (u:LU) (_:Bool) (now:LU) (out:List LU) (name:LU) (_:Int):Bool:=(len1k u&&lenOk now)&&(decide (out.length < 99)&&len1k name)
def numL (name cs:LU) (l:List LU):List LU :=
 (l.foldl (putU name cs) (true,(headL name 0 cs,[]))).2.2++[(l.foldl (putU name cs) (true,(headL name 0 cs,[]))).2.1]
def z53 (name:LU) (cs:Int) (l:List LU):List LU:=numL name (z75 cs) l
def qva (name:LU) (_:Int) (l:List LU):Bool:=len1k name&&(decide (l.length≤100)&&l.all fun u=>decide (u.length≤75))
def qad (name:LU) (t:LI):List LU×Int :=
 bif qjx name t != 0 then ([],qjx name t) else bif (z48 name t).2 then ([qjy name t],0) else bif (z49 t).2 != 0 then ([],(z49 t).2) else
 bif decide ((headL name (-1) (z75 (z49 t).1)++(z50 (z49 t).1 t).flatten).length≤74) then ([headL name (-1) (z75 (z49 t).1)++(z50 (z49 t).1 t).flatten],0)
 else (numL name (z75 (z49 t).1) (z50 (z49 t).1 t),0)
def ok36 (name:LU) (t:LI):Bool:=decide (name.length≤100)&&decide (t.length≤100)
def z32 (name:LU) (t:LI):List LU×Int:=qad name t
def qGE (name:LU) (t:LI):Bool:=ok36 name t
def textL (l:List LU):LU:=l.flatMap fun s=>[59,13,10,32]++s
def z21 (name:LU) (t:LI):LU×Int:=(textL (qad name t).1,(qad name t).2)
def qGF (name:LU) (t:LI):Bool:=ok36 name t
end
section
def qw (s:LU) (i:Int):Nat:=min i.toNat s.length
def blkB (c:UInt8):Bool:=z35 c 2||(c==13||c==10)
def tokN (s:LU) (i:Nat):LU:=(s.drop i).takeWhile fun c=>z35 c 64
def qF (s:LU) (i:Int):LU×(Int×Int) :=
 bif qw s i==s.length then ([],(0,4)) else bif (tokN s (qw s i)).isEmpty then ([],(0,3)) else (tokN s (qw s i),(((qw s i+(tokN s (qw s i)).length:Nat):Int),0))
def unqG:LU→Option (LU×Nat)
 | []=>none
 | [c]=>bif c==34 then some ([],1) else none
 | c :: d :: r=>bif c==34 then some ([],1) else bif c==92 then (unqG r).map fun x=>(d :: x.1,x.2+2) else (unqG (d :: r)).map fun x=>(c :: x.1,x.2+1)
def unqR:Option (LU×Nat)→LU×(Int×Int)
 | some x=>(x.1,(((x.2+1:Nat):Int),0))
 | none=>([],(0,4))
def qB:LU→LU×(Int×Int)
 | []=>([],(0,3))
 | c :: r=>bif c != 34 then ([],(0,3)) else unqR (unqG r)
def qbi (s:LU) (i:Int):LU×(Int×Int) :=
 bif (qw s i==s.length)||(s.getD (qw s i) 0 != 34) then qF s i else
 bif (qB (s.drop (qw s i))).2.2 != 0 then ([],(0,(qB (s.drop (qw s i))).2.2)) else
 ((qB (s.drop (qw s i))).1,((qw s i:Nat)+(qB (s.drop (qw s i))).2.1,0))
def numV (s:LU):Int:=(s.foldl (fun a c=>a*10+(c.toNat - 48)) 0:Nat)
def starN:LU→Option Nat
 | []=>none
 | c :: r=>bif c==42 then some 0 else (starN r).map (· + 1)
end
section
def z82 (s:LU):LU:=s
def qqB (s:LU):Bool:=lenOk s
def z118 (s t:LU):LU×Bool:=bif z150 s t then (s.take (s.length - t.length),true) else (s,false)
def qtr (s _:LU):Bool:=lenOk s
def z33 (s:LU) (i:Int):Int:=(qw s i:Nat)
abbrev CommT:=Int×(Int×(Bool×Unit))
def takeK (k:CommT) (c:UInt8):Bool×CommT :=
 bif k.2.2.1 then (false,(k.1,(k.2.1,(false,())))) else bif c==92 then (false,(k.1,(k.2.1,(true,())))) else
 bif c==40 then (false,(k.1+1,(max k.2.1 (k.1+1),(k.2.2.1,())))) else bif c==41 then (k.1 - 1==0,(k.1 - 1,(k.2.1,(k.2.2.1,())))) else (false,k)
def z54 (k:CommT) (c:UInt8):Bool×CommT:=takeK k c
def qGn (k:CommT) (_:UInt8):Bool:=decide (-1000000000≤k.1∧k.1≤1000000000)
def overF:CommT→LU→Nat×CommT
 | k,[]=>(0,k)
 | k,c :: r=>bif (takeK k c).1 then (1,(takeK k c).2) else ((overF (takeK k c).2 r).1+1,(overF (takeK k c).2 r).2)
def overC (s:LU):Nat×CommT:=overF (0,(0,(false,()))) s
def z34 (s:LU):Int×Int:=(((overC s).1:Nat),(overC s).2.2.1)
def qGo (s:LU):Bool:=lenOk s
def gapL:Nat→LU→Nat
 | 0,_=>0
 | _+1,[]=>0
 | n+1,c :: r=>bif c==40 then (overC (c :: r)).1+gapL n ((c :: r).drop (overC (c :: r)).1) else bif blkB c then gapL n r+1 else 0
def gapW (s:LU) (i:Nat):Nat:=i+gapL (s.length+1) (s.drop i)
def z22 (s:LU) (i:Int):Int:=(gapW s (qw s i):Nat)
def qdy (s:LU) (_:Int):Bool:=lenOk s
def z24 (s:LU) (i:Int) (c:UInt8):Int×Bool :=
 bif decide (gapW s (qw s i) < s.length)&&(s.getD (gapW s (qw s i)) 0==c) then (((gapW s (qw s i)+1:Nat):Int),true) else ((qw s i:Nat),false)
def qnW (s:LU) (_:Int) (_:UInt8):Bool:=lenOk s
def z36 (s:LU) (i:Int):LU×(Int×Int):=qF s i
def qjv (s:LU) (_:Int):Bool:=lenOk s
def z117 (s:LU):LU×(Int×Int):=qB s
def qkq (s:LU):Bool:=lenOk s
def z87 (s:LU) (i:Int):LU×(Int×Int):=qbi s i
def qGp (s:LU) (_:Int):Bool:=lenOk s
def overP:LU→Nat
 | []=>0
 | c :: r=>bif c==34 then (match unqG r with | some x=>x.2+1 | none=>r.length+1) else bif c==40 then gapW (c :: r) 0 else 1
def z86 (s:LU):Int:=(overP s:Nat)
def quT (s:LU):Bool:=lenOk s && !s.isEmpty
def ptsW:Nat→LU→LU→List LU
 | 0,_,cur=>[cur]
 | _+1,[],cur=>[cur]
 | n+1,c :: r,cur=>bif c==59 then cur :: ptsW n r [] else ptsW n ((c :: r).drop (overP (c :: r))) (cur++(c :: r).take (overP (c :: r)))
def z58 (s:LU):List LU:=ptsW (s.length+1) s []
def qGq (s:LU):Bool:=lenOk s
def z119 (s:LU):Int :=
 bif (s.isEmpty||decide (3 < s.length))||(!(z31 s 8)||((s.getD 0 0==48)&&decide (1 < s.length))) then -1 else numV s
def qts (s:LU):Bool:=lenOk s
def attrW (w:LU) (k:Nat):LU×(Int×Bool) :=
 bif (k==0) || !(z31 (w.take k) 256) then (w,(-1,false)) else bif (w.drop (k+1)).isEmpty then (w.take k,(-1,true)) else
 bif z119 (z118 (w.drop (k+1)) [42]).1 == -1 then (w,(-1,false)) else (w.take k,(z119 (z118 (w.drop (k+1)) [42]).1,(z118 (w.drop (k+1)) [42]).2))
def z89 (a:LU):LU×(Int×Bool):=match starN (z37 a) with | none=>(z37 a,(-1,false)) | some k=>attrW (z37 a) k
def qGr (a:LU):Bool:=lenOk a
def z88 (p:LU):Bool:=gapW p 0==p.length
def qGs (p:LU):Bool:=lenOk p
def oneTW (p:LU):LU×(Int×Int):=z36 p (z22 p 0)
def oneSW (p:LU):Int×Bool:=z24 p (oneTW p).2.1 61
def oneVW (p:LU):LU×(Int×Int):=z87 p (z22 p (oneSW p).1)
def z59 (p:LU):qc×Int :=
 bif ((oneTW p).2.2 != 0)||(!(oneSW p).2||(((oneVW p).2.2 != 0) || !(z88 (p.drop (oneVW p).2.1.toNat)))) then (([],(0,(false,([],())))),3)
 else (((z89 (oneTW p).1).1,((z89 (oneTW p).1).2.1,((z89 (oneTW p).1).2.2,((oneVW p).1,())))),0)
def qGt (p:LU):Bool:=lenOk p
def z39 (s:LU):List qc:=(z58 s).flatMap fun p=>bif (z59 p).2==0 then [(z59 p).1] else []
def qGu (s:LU):Bool:=lenOk s
def pctS:Nat→LU→LU
 | _,[]=>[]
 | k+1,_ :: r=>pctS k r
 | 0,x :: r=>bif (z166 (x :: r) 0 37).2 then (z166 (x :: r) 0 37).1 :: pctS 2 r else x :: pctS 0 r
def z145 (c:UInt8) (_:Bool) (out:LU):LU:=out++[c]
def qnX (_:UInt8) (_:Bool) (out:LU):Bool:=decide (out.length≤4194304)
def qAU (s out:LU):LU:=out++pctS 0 s
def qcy (s out:LU):Bool:=lenOk s&&decide (out.length≤1048576)
def z110 (s:LU):LU:=pctS 0 s
def qtt (s:LU):Bool:=lenOk s
def chN (x:UInt8):LU→Option Nat
 | []=>none
 | c :: r=>bif c==x then some 0 else (chN x r).map (· + 1)
def z81 (v:LU):LU×(LU×Bool) :=
 match chN 39 v with
 | none=>([],(v,false))
 | some i=>match chN 39 (v.drop (i+1)) with
  | none=>([],(v,false))
  | some j=>(v.take i,((v.drop (i+1)).drop (j+1),true))
def qGv (v:LU):Bool:=lenOk v
def qm (name:LU) (f:qc→Bool):List qc→Option Nat
 | []=>none
 | p :: r=>bif z42 p.1 name&&f p then some 0 else (qm name f r).map (· + 1)
def numP (n:Int) (p:qc):Bool:=p.2.1==n
def extP (p:qc):Bool:=(p.2.1 == -1)&&p.2.2.1
def qaE (p:qc):Bool:=(p.2.1 == -1) && !p.2.2.1
def numsP (l:List qc) (name:LU):Nat→Int→LI
 | 0,_=>[]
 | k+1,n=>match qm name (numP n) l with
  | some i=>(i:Int) :: numsP l name k (n+1)
  | none=>[]
def usedP (l:List qc) (name:LU):LI :=
 match qm name extP l with
 | some i=>[(i:Int)]
 | none=>match numsP l name 1001 0,qm name qaE l with
  | [],some i=>[(i:Int)]
  | o,_=>o
def z56 (l:List qc) (name:LU):LI:=usedP l name
def psOk (l:List qc):Bool:=decide (l.length≤1048576)&&l.all fun p=>lenOk p.1&&(lenOk p.2.2.2.1&&decide (-1≤p.2.1∧p.2.1 < 1000))
def quU (l:List qc) (name:LU):Bool:=psOk l&&lenOk name
def qcz (p:qc):LU:=bif p.2.2.1 then z110 p.2.2.2.1 else p.2.2.2.1
def z83 (p:qc):LU:=qcz p
def qjw (p:qc):Bool:=lenOk p.2.2.2.1
def csP (p:qc):Int:=bif p.2.2.1&&((z81 p.2.2.2.1).2.2&&((z29 (z81 p.2.2.2.1).1).2==0)) then (z29 (z81 p.2.2.2.1).1).1 else 2
def qAV (p:qc):LU:=bif p.2.2.1 then z110 (z81 p.2.2.2.1).2.1 else p.2.2.2.1
def octsP:List qc→LU
 | []=>[]
 | p :: r=>qAV p++r.flatMap qcz
def z57 (l:List qc):LI :=
 match l with
 | []=>[]
 | p :: r=>bif p.2.2.1 then z84 (csP p) (octsP (p :: r)) else z85 (octsP (p :: r))
def quV (l:List qc):Bool:=(psOk l && !l.isEmpty)&&decide ((l.map fun p=>p.2.2.2.1.length).sum≤1048576)
abbrev PairT:=LU×(LI×Unit)
def pickP (l:List qc) (u:LI):List qc:=u.map fun i=>l.getD i.toNat ([],(0,(false,([],()))))
def joinF (l:List qc):List qc→List LU→List PairT
 | [],_=>[]
 | p :: r,met=>bif met.contains (z37 p.1)||(usedP l (z37 p.1)).isEmpty then joinF l r met
  else (z37 p.1,(z57 (pickP l (usedP l (z37 p.1))),())) :: joinF l r (z37 p.1 :: met)
def z38 (l:List qc):List PairT:=joinF l l []
def qqC (l:List qc):Bool:=(psOk l&&decide (l.length≤10000))&&l.all fun p=>decide (p.2.2.2.1.length≤1000)
def z25 (s:LU):List PairT:=z38 (z39 s)
def quW (s:LU):Bool:=lenOk s&&qqC (z39 s)
def qnY (l:List PairT):Bool:=decide (l.length≤1048576)&&l.all fun p=>lenOk p.1&&lenOk p.2.1
end
section
abbrev CtT:=LU×(LU×(List (LU×(LI×Unit))×Unit))
def z10 (t:CtT):CtT:=t
def qFT (t:CtT):Bool:=lenOk t.2.2.1
def farP (p:LU×(LI×Unit)):Bool:=decide ((100:Int) < (p.1.length:Nat))||decide ((80:Int) < (p.2.1.length:Nat))
def z5 (t:CtT):Bool :=
 (t.2.2.1.take 6).any farP||(decide ((6:Int) < (t.2.2.1.length:Nat))||(decide ((100:Int) < (t.1.length:Nat))||decide ((100:Int) < (t.2.1.length:Nat))))
def z6:Bool:=true
def z4 (_:CtT):Bool:=true
end
section
def nilC:CtT:=([],([],([],())))
def tkA (s:LU):LU×(Int×Int):=z36 s (z22 s 0)
def tkS (s:LU):Int×Bool:=z24 s (tkA s).2.1 47
def tkB (s:LU):LU×(Int×Int):=z36 s (z22 s (tkS s).1)
def z23 (s:LU):CtT×(Int×Int) :=
 bif ((tkA s).2.2 != 0)||(!(tkS s).2||((tkB s).2.2 != 0)) then (nilC,(0,3)) else ((z37 (tkA s).1,(z37 (tkB s).1,([],()))),((tkB s).2.1,0))
def qFU (s:LU):Bool:=lenOk s
def restC (s:LU):LU:=s.drop (z24 s (z23 s).2.1 59).1.toNat
def z12 (s:LU):CtT×Int :=
 bif z22 s 0==((s.length:Nat):Int) then (nilC,4) else bif (z23 s).2.2 != 0 then (nilC,(z23 s).2.2) else
 bif z22 s (z23 s).2.1==((s.length:Nat):Int) then ((z23 s).1,0) else bif !(z24 s (z23 s).2.1 59).2 then (nilC,3) else
 (((z23 s).1.1,((z23 s).1.2.1,(z25 (restC s),()))),0)
def qqA (s:LU):Bool:=lenOk s&&quW (restC s)
def laysC:List PairT→LU→LU×Int
 | [],out=>(out,0)
 | p :: r,out=>bif (qad p.1 p.2.1).2 != 0 then ([],(qad p.1 p.2.1).2) else laysC r (out++textL (qad p.1 p.2.1).1)
def z11 (t:CtT):LU×Int:=bif tokB t.1&&tokB t.2.1 then laysC t.2.2.1 ((t.1++[47])++t.2.1) else ([],13)
def quJ (t:CtT):Bool:=(decide (t.1.length≤100)&&decide (t.2.1.length≤100))&&(decide (t.2.2.1.length≤6)&&t.2.2.1.all fun p=>ok36 p.1 p.2.1)
def sameP:List PairT→List PairT→Bool
 | [],[]=>true
 | p :: r,q :: s=>(decide (p.1=q.1)&&decide (p.2.1=q.2.1))&&sameP r s
 | _,_=>false
def z13 (a b:CtT):Bool:=(decide (a.1=b.1)&&decide (a.2.1=b.2.1))&&sameP a.2.2.1 b.2.2.1
def quK (a _:CtT):Bool:=(lenOk a.1&&lenOk a.2.1)&&qnY a.2.2.1
def z4_ok (t:CtT):Bool:=t.2.2.1.all fun p=>i32s p.2.1
end
end Go.Av
