import Derived.Test.YtmdadpepccbpcaaGreatDoorAvE
import Derived.Lib.Bytealg
import Derived.Lib.Index
import Derived.Lib.MapLaws
import Derived.KernelRfl
import Derived.Lib.TrailingZeros
namespace Go.Av
set_option linter.unusedSimpArgs false
set_option linter.unusedVariables false
section
abbrev LU:=List UInt8
abbrev LI:=List Int
set_option linter.unusedVariables false
set_option linter.unusedSimpArgs false
def z164 (s:LU) (c:UInt8):Int:=Lib.indexByte s c
def z170 (a b:LU):Int:=Lib.index a b
def qod (m0:Int) (a b:LU):Bool:=decide (2≤b.length)&&decide ((b.length:Int)≤m0)&&decide (a.length≤1048576)
def z236 (s:LU) (c:UInt8):Int:=Lib.indexByte s c
def z216 (s:LU) (c:UInt8):Int:=Lib.indexByte s c
def z229 (s:LU) (c:UInt8):Bool:=decide ((0:Int)≤Lib.indexByte s c)
def z165 (_s:LU) (_r:Int):Int:=0
def qyl (_s:LU) (_r:Int):Bool:=false
def z169 (p:LU):Int×Int:=(((Lib.decodeL p).1:Int),((Lib.decodeL p).2:Int))
def qoe (p:LU):Bool:=decide (0 < p.length)
def z166 (n:Int):Bool:=decide ((8:Int) < n)
def setOf (cs:LU) (a:List Bool):List Bool:=cs.foldl (fun a c=>List.set a c.toNat true) a
def z167 (cs:LU):List Bool×Bool:=(setOf cs (List.replicate 256 false),true)
def ascii (cs:LU):Bool:=cs.all fun c=>decide (c < (128:UInt8))
def qeJ (cs:LU):Bool:=ascii cs&&lenOk cs
def z168 (as:List Bool) (c:UInt8):Bool:=List.getD as c.toNat false
def anyAt (cs:LU):LU→Int→Int
 | [],_ => -1
 | x :: r,i=>bif cs.contains x then i else anyAt cs r (i+1)
def z109 (s cs:LU):Int:=anyAt cs s 0
def qkw (s cs:LU):Bool:=(decide (2≤cs.length)&&(ascii cs&&lenOk cs))&&lenOk s
def z200 (s cs:LU):Bool:=decide ((0:Int)≤z109 s cs)
def z10 (a b:LU):Bool:=decide (a=b)
def qFb (a _b:LU):Bool:=lenOk a
def orI (a b:Int):Int:=bits .or .i64 a b
def qtu (n:Int) (c:UInt8):Int :=
 bif c==(32:UInt8) then orI n 2 else bif c==(9:UInt8) then orI n 2
 else bif decide ((48:UInt8)≤c)&&decide (c≤(57:UInt8)) then orI n 648
 else bif (decide ((65:UInt8)≤c)&&decide (c≤(90:UInt8)))||(decide ((97:UInt8)≤c)&&decide (c≤(122:UInt8))) then orI n 656 else n
def z228 (c:UInt8):Int:=qtu (bif decide (c < (32:UInt8))||(c==(127:UInt8)) then orI 0 1 else 0) c
def qFc (t:Bool) (k n:Int):Int:=bif t then orI n k else n
def z198 (c:UInt8):Int :=
 bif decide (c < (33:UInt8))||decide ((126:UInt8) < c) then z228 c
 else
  let n:=qFc (z229 [43,47] c) 512 (qFc (z229 [33,42,43,45,47] c) 128 (orI (z228 c) 4))
  bif z229 [40,41,60,62,64,44,59,58,92,34,47,91,93,63,61] c then orI n 32
  else qFc (!(z229 [42,39,37] c)) 256 (orI n 64)
def z144 (c:UInt8) (k:Int):Bool:=(bits .and .i64 (z198 c) k) != 0
def z143 (s sep:LU):Int:=Lib.index s sep
def qiW (s sep:LU):Bool:=lenOk s&&(lenOk sep&&decide (1≤sep.length))
def z82 (s sep:LU):LU×LU×Bool :=
 bif decide ((0:Int)≤Lib.index s sep) then (s.take (Lib.index s sep).toNat,s.drop ((Lib.index s sep).toNat+sep.length),true) else (s,[],false)
def qvO (s sep:LU):Bool:=lenOk s&&(lenOk sep&&decide (1≤sep.length))
def blank (c:UInt8):Bool:=(c==32)||(c==9)
def z153 (b:LU):LU:=b
def qeK (b:LU):Bool:=lenOk b
def z194 (a b:LU):Bool:=a==b
def z206 (s:LU) (_:UInt8):LU:=s
def qym (_:LU) (_:UInt8):Bool:=false
def z210 (s _:LU):LU:=s
def qyn (_ _:LU):Bool:=false
def dropR (p:UInt8→Bool) (s:LU):LU:=(s.reverse.dropWhile p).reverse
def z208 (s:LU) (a:List Bool):LU:=dropR (fun c=>z168 a c) s
def qof (s:LU) (_:List Bool):Bool:=lenOk s
def z154 (c:UInt8):UInt8:=bif decide ((65:UInt8)≤c)&&decide (c≤(90:UInt8)) then c ||| 32 else c
def qKH (s:LU) (_:UInt8):Bool:=lenOk s
def z225 (s:LU) (c:UInt8):Bool:=s.contains c
def z188 (c:UInt8):Int:=z198 c
def z136 (c:UInt8) (k:Int):Bool:=z144 c k
def lineB:Bool→LU→LU→List LU
 | _,cur,[]=>[cur]
 | true,cur,_ :: r=>lineB false cur r
 | false,cur,c :: r=>if c=13∧r.head? = some 10 then cur :: lineB true [] r else lineB false (cur++[c]) r
def qaL (cur s:LU):List LU:=lineB false cur s
def qbs:List LU→List LU×Bool
 | []=>([],true)
 | [x]=>if x=[] then ([],true) else ([x],false)
 | x :: r=>(x :: (qbs r).1,(qbs r).2)
def z102 (s:LU):List LU×Bool:=qbs (qaL [] s)
def qtv (s:LU):Bool:=lenOk s
def z76 (s:LU):List LU:=(qbs (qaL [] s)).1
def qFd (s:LU):Bool:=lenOk s
end
section
def z193 (s:LU) (c:UInt8):Int:=((s.count c:Nat):Int)
def z192 (_:LU):Int:=0
def qKG (_:LU):Bool:=false
def cntF (sep:LU):Nat→LU→Nat
 | 0,_=>0
 | f+1,s=>bif Lib.index s sep == -1 then 0 else cntF sep f (s.drop ((Lib.index s sep).toNat+sep.length))+1
def z139 (s sep:LU):Int:=bif sep.length==1 then ((s.count (sep.headD 0):Nat):Int) else ((cntF sep (s.length+1) s:Nat):Int)
def qfH (s sep:LU):Bool:=lenOk s&&(lenOk sep&&decide (1≤sep.length))
end
section
open List (getD)
open Int (toNat)
open UInt8 (ofNat)
open IntKind (wrap)
def hexD:LU:=[48,49,50,51,52,53,54,55,56,57,65,66,67,68,69,70]
def z239 (n:Int):UInt8:=getD hexD (toNat (n % 16)) 0
def qeI (n:Int):Bool:=decide (-9223372036854775808≤n∧n≤9223372036854775807)
def z189 (n:Int):UInt8:=getD hexD (toNat (n % 16)) 0
def qcl (n:Int):Bool:=decide (-9223372036854775808≤n∧n≤9223372036854775807)
def z230 (c:UInt8):Int×Bool :=
 bif z144 (z154 c) 8 then ((((z154 c) - (48:UInt8)).toNat:Int),true)
 else bif decide ((97:UInt8)≤z154 c)&&decide (z154 c≤(102:UInt8)) then ((((z154 c) - (97:UInt8)).toNat:Int)+10,true) else (0,false)
def qqn:Nat→Int→UInt8→Int×Bool
 | 0,_,_=>(0,false)
 | d+1,n,c=>bif z189 n==c then (n,true) else bif decide ((10:Int)≤n)&&(z189 n+32==c) then (n,true) else qqn d (n+1) c
def z202 (c:UInt8):Int×Bool:=qqn 16 0 c
def z199 (a b:UInt8):UInt8×Bool :=
 bif (z230 a).2&&(z230 b).2 then (ofNat (toNat ((z230 a).1*16+(z230 b).1)),true) else (0,false)
def z219 (c:UInt8):LU:=[getD hexD (c.toNat / 16) 0,getD hexD (c.toNat % 16) 0]
def qvK (s:LU) (i:Nat) (sign:UInt8):UInt8×Bool :=
 bif getD s i 0==sign then z199 (getD s (i+1) 0) (getD s (i+2) 0) else (0,false)
def z145 (s:LU) (at1:Int) (sign:UInt8):UInt8×Bool :=
 bif decide (0≤at1)&&decide (at1≤(s.length:Int) - 3) then qvK s at1.toNat sign else (0,false)
def qtd (s:LU) (_:Int) (_:UInt8):Bool:=lenOk s
def z149 (s:LU) (at1:Int) (sign:UInt8):UInt8×Bool:=z145 s at1 sign
def qte (s:LU) (_:Int) (_:UInt8):Bool:=lenOk s
def z179 (b:LU) (sign c:UInt8):LU:=b++sign :: z219 c
def qtf (b:LU) (_ _:UInt8):Bool:=lenOk b
def z137 (b:LU) (sign c:UInt8):LU:=b++sign :: z219 c
def qtg (b:LU) (_ _:UInt8):Bool:=lenOk b
def z146 (s:LU):Bool := !(z200 s [97,98,99,100,101,102])
def z211 (c:Int):Bool:=decide (55296≤c)&&decide (c≤57343)
def z161 (c:Int):Bool:=decide (wrap .u32 c≤1114111) && !(z211 c)
def z224 (c:Int):Bool := !(z161 c)
def z77 (c:Int):Bool:=decide (55296≤c)&&decide (c≤57343)
def z36 (c:Int):Bool:=decide (0≤c)&&(decide (c≤1114111) && !(z77 c))
def qac (p:Int→Bool):LI→Int→Int
 | [],_ => -1
 | x :: r,i=>bif p x then qac p r (i+1) else i
def z186 (s:LI) (v:Int):Int:=qac (fun x => !(v==x)) s 0
def qth (s:LI) (_:Int):Bool:=lenOk s
def z223 (s:LI):Int:=qac z161 s 0
def qti (s:LI):Bool:=lenOk s
def z183 (t:LI):Int:=qac z161 t 0
def qtj (t:LI):Bool:=lenOk t
def z125 (t:LI):Bool:=qac z161 t 0 == -1
def qtk (t:LI):Bool:=lenOk t
def z184 (c:Int):Int:=bif !(z161 c) then 0 else bif decide (c < 128) then 1 else bif decide (c < 2048) then 2 else bif decide (c < 65536) then 3 else 4
def z185 (n:Int):UInt8:=bif n==2 then 192 else bif n==3 then 224 else bif n==4 then 240 else 0
def oct8 (n:Int):UInt8:=ofNat (toNat (wrap .u8 n))
def foll (n:Int):UInt8:=128 ||| (oct8 n &&& 63)
def z126 (b:LU) (c:Int):LU×Int :=
 bif z184 c==0 then ([],7)
 else (b++(bif z184 c==4 then [240 ||| oct8 (Int.fdiv c (2 ^ 18)),foll (Int.fdiv c (2 ^ 12)),foll (Int.fdiv c (2 ^ 6)),foll c]
  else bif z184 c==3 then [224 ||| oct8 (Int.fdiv c (2 ^ 12)),foll (Int.fdiv c (2 ^ 6)),foll c]
  else bif z184 c==2 then [192 ||| oct8 (Int.fdiv c (2 ^ 6)),foll c]
  else [0 ||| oct8 (Int.fdiv c (2 ^ 0))]),0)
def qtl (b:LU) (_:Int):Bool:=lenOk b
def z135 (c:Int):LU :=
 bif !(z36 c) then []
 else bif decide (c < 128) then [oct8 c]
 else bif decide (c < 2048) then [oct8 (192+c / 64),oct8 (128+c % 64)]
 else bif decide (c < 65536) then [oct8 (224+c / 4096),oct8 (128+c / 64 % 64),oct8 (128+c % 64)]
 else [oct8 (240+c / 262144),oct8 (128+c / 4096 % 64),oct8 (128+c / 64 % 64),oct8 (128+c % 64)]
def z176:List (UInt8×(Int×Unit)):=[(164,(8364,())),(166,(352,())),(168,(353,())),(180,(381,())),(184,(382,())),(188,(338,())),(189,(339,())),(190,(376,()))]
def z127 (c:Int):UInt8×Bool :=
 bif c==8364 then (164,true) else bif c==164 then (0,false) else bif c==352 then (166,true) else bif c==166 then (0,false)
 else bif c==353 then (168,true) else bif c==168 then (0,false) else bif c==381 then (180,true) else bif c==180 then (0,false)
 else bif c==382 then (184,true) else bif c==184 then (0,false) else bif c==338 then (188,true) else bif c==188 then (0,false)
 else bif c==339 then (189,true) else bif c==189 then (0,false) else bif c==376 then (190,true) else bif c==190 then (0,false)
 else bif decide (c < 0)||decide (256≤c) then (0,false) else (oct8 c,true)
def z159 (c:Int):Bool:=(z127 c).2
def z177:LI:=[8364,0,8218,402,8222,8230,8224,8225,710,8240,352,8249,338,0,381,0,0,8216,8217,8220,8221,8226,8211,8212,732,8482,353,8250,339,0,382,376]
def z129 (c:Int):UInt8×Bool :=
 bif (decide (0≤c)&&decide (c < 128))||(decide (160≤c)&&decide (c < 256)) then (oct8 c,true)
 else bif decide (c < 256) then (0,false)
 else bif decide (z186 z177 c < 0) then (0,false) else (oct8 (wrap .i64 (128+z186 z177 c)),true)
def z160 (c:Int):Bool:=(z129 c).2
def z128 (t:LI):Int:=qac z160 t 0
def qtm (t:LI):Bool:=lenOk t
def z158 (c:Int):Bool:=decide (wrap .u32 c < 256)
def z130 (t:LI):Int:=qac z158 t 0
def qtn (t:LI):Bool:=lenOk t
def z70 (t:LI):LU×Int:=bif z130 t != -1 then ([],9) else (t.map fun c=>ofNat (wrap .u8 c).toNat,0)
def qEK (t:LI):Bool:=lenOk t
def z68 (t:LI):LU×Int:=bif t.all z159 then (t.map fun c=>(z127 c).1,0) else ([],9)
def qEL (t:LI):Bool:=lenOk t
def z69 (t:LI):LU×Int:=bif decide (0≤z128 t) then ([],9) else (t.map fun c=>(z129 c).1,0)
def qEM (t:LI):Bool:=lenOk t
def z67 (t:LI):LU×Int:=bif !(z125 t) then ([],7) else (t.flatMap fun c=>(z126 [] c).1,0)
def qEN (t:LI):Bool:=lenOk t
def z187 (x:UInt8):Int:=wrap .i32 (UInt8.toNat x:Nat)
def z132 (c:Int):UInt8×Bool:=bif decide (0≤c)&&decide (c < 256) then (ofNat c.toNat,true) else (0,false)
def z90 (x:UInt8):Int :=
 bif x==164 then 8364 else bif x==166 then 352 else bif x==168 then 353 else bif x==180 then 381 else bif x==184 then 382 else bif x==188 then 338
 else bif x==189 then 339 else bif x==190 then 376 else (x.toNat:Int)
def z133 (c:Int):UInt8×Bool:=z127 c
def qNe:LI:=[8364,65533,8218,402,8222,8230,8224,8225,710,8240,352,8249,338,65533,381,65533,65533,8216,8217,8220,8221,8226,8211,8212,732,8482,353,8250,339,65533,382,376]
def z91 (x:UInt8):Int:=bif decide (x < 128)||decide (159 < x) then (x.toNat:Int) else getD qNe (x.toNat - 128) 0
def z134 (c:Int):UInt8×Bool:=z129 c
def z105 (cs c:Int):Bool :=
 bif cs==1 then decide (0≤c)&&decide (c < 128) else bif cs==2 then z158 c else bif cs==3 then z159 c else bif cs==4 then z160 c else bif cs==5 then z161 c else false
def z124 (cs:Int) (t:LI):Int:=qac (z105 cs) t 0
def qto (_:Int) (t:LI):Bool:=lenOk t
def z65 (cs:Int):Int:=bif cs==1 then 128 else bif cs==2 then 256 else bif cs==3 then 256 else bif cs==4 then 251 else bif cs==5 then 1112064 else 0
def z66 (cs:Int) (t:LI):Bool:=decide (0 < z65 cs)&&(z124 cs t == -1)
def qEO (_:Int) (t:LI):Bool:=lenOk t
def z31 (cs:Int) (t:LI):LU×Int :=
 bif z65 cs==0 then ([],10) else bif !(z66 cs t) then ([],9)
 else bif cs==5 then z67 t else bif cs==3 then z68 t else bif cs==4 then z69 t else z70 t
def qvL (_:Int) (t:LI):Bool:=lenOk t
def z131 (cs c:Int):Bool :=
 bif cs==1 then decide (0≤c)&&decide (c < 128) else bif cs==2 then (z132 c).2 else bif cs==3 then (z133 c).2 else bif cs==4 then (z134 c).2 else bif cs==5 then z36 c else false
def z71 (cs c:Int):LU :=
 bif !(z131 cs c) then [] else bif cs==1 then [oct8 c] else bif cs==2 then [(z132 c).1] else bif cs==3 then [(z133 c).1] else bif cs==4 then [(z134 c).1] else z135 c
def i32s (t:LI):Bool:=t.all fun c=>decide (-2147483648≤c∧c≤2147483647)
def z32 (cs:Int) (t:LI):LU×Int :=
 bif decide (cs < 1)||decide (5 < cs) then ([],10)
 else bif t.all (fun c=>(z71 cs c).length != 0) then (t.flatMap (z71 cs),0) else ([],9)
def qEP (_:Int) (t:LI):Bool:=lenOk t
def z151 (l:LI):Int:=l.foldl (fun n b=>wrap .i64 (wrap .i64 (2*n)+b)) 0
def qdk (l:LI):Bool:=decide (l.length≤1048576)
def z191 (n:Int):UInt8 :=
 let k:=Int.tmod (wrap .i64 (Int.tmod n 64+64)) 64
 bif decide (k < 26) then oct8 (wrap .i64 (65+k)) else bif decide (k < 52) then oct8 (wrap .i64 (wrap .i64 (97+k) - 26))
 else bif decide (k < 62) then oct8 (wrap .i64 (wrap .i64 (48+k) - 52)) else bif k==62 then 43 else 47
def bit8 (c:UInt8) (k:Nat):Int:=Int.tmod (wrap .i64 ((UInt8.toNat (ofNat (UInt8.toNat c / 2 ^ (min k 8))):Nat):Int)) 2
def qcA (c:UInt8):LI:=[bit8 c 7,bit8 c 6,bit8 c 5,bit8 c 4,bit8 c 3,bit8 c 2,bit8 c 1,bit8 c 0]
def z190 (s:LU):LI:=s.flatMap qcA
def qnZ (s:LU):Bool:=decide (s.length≤4194304)
def qN (n m:Nat):Nat:=(m - n % m) % m
def padTo {α:Type} (m:Nat) (x:α) (l:List α):List α:=l++List.replicate (qN l.length m) x
def sixes:Nat→LI→LU
 | 0,_=>[]
 | n+1,l=>z191 (z151 (l.take 6)) :: sixes n (l.drop 6)
def z138 (s:LU):LU:=sixes ((padTo 6 0 (z190 s)).length / 6) (padTo 6 0 (z190 s))
def qoa (s:LU):Bool:=decide (s.length≤4194304)
def z74 (s:LU):LU:=padTo 4 61 (z138 s)
def qvM (s:LU):Bool:=decide (s.length≤4194304)
def qc (c:UInt8):Nat:=bif decide (c < 128) then 1 else bif decide (c < 194)||decide (244 < c) then 0 else bif decide (c < 224) then 2 else bif decide (c < 240) then 3 else 4
def z218 (c:UInt8):Int:=(qc c:Nat)
def z237 (c:UInt8):Bool:=decide (128≤c)&&decide (c < 192)
def z238 (f c:UInt8):Bool :=
 bif f==224 then decide (160≤c)&&z237 c else bif f==237 then decide (c < 160)&&z237 c
 else bif f==240 then decide (144≤c)&&z237 c else bif f==244 then decide (c < 144)&&z237 c else z237 c
def runB (f:UInt8):Nat→Bool→LU→Nat
 | 0,_,_=>0
 | _,_,[]=>0
 | n+1,one,x :: r=>bif z237 x&&(!one||z238 f x) then runB f n false r+1 else 0
def farN:LU→Nat
 | []=>0
 | x :: r=>bif qc x==0 then 0 else 1+runB x (qc x - 1) true r
def z217 (s:LU):Int:=(farN s:Nat)
def qkv (s:LU):Bool:=lenOk s && !(s.isEmpty)
def signN (n:Nat):LU→Int
 | []=>0
 | x :: r=>(r.take (n - 1)).foldl (fun c y=>c*64+((y &&& 63).toNat:Int)) (((x &&& (255 ^^^ (z185 (n:Nat)))).toNat:Nat):Int)
def z178 (s:LU):Int×(Int×Int) :=
 match s with
 | []=>(0,0,4)
 | x :: r=>bif farN (x :: r)==0 then (0,1,3) else bif decide (farN (x :: r) < qc x)&&(farN (x :: r)==(x :: r).length) then (0,(farN (x :: r):Nat),4)
  else bif decide (farN (x :: r) < qc x) then (0,(farN (x :: r):Nat),3) else (signN (farN (x :: r)) (x :: r),(farN (x :: r):Nat),0)
def qtp (s:LU):Bool:=lenOk s
def utfR:Nat→LU→LI
 | 0,_=>[]
 | _,[]=>[]
 | n+1,s=>(bif (z178 s).2.2 != 0 then 65533 else (z178 s).1) :: utfR n (s.drop (z178 s).2.1.toNat)
def z58 (s:LU):LI:=utfR (s.length+1) s
def qEQ (s:LU):Bool:=lenOk s
def z59 (s:LU):LI:=s.map fun c=>(c.toNat:Int)
def qvN (s:LU):Bool:=lenOk s
def z115 (c:UInt8):Int:=z90 c
def z56 (s:LU):LI:=s.map z90
def qER (s:LU):Bool:=lenOk s
def z116 (c:UInt8):Int:=z91 c
def z57 (s:LU):LI:=s.map z91
def qES (s:LU):Bool:=lenOk s
def z114 (c:Int):Int:=bif decide (128≤c) then 65533 else c
def z55 (s:LU):LI:=s.map fun c=>z114 (c.toNat:Int)
def qET (s:LU):Bool:=lenOk s
def z29 (cs:Int) (s:LU):LI:=bif cs==1 then z55 s else bif cs==3 then z56 s else bif cs==4 then z57 s else bif cs==5 then z58 s else z59 s
def qob (_:Int) (s:LU):Bool:=lenOk s
def z204 (c:UInt8):Int:=z218 c
def z232 (c:UInt8):UInt8×UInt8:=bif c==224 then (160,191) else bif c==237 then (128,159) else bif c==240 then (144,191) else bif c==244 then (128,143) else (128,191)
def z203 (s:LU):Int:=(farN s:Nat)
def qtq (s:LU):Bool:=lenOk s
def z152 (s:LU):Int×(Int×Int):=z178 s
def qtr (s:LU):Bool:=lenOk s
def utfE:Nat→LU→Int×Int→Int×Int
 | 0,_,a=>a
 | _,[],a=>a
 | n+1,s,a=>utfE n (s.drop (z178 s).2.1.toNat) (bif (z178 s).2.2 != 0 then (a.1+1,bif a.2==0 then (z178 s).2.2 else a.2) else a)
def z89 (s:LU):LI×(Int×Int):=(z58 s,utfE (s.length+1) s (0,0))
def qEU (s:LU):Bool:=lenOk s
def z42 (cs:Int) (s:LU):LI:=z29 cs s
def qoc (_:Int) (s:LU):Bool:=lenOk s
def b64D:LU:=[65,66,67,68,69,70,71,72,73,74,75,76,77,78,79,80,81,82,83,84,85,86,87,88,89,90,97,98,99,100,101,102,103,104,105,106,107,108,109,110,111,112,113,114,115,116,117,118,119,120,121,122,48,49,50,51,52,53,54,55,56,57,43,47]
def z222 (n:Int):UInt8:=getD b64D (toNat (n % 64)) 0
def z175 (c:UInt8):Int×Bool:=bif decide (Lib.indexByte b64D c < 0) then (0,false) else (Lib.indexByte b64D c,true)
def z150 (c:UInt8):Int×Bool:=z175 c
def isB64 (c:UInt8):Bool:=(z175 c).2
def qbo (n:Int):LI:=[n / 32 % 2,n / 16 % 2,n / 8 % 2,n / 4 % 2,n / 2 % 2,n % 2]
def bitsB (s:LU):LI:=s.flatMap fun c=>qbo (z175 c).1
def z87 (s:LU):LI×Bool:=bif s.all isB64 then (bitsB s,true) else ([],false)
def qEV (s:LU):Bool:=lenOk s
def octs:Nat→LI→LU
 | 0,_=>[]
 | n+1,l=>oct8 (z151 (l.take 8)) :: octs n (l.drop 8)
def z88 (l:LI):LU×Bool:=(octs (l.length / 8) l,z151 (l.drop (l.length / 8*8))==0)
def qEW (l:LI):Bool:=decide (l.length≤16777216)
def z182 (s:LU):LU:=z138 s
def qKF (s:LU):Bool:=lenOk s
def z123 (s:LU):LU:=z74 s
def qyj (s:LU):Bool:=lenOk s
def digB (s:LU):LU:=(s.takeWhile fun c=>c != 61).filter isB64
def z54 (s:LU):LU×Int:=((z88 (bitsB (digB s))).1,(((bitsB (digB s)).length % 8:Nat):Int))
def qEX (s:LU):Bool:=lenOk s
def z28 (s:LU):LU:=(z54 s).1
def qEY (s:LU):Bool:=lenOk s
def z86 (s:LU):LU×Int:=(digB s,((((s.takeWhile fun c=>c != 61).filter fun c => !(isB64 c)).length:Nat):Int))
def qEZ (s:LU):Bool:=lenOk s
def z41 (s:LU):LU×Int:=z54 s
def qFa (s:LU):Bool:=lenOk s
def z141 (s:LU) (c:UInt8):Int:=Lib.indexByte s c
def z80 (s:LU) (c:UInt8):Int:=Lib.indexByte s c
def z215 (s t:LU):Bool:=bif decide (t.length≤s.length) then s.drop (s.length - t.length)==t else false
def qts (s _:LU):Bool:=lenOk s
def z118 (c e:Int) (t:LI):LI:=t++[bif e != 0 then 65533 else c]
def qtt (_ _:Int) (t:LI):Bool:=decide (t.length≤2097152)
def qyk (s:LU) (t:LI):LI:=t++utfR (s.length+1) s
def qcB (s:LU) (t:LI):Bool:=lenOk s&&decide (t.length≤1048576)
def eachB {σ:Type} (f:σ→UInt8→Int→Bool×Bool×σ):σ→LU→Bool×σ
 | x,[]=>(true,x)
 | x,c :: r=>bif c==61 then (true,x) else
  bif (f x c (bif (z175 c).2 then (z175 c).1 else -1)).1 then
   bif (f x c (bif (z175 c).2 then (z175 c).1 else -1)).2.1 then eachB f (f x c (bif (z175 c).2 then (z175 c).1 else -1)).2.2 r
   else (true,(f x c (bif (z175 c).2 then (z175 c).1 else -1)).2.2)
  else (false,x)
def z174 {σ:Type} (f:σ→UInt8→Int→Bool×Bool×σ) (x:σ) (s:LU):Bool×σ×LU :=
 bif lenOk s then ((eachB f x s).1,(eachB f x s).2,s) else (false,x,s)
def z11 (a b:LI):Bool:=decide (a=b)
def qqo (a _b:LI):Bool:=lenOk a
end
section
def z163 (x:Int):Int:=(Lib.ctz 64 x.toNat:Nat)
def qye (x:Int):Bool:=decide (0≤x∧x < 18446744073709551616)
def z106 (x:Int):Int:=(Lib.ctz 64 x.toNat:Nat)
def qta (x:Int):Bool:=decide (0≤x∧x < 18446744073709551616)
def maskB (a b c d e:Bool):Int:=(bif a then 2 else 0)+(bif b then 4 else 0)+(bif c then 8 else 0)+(bif d then 16 else 0)+(bif e then 32 else 0)
def maskF (p:Int→Bool):Int:=maskB (p 1) (p 2) (p 3) (p 4) (p 5)
def z49 (c:Int):Int:=maskF fun n=>z105 n c
def qqj (p:Int→Bool):Int:=bif p 1 then 1 else bif p 2 then 2 else bif p 3 then 3 else bif p 4 then 4 else bif p 5 then 5 else 0
def z50 (s:Int):Int:=bif s==0 then 0 else (Lib.ctz 64 s.toNat:Nat)
def qEA (s:Int):Bool:=decide (0≤s∧s < 64)
def selF (p:Int→Bool):Int×Int:=bif qqj p==0 then (0,7) else (qqj p,0)
def z24 (t:LI):Int×Int:=selF fun n=>t.all (z105 n)
def qEB (t:LI):Bool:=lenOk t
def z107 (cs:Int) (t:LI):Int:=qac (z131 cs) t 0
def qtb (_:Int) (t:LI):Bool:=lenOk t
def z51 (cs:Int) (t:LI):Bool:=(decide (1≤cs)&&decide (cs≤5))&&decide (z107 cs t < 0)
def qEC (_:Int) (t:LI):Bool:=lenOk t
def z26 (t:LI):Int×Int:=selF fun n=>z51 n t
def qED (t:LI):Bool:=lenOk t
end
section
abbrev PutT:=Bool×(LU×List LU)
end
section
set_option linter.unusedSimpArgs false
end
section
def z173 (s t:LU):LU×Bool:=bif z215 s t then (s.take (s.length - t.length),true) else (s,false)
def qtw (s _:LU):Bool:=lenOk s
end
section
def brk:LU→Nat
 | []=>0
 | x :: r=>bif x==13 then (match r with | []=>1 | y :: _=>bif y==10 then 2 else 1) else bif x==10 then 1 else 0
def z120 (s:LU) (i:Int):Int:=(brk (s.drop i.toNat):Nat)
def qje (s:LU) (i:Int):Bool:=lenOk s&&decide (0≤i∧i≤1048577)
def unitQ (c:UInt8) (ends:Bool):LU:=bif ((c != 61)&&z144 c 4)||(!ends&&z144 c 2) then [c] else 61 :: z219 c
def z122 (c:UInt8) (ends:Bool):LU:=unitQ c ends
def z73 (c:UInt8) (ends:Bool):LU:=unitQ c ends
def brksS:Nat→LU→LU
 | _,[]=>[]
 | 0,x :: r=>match brk (x :: r) with
  | 0=>x :: brksS 0 r
  | k+1=>13 :: 10 :: brksS k r
 | k+1,_ :: r=>brksS k r
def z72 (s:LU):LU:=brksS 0 s
def qHD (s:LU):Bool:=lenOk s
abbrev Page:=LU×(Int×Unit)
def pEnd (p:Page) (soft:Bool):Page:=(p.1++(bif soft then [61,13,10] else [13,10]),(0,()))
def z121 (p:Page) (soft:Bool):Page:=pEnd p soft
def qfJ (p:Page) (_:Bool):Bool:=decide (p.1.length≤100000000)
def pPut (p:Page) (u:LU):Page :=
 let q:=bif decide (75 < p.2.1+(u.length:Nat)) then pEnd p true else p
 (q.1++u,(q.2.1+(u.length:Nat),()))
def z119 (p:Page) (u:LU):Page:=pPut p u
def qkz (p:Page) (u:LU):Bool:=decide (p.1.length≤100000000)&&(decide (0≤p.2.1∧p.2.1≤1000000)&&decide (u.length≤1000000))
def layS:Nat→LU→Page→Page
 | _,[],p=>p
 | 0,x :: r,p=>match brk (x :: r) with
  | 0=>layS 0 r (pPut p (unitQ x (decide (0 < brk r))))
  | k+1=>layS k r (pEnd p false)
 | k+1,_ :: r,p=>layS k r p
def pDone (p:Page):LU:=bif decide (0 < p.2.1) then (pEnd p true).1 else p.1
def z62 (s:LU):LU:=pDone (layS 0 s ([],(0,())))
def qHE (s:LU):Bool:=lenOk s
def z33 (s:LU):LU:=z62 s
def qHF (s:LU):Bool:=lenOk s
def z172 (s cs:LU):LU:=dropR (fun c=>cs.contains c) s
def qkA (s cs:LU):Bool:=lenOk s&&(decide (2≤cs.length)&&(ascii cs&&lenOk cs))
def z171 (s t:LU):Bool:=bif decide (t.length≤s.length) then s.take t.length==t else false
def qfK (l:LU):Bool:=l.getLast? == some 61
def bareL (l:LU):LU:=bif qfK (dropR blank l) then (dropR blank l).dropLast else dropR blank l
def z111 (l:LU):LU×Bool:=(bareL l,qfK (dropR blank l))
def qtQ (l:LU):Bool:=lenOk l
def qaQ:Nat→LU→LU×Nat
 | _,[]=>([],0)
 | k+1,_ :: r=>qaQ k r
 | 0,x :: r=>bif (z145 (x :: r) 0 61).2 then ((z145 (x :: r) 0 61).1 :: (qaQ 2 r).1,(qaQ 2 r).2)
  else (x :: (qaQ 0 r).1,(qaQ 0 r).2+(bif x==61 then 1 else 0))
def z112 (l:LU):LU×Int:=((qaQ 0 l).1,((qaQ 0 l).2:Int))
def qtR (l:LU):Bool:=lenOk l
def z53 (l:LU):LU×Bool:=((qaQ 0 (bareL l)).1,qfK (dropR blank l))
def qHG (l:LU):Bool:=lenOk l
def qao (l:LU):Nat:=(qaQ 0 (bareL l)).2
def z85 (l:LU):LU×Bool×Int:=((z53 l).1,(z53 l).2,(qao l:Int))
def qwp (l:LU):Bool:=lenOk l
def brkA:LU→Nat
 | []=>0
 | [_]=>1
 | x :: y :: _=>bif (x==13)&&(y==10) then 2 else 1
def z110 (s:LU):Int:=(brkA s:Nat)
def isBrk (c:UInt8):Bool:=(c==13)||(c==10)
def qz (s:LU):LU:=s.takeWhile fun c => !(isBrk c)
def qX (s:LU):LU:=s.dropWhile fun c => !(isBrk c)
def endOf (s:LU):LU:=(qX s).take (brkA (qX s))
def qbB (s:LU):LU:=(qX s).drop (brkA (qX s))
def qkg {σ:Type} (f:σ→LU→LU→Bool×Bool×σ):Nat→σ→LU→Bool×σ×LU
 | 0,x,s=>(false,x,s)
 | n+1,x,s=>bif s.isEmpty then (true,x,s) else
  bif (f x (qz s) (endOf s)).1 then
   bif (f x (qz s) (endOf s)).2.1 then qkg f n (f x (qz s) (endOf s)).2.2 (qbB s) else (true,(f x (qz s) (endOf s)).2.2,s)
  else (false,x,s)
def z108 {σ:Type} (f:σ→LU→LU→Bool×Bool×σ) (x:σ) (s:LU):Bool×σ×LU :=
 bif lenOk s then qkg f (s.length+1) x s else (false,x,s)
def qad:Bool→LU→LU→List (LU×LU)
 | _,cur,[]=>[(cur,[])]
 | true,cur,_ :: r=>qad false cur r
 | false,cur,c :: r=>bif isBrk c then
  bif (c==13)&&(r.head? == some 10) then (cur,[13,10]) :: qad true [] r else (cur,[c]) :: qad false [] r
  else qad false (cur++[c]) r
def qcT (p:LU×LU):LU:=(z53 p.1).1++(bif (z53 p.1).2 then [] else p.2)
def z27 (s:LU):LU:=(qad false [] s).flatMap qcT
def qHH (s:LU):Bool:=lenOk s
def qcU (l:List (LU×LU)):Nat:=(l.map fun p=>qao p.1).sum
def qoT (s:LU):Int:=(qcU (qad false [] s):Nat)
def z40 (s:LU):LU×Int:=(z27 s,qoT s)
def qHI (s:LU):Bool:=lenOk s
end
section
def wrapS:Nat→LU→LU
 | 0,_=>[]
 | n+1,l=>bif l.isEmpty then [] else (l.take 76++[13,10])++wrapS n (l.drop 76)
def z64 (s:LU):LU:=wrapS (z123 s).length (z123 s)
def qwa (s:LU):Bool:=decide (s.length≤65536)
def z34 (s:LU):LU:=z64 s
def qBp (s:LU):Bool:=decide (s.length≤65536)
def z142 (s:LU):List LU:=(qbs (qaL [] s)).1
def qtK (s:LU):Bool:=lenOk s
def z140 (c:UInt8) (s:LU):Int×LU:=(z139 s [c],s)
def qky (_:UInt8) (s:LU):Bool:=lenOk s
def bareN:Bool→LU→Nat
 | _,[]=>0
 | p,x :: r=>(bif ((x==13) && !(r.head? == some 10))||((x==10) && !p) then 1 else 0)+bareN (x==13) r
def z79 (s:LU):Int:=(bareN false s:Nat)
def qHr (s:LU):Bool:=lenOk s
def z75 (s:LU):Int:=(bareN false s:Nat)
def qHs (s:LU):Bool:=lenOk s
def maxL:List LU→Nat→Nat
 | [],m=>m
 | l :: r,m=>maxL r (max m l.length)
def z81 (s:LU):Int:=(maxL (z142 s) 0:Nat)
def qHt (s:LU):Bool:=lenOk s
def z78 (c:UInt8):Bool:=decide ((128:UInt8)≤c)
def z37 (s:LU) (most:Int):Int :=
 bif decide (0 < bareN false s)||s.contains 0 then 8
 else bif s.any z78 then 9
 else bif (z142 s).any (fun l=>decide (most < (l.length:Nat))) then 12 else 0
def qwb (s:LU) (most:Int):Bool:=lenOk s&&decide (0≤most∧most≤1048576)
def z35 (s:LU) (most:Int):Int:=z37 s most
def qwc (s:LU) (most:Int):Bool:=lenOk s&&decide (0≤most∧most≤1048576)
def z60 (s:LU):LU×Int:=(s,z37 s 76)
def qHu (s:LU):Bool:=lenOk s
def z61 (s:LU):LU×Int:=(z62 s,0)
def qHv (s:LU):Bool:=lenOk s
def z63 (s:LU):LU×Int:=(z64 s,0)
def qHw (s:LU):Bool:=qwa s
def z13 (coding charset:Int) (t:LI):LU×Int :=
 bif !((coding==1)||((coding==2)||(coding==3))) then ([],11)
 else bif (z31 charset t).2 != 0 then ([],(z31 charset t).2)
 else bif coding==2 then (z62 (z31 charset t).1,0)
 else bif coding==3 then (z64 (z31 charset t).1,0)
 else bif z37 (z31 charset t).1 76 != 0 then ([],z37 (z31 charset t).1 76)
 else ((z31 charset t).1,0)
def qwd (_ _:Int) (t:LI):Bool:=decide (t.length≤16384)
def z14 (coding charset:Int) (t:LI):LU×Int:=z13 coding charset t
def qwe (_ _:Int) (t:LI):Bool:=decide (t.length≤16384)&&i32s t
def z12 (coding charset:Int) (s:LU):LI :=
 z29 charset (bif coding==2 then z27 s else bif coding==3 then z28 s else s)
def qrA (_ _:Int) (s:LU):Bool:=decide (s.length≤300000)
def z20 (coding charset:Int) (s:LU):LI:=z12 coding charset s
def qwf (_ _:Int) (s:LU):Bool:=decide (s.length≤300000)
def z25 (a b:LI):Bool:=decide (a=b)
def qwg (a b:LI):Bool:=lenOk a&&lenOk b
def qkf (coding charset:Int) (t:LI):Bool:=((z13 coding charset t).2==0)&&decide (z12 coding charset (z13 coding charset t).1=t)
def z8 (t:LI):Int×Int×LU×Int :=
 bif (z24 t).2 != 0 then (0,0,[],(z24 t).2)
 else bif qkf 1 (z24 t).1 t then (1,(z24 t).1,(z13 1 (z24 t).1 t).1,0)
 else bif qkf 2 (z24 t).1 t then (2,(z24 t).1,(z13 2 (z24 t).1 t).1,0)
 else (3,(z24 t).1,(z13 3 (z24 t).1 t).1,(z13 3 (z24 t).1 t).2)
def z8_ok (t:LI):Bool:=decide (t.length≤4096)
def z9 (t:LI):Int×Int×LU×Int:=z8 t
def z9_ok (t:LI):Bool:=decide (t.length≤4096)&&i32s t
def z7:Bool:=true
def z3 (_:LI):Bool:=true
def z3_ok (t:LI):Bool:=i32s t
def z30 (n:Int):AV:=.ite (n==(1:Int)) (.tup [(.fn 60 []),(dg true)]) (.ite (n==(2:Int)) (.tup [(.fn 61 []),(dg true)]) (.ite (n==(3:Int)) (.tup [(.fn 63 []),(dg true)]) (.tup [.bad,(dg false)])))
end
end Go.Av
