import Derived.Test.YtmdadpepccbpcaaGreatDoorAvE
import Derived.Lib.Bytealg
import Derived.Lib.Index
import Derived.Lib.MapLaws
import Derived.KernelRfl
import Derived.Lib.TrailingZeros
namespace Go.Av
set_option linter.unusedSimpArgs false
set_option linter.unusedVariables false
section
abbrev LU:=List UInt8
abbrev LI:=List Int
set_option linter.unusedVariables false
set_option linter.unusedSimpArgs false
def z164 (s:LU) (c:UInt8):Int:=Lib.indexByte s c
def z170 (a b:LU):Int:=Lib.index a b
def qml (m0:Int) (a b:LU):Bool:=decide (2≤b.length)&&decide ((b.length:Int)≤m0)&&decide (a.length≤1048576)
def z236 (s:LU) (c:UInt8):Int:=Lib.indexByte s c
def z216 (s:LU) (c:UInt8):Int:=Lib.indexByte s c
def z229 (s:LU) (c:UInt8):Bool:=decide ((0:Int)≤Lib.indexByte s c)
def z165 (_s:LU) (_r:Int):Int:=0
def quI (_s:LU) (_r:Int):Bool:=false
def z169 (p:LU):Int×Int:=(((Lib.decodeL p).1:Int),((Lib.decodeL p).2:Int))
def qmm (p:LU):Bool:=decide (0 < p.length)
def z166 (n:Int):Bool:=decide ((8:Int) < n)
def setOf (cs:LU) (a:List Bool):List Bool:=cs.foldl (fun a c=>List.set a c.toNat true) a
def z167 (cs:LU):List Bool×Bool:=(setOf cs (List.replicate 256 false),true)
def ascii (cs:LU):Bool:=cs.all fun c=>decide (c < (128:UInt8))
def qjh (cs:LU):Bool:=ascii cs&&lenOk cs
def z168 (as:List Bool) (c:UInt8):Bool:=List.getD as c.toNat false
def anyAt (cs:LU):LU→Int→Int
 | [],_ => -1
 | x :: r,i=>bif cs.contains x then i else anyAt cs r (i+1)
def z109 (s cs:LU):Int:=anyAt cs s 0
def qji (s cs:LU):Bool:=(decide (2≤cs.length)&&(ascii cs&&lenOk cs))&&lenOk s
def z200 (s cs:LU):Bool:=decide ((0:Int)≤z109 s cs)
def z10 (a b:LU):Bool:=decide (a=b)
def qzP (a _b:LU):Bool:=lenOk a
def orI (a b:Int):Int:=bits .or .i64 a b
def qqk (n:Int) (c:UInt8):Int :=
 bif c==(32:UInt8) then orI n 2 else bif c==(9:UInt8) then orI n 2
 else bif decide ((48:UInt8)≤c)&&decide (c≤(57:UInt8)) then orI n 648
 else bif (decide ((65:UInt8)≤c)&&decide (c≤(90:UInt8)))||(decide ((97:UInt8)≤c)&&decide (c≤(122:UInt8))) then orI n 656 else n
def z228 (c:UInt8):Int:=qqk (bif decide (c < (32:UInt8))||(c==(127:UInt8)) then orI 0 1 else 0) c
def qzQ (t:Bool) (k n:Int):Int:=bif t then orI n k else n
def z198 (c:UInt8):Int :=
 bif decide (c < (33:UInt8))||decide ((126:UInt8) < c) then z228 c
 else
  let n:=qzQ (z229 [43,47] c) 512 (qzQ (z229 [33,42,43,45,47] c) 128 (orI (z228 c) 4))
  bif z229 [40,41,60,62,64,44,59,58,92,34,47,91,93,63,61] c then orI n 32
  else qzQ (!(z229 [42,39,37] c)) 256 (orI n 64)
def z144 (c:UInt8) (k:Int):Bool:=(bits .and .i64 (z198 c) k) != 0
def z143 (s sep:LU):Int:=Lib.index s sep
def qhD (s sep:LU):Bool:=lenOk s&&(lenOk sep&&decide (1≤sep.length))
def z82 (s sep:LU):LU×LU×Bool :=
 bif decide ((0:Int)≤Lib.index s sep) then (s.take (Lib.index s sep).toNat,s.drop ((Lib.index s sep).toNat+sep.length),true) else (s,[],false)
def qsj (s sep:LU):Bool:=lenOk s&&(lenOk sep&&decide (1≤sep.length))
def z153 (b:LU):LU:=b
def qdM (b:LU):Bool:=lenOk b
def z194 (a b:LU):Bool:=a==b
def z210 (s _:LU):LU:=s
def qHI (_ _:LU):Bool:=false
def qDv (s:LU) (_:UInt8):Bool:=lenOk s
def z225 (s:LU) (c:UInt8):Bool:=s.contains c
def z188 (c:UInt8):Int:=z198 c
def z136 (c:UInt8) (k:Int):Bool:=z144 c k
def lineB:Bool→LU→LU→List LU
 | _,cur,[]=>[cur]
 | true,cur,_ :: r=>lineB false cur r
 | false,cur,c :: r=>if c=13∧r.head? = some 10 then cur :: lineB true [] r else lineB false (cur++[c]) r
def qaE (cur s:LU):List LU:=lineB false cur s
def qba:List LU→List LU×Bool
 | []=>([],true)
 | [x]=>if x=[] then ([],true) else ([x],false)
 | x :: r=>(x :: (qba r).1,(qba r).2)
def z102 (s:LU):List LU×Bool:=qba (qaE [] s)
def qql (s:LU):Bool:=lenOk s
def z76 (s:LU):List LU:=(qba (qaE [] s)).1
def qzR (s:LU):Bool:=lenOk s
end
section
def z193 (s:LU) (c:UInt8):Int:=((s.count c:Nat):Int)
def z192 (_:LU):Int:=0
def qDu (_:LU):Bool:=false
def cntF (sep:LU):Nat→LU→Nat
 | 0,_=>0
 | f+1,s=>bif Lib.index s sep == -1 then 0 else cntF sep f (s.drop ((Lib.index s sep).toNat+sep.length))+1
def z139 (s sep:LU):Int:=bif sep.length==1 then ((s.count (sep.headD 0):Nat):Int) else ((cntF sep (s.length+1) s:Nat):Int)
def qeB (s sep:LU):Bool:=lenOk s&&(lenOk sep&&decide (1≤sep.length))
end
section
def hexD:LU:=[48,49,50,51,52,53,54,55,56,57,65,66,67,68,69,70]
def z239 (n:Int):UInt8:=List.getD hexD (Int.toNat (n % 16)) 0
def qdJ (n:Int):Bool:=decide (-9223372036854775808≤n∧n≤9223372036854775807)
def z189 (n:Int):UInt8:=List.getD hexD (Int.toNat (n % 16)) 0
def qdK (n:Int):Bool:=decide (-9223372036854775808≤n∧n≤9223372036854775807)
def z219 (c:UInt8):LU:=[List.getD hexD (c.toNat / 16) 0,List.getD hexD (c.toNat % 16) 0]
def z179 (b:LU) (sign c:UInt8):LU:=b++sign :: z219 c
def qqa (b:LU) (_ _:UInt8):Bool:=lenOk b
def z137 (b:LU) (sign c:UInt8):LU:=b++sign :: z219 c
def qqb (b:LU) (_ _:UInt8):Bool:=lenOk b
def z146 (s:LU):Bool := !(z200 s [97,98,99,100,101,102])
def z211 (c:Int):Bool:=decide (55296≤c)&&decide (c≤57343)
def z161 (c:Int):Bool:=decide (IntKind.wrap .u32 c≤1114111) && !(z211 c)
def z224 (c:Int):Bool := !(z161 c)
def z77 (c:Int):Bool:=decide (55296≤c)&&decide (c≤57343)
def z36 (c:Int):Bool:=decide (0≤c)&&(decide (c≤1114111) && !(z77 c))
def qaW (p:Int→Bool):LI→Int→Int
 | [],_ => -1
 | x :: r,i=>bif p x then qaW p r (i+1) else i
def z186 (s:LI) (v:Int):Int:=qaW (fun x => !(v==x)) s 0
def qqc (s:LI) (_:Int):Bool:=lenOk s
def z223 (s:LI):Int:=qaW z161 s 0
def qqd (s:LI):Bool:=lenOk s
def z183 (t:LI):Int:=qaW z161 t 0
def qqe (t:LI):Bool:=lenOk t
def z125 (t:LI):Bool:=qaW z161 t 0 == -1
def qqf (t:LI):Bool:=lenOk t
def z184 (c:Int):Int:=bif !(z161 c) then 0 else bif decide (c < 128) then 1 else bif decide (c < 2048) then 2 else bif decide (c < 65536) then 3 else 4
def z185 (n:Int):UInt8:=bif n==2 then 192 else bif n==3 then 224 else bif n==4 then 240 else 0
def oct8 (n:Int):UInt8:=UInt8.ofNat (Int.toNat (IntKind.wrap .u8 n))
def foll (n:Int):UInt8:=128 ||| (oct8 n &&& 63)
def z126 (b:LU) (c:Int):LU×Int :=
 bif z184 c==0 then ([],7)
 else (b++(bif z184 c==4 then [240 ||| oct8 (Int.fdiv c (2 ^ 18)),foll (Int.fdiv c (2 ^ 12)),foll (Int.fdiv c (2 ^ 6)),foll c]
  else bif z184 c==3 then [224 ||| oct8 (Int.fdiv c (2 ^ 12)),foll (Int.fdiv c (2 ^ 6)),foll c]
  else bif z184 c==2 then [192 ||| oct8 (Int.fdiv c (2 ^ 6)),foll c]
  else [0 ||| oct8 (Int.fdiv c (2 ^ 0))]),0)
def qqg (b:LU) (_:Int):Bool:=lenOk b
def z135 (c:Int):LU :=
 bif !(z36 c) then []
 else bif decide (c < 128) then [oct8 c]
 else bif decide (c < 2048) then [oct8 (192+c / 64),oct8 (128+c % 64)]
 else bif decide (c < 65536) then [oct8 (224+c / 4096),oct8 (128+c / 64 % 64),oct8 (128+c % 64)]
 else [oct8 (240+c / 262144),oct8 (128+c / 4096 % 64),oct8 (128+c / 64 % 64),oct8 (128+c % 64)]
def z176:List (UInt8×(Int×Unit)):=[(164,(8364,())),(166,(352,())),(168,(353,())),(180,(381,())),(184,(382,())),(188,(338,())),(189,(339,())),(190,(376,()))]
def z127 (c:Int):UInt8×Bool :=
 bif c==8364 then (164,true) else bif c==164 then (0,false) else bif c==352 then (166,true) else bif c==166 then (0,false)
 else bif c==353 then (168,true) else bif c==168 then (0,false) else bif c==381 then (180,true) else bif c==180 then (0,false)
 else bif c==382 then (184,true) else bif c==184 then (0,false) else bif c==338 then (188,true) else bif c==188 then (0,false)
 else bif c==339 then (189,true) else bif c==189 then (0,false) else bif c==376 then (190,true) else bif c==190 then (0,false)
 else bif decide (c < 0)||decide (256≤c) then (0,false) else (oct8 c,true)
def z159 (c:Int):Bool:=(z127 c).2
def z177:LI:=[8364,0,8218,402,8222,8230,8224,8225,710,8240,352,8249,338,0,381,0,0,8216,8217,8220,8221,8226,8211,8212,732,8482,353,8250,339,0,382,376]
def z129 (c:Int):UInt8×Bool :=
 bif (decide (0≤c)&&decide (c < 128))||(decide (160≤c)&&decide (c < 256)) then (oct8 c,true)
 else bif decide (c < 256) then (0,false)
 else bif decide (z186 z177 c < 0) then (0,false) else (oct8 (IntKind.wrap .i64 (128+z186 z177 c)),true)
def z160 (c:Int):Bool:=(z129 c).2
def z128 (t:LI):Int:=qaW z160 t 0
def qqh (t:LI):Bool:=lenOk t
def z158 (c:Int):Bool:=decide (IntKind.wrap .u32 c < 256)
def z130 (t:LI):Int:=qaW z158 t 0
def qqi (t:LI):Bool:=lenOk t
def z70 (t:LI):LU×Int:=bif z130 t != -1 then ([],9) else (t.map fun c=>UInt8.ofNat (IntKind.wrap .u8 c).toNat,0)
def qzI (t:LI):Bool:=lenOk t
def z68 (t:LI):LU×Int:=bif t.all z159 then (t.map fun c=>(z127 c).1,0) else ([],9)
def qzJ (t:LI):Bool:=lenOk t
def z69 (t:LI):LU×Int:=bif decide (0≤z128 t) then ([],9) else (t.map fun c=>(z129 c).1,0)
def qzK (t:LI):Bool:=lenOk t
def z67 (t:LI):LU×Int:=bif !(z125 t) then ([],7) else (t.flatMap fun c=>(z126 [] c).1,0)
def qzL (t:LI):Bool:=lenOk t
def z187 (x:UInt8):Int:=IntKind.wrap .i32 (UInt8.toNat x:Nat)
def z132 (c:Int):UInt8×Bool:=bif decide (0≤c)&&decide (c < 256) then (UInt8.ofNat c.toNat,true) else (0,false)
def z90 (x:UInt8):Int :=
 bif x==164 then 8364 else bif x==166 then 352 else bif x==168 then 353 else bif x==180 then 381 else bif x==184 then 382 else bif x==188 then 338
 else bif x==189 then 339 else bif x==190 then 376 else (x.toNat:Int)
def z133 (c:Int):UInt8×Bool:=z127 c
def qFe:LI:=[8364,65533,8218,402,8222,8230,8224,8225,710,8240,352,8249,338,65533,381,65533,65533,8216,8217,8220,8221,8226,8211,8212,732,8482,353,8250,339,65533,382,376]
def z91 (x:UInt8):Int:=bif decide (x < 128)||decide (159 < x) then (x.toNat:Int) else List.getD qFe (x.toNat - 128) 0
def z134 (c:Int):UInt8×Bool:=z129 c
def z105 (cs c:Int):Bool :=
 bif cs==1 then decide (0≤c)&&decide (c < 128) else bif cs==2 then z158 c else bif cs==3 then z159 c else bif cs==4 then z160 c else bif cs==5 then z161 c else false
def z124 (cs:Int) (t:LI):Int:=qaW (z105 cs) t 0
def qqj (_:Int) (t:LI):Bool:=lenOk t
def z65 (cs:Int):Int:=bif cs==1 then 128 else bif cs==2 then 256 else bif cs==3 then 256 else bif cs==4 then 251 else bif cs==5 then 1112064 else 0
def z66 (cs:Int) (t:LI):Bool:=decide (0 < z65 cs)&&(z124 cs t == -1)
def qzM (_:Int) (t:LI):Bool:=lenOk t
def z31 (cs:Int) (t:LI):LU×Int :=
 bif z65 cs==0 then ([],10) else bif !(z66 cs t) then ([],9)
 else bif cs==5 then z67 t else bif cs==3 then z68 t else bif cs==4 then z69 t else z70 t
def qsh (_:Int) (t:LI):Bool:=lenOk t
def z131 (cs c:Int):Bool :=
 bif cs==1 then decide (0≤c)&&decide (c < 128) else bif cs==2 then (z132 c).2 else bif cs==3 then (z133 c).2 else bif cs==4 then (z134 c).2 else bif cs==5 then z36 c else false
def z71 (cs c:Int):LU :=
 bif !(z131 cs c) then [] else bif cs==1 then [oct8 c] else bif cs==2 then [(z132 c).1] else bif cs==3 then [(z133 c).1] else bif cs==4 then [(z134 c).1] else z135 c
def i32s (t:LI):Bool:=t.all fun c=>decide (-2147483648≤c∧c≤2147483647)
def z32 (cs:Int) (t:LI):LU×Int :=
 bif decide (cs < 1)||decide (5 < cs) then ([],10)
 else bif t.all (fun c=>(z71 cs c).length != 0) then (t.flatMap (z71 cs),0) else ([],9)
def qzN (_:Int) (t:LI):Bool:=lenOk t
def z151 (l:LI):Int:=l.foldl (fun n b=>IntKind.wrap .i64 (IntKind.wrap .i64 (2*n)+b)) 0
def qjg (l:LI):Bool:=decide (l.length≤1048576)
def z191 (n:Int):UInt8 :=
 let k:=Int.tmod (IntKind.wrap .i64 (Int.tmod n 64+64)) 64
 bif decide (k < 26) then oct8 (IntKind.wrap .i64 (65+k)) else bif decide (k < 52) then oct8 (IntKind.wrap .i64 (IntKind.wrap .i64 (97+k) - 26))
 else bif decide (k < 62) then oct8 (IntKind.wrap .i64 (IntKind.wrap .i64 (48+k) - 52)) else bif k==62 then 43 else 47
def bit8 (c:UInt8) (k:Nat):Int:=Int.tmod (IntKind.wrap .i64 ((UInt8.toNat (UInt8.ofNat (UInt8.toNat c / 2 ^ (min k 8))):Nat):Int)) 2
def qcP (c:UInt8):LI:=[bit8 c 7,bit8 c 6,bit8 c 5,bit8 c 4,bit8 c 3,bit8 c 2,bit8 c 1,bit8 c 0]
def z190 (s:LU):LI:=s.flatMap qcP
def qmj (s:LU):Bool:=decide (s.length≤4194304)
def qaJ (n m:Nat):Nat:=(m - n % m) % m
def padTo {α:Type} (m:Nat) (x:α) (l:List α):List α:=l++List.replicate (qaJ l.length m) x
def sixes:Nat→LI→LU
 | 0,_=>[]
 | n+1,l=>z191 (z151 (l.take 6)) :: sixes n (l.drop 6)
def z138 (s:LU):LU:=sixes ((padTo 6 0 (z190 s)).length / 6) (padTo 6 0 (z190 s))
def qmk (s:LU):Bool:=decide (s.length≤4194304)
def z74 (s:LU):LU:=padTo 4 61 (z138 s)
def qsi (s:LU):Bool:=decide (s.length≤4194304)
def b64D:LU:=[65,66,67,68,69,70,71,72,73,74,75,76,77,78,79,80,81,82,83,84,85,86,87,88,89,90,97,98,99,100,101,102,103,104,105,106,107,108,109,110,111,112,113,114,115,116,117,118,119,120,121,122,48,49,50,51,52,53,54,55,56,57,43,47]
def z222 (n:Int):UInt8:=List.getD b64D (Int.toNat (n % 64)) 0
def z175 (c:UInt8):Int×Bool:=bif decide (Lib.indexByte b64D c < 0) then (0,false) else (Lib.indexByte b64D c,true)
def isB64 (c:UInt8):Bool:=(z175 c).2
def qdL (n:Int):LI:=[n / 32 % 2,n / 16 % 2,n / 8 % 2,n / 4 % 2,n / 2 % 2,n % 2]
def bitsB (s:LU):LI:=s.flatMap fun c=>qdL (z175 c).1
def octs:Nat→LI→LU
 | 0,_=>[]
 | n+1,l=>oct8 (z151 (l.take 8)) :: octs n (l.drop 8)
def z182 (s:LU):LU:=z138 s
def qDt (s:LU):Bool:=lenOk s
def z123 (s:LU):LU:=z74 s
def quH (s:LU):Bool:=lenOk s
def z141 (s:LU) (c:UInt8):Int:=Lib.indexByte s c
def z80 (s:LU) (c:UInt8):Int:=Lib.indexByte s c
def z11 (a b:LI):Bool:=decide (a=b)
def qzO (a _b:LI):Bool:=lenOk a
end
section
def z163 (x:Int):Int:=(Lib.ctz 64 x.toNat:Nat)
def qHD (x:Int):Bool:=decide (0≤x∧x < 18446744073709551616)
end
section
abbrev PutT:=Bool×(LU×List LU)
end
section
set_option linter.unusedSimpArgs false
end
section
set_option linter.unusedSimpArgs false
end
section
def brk:LU→Nat
 | []=>0
 | x :: r=>bif x==13 then (match r with | []=>1 | y :: _=>bif y==10 then 2 else 1) else bif x==10 then 1 else 0
def z120 (s:LU) (i:Int):Int:=(brk (s.drop i.toNat):Nat)
def qhW (s:LU) (i:Int):Bool:=lenOk s&&decide (0≤i∧i≤1048577)
def unitQ (c:UInt8) (ends:Bool):LU:=bif ((c != 61)&&z144 c 4)||(!ends&&z144 c 2) then [c] else 61 :: z219 c
def z122 (c:UInt8) (ends:Bool):LU:=unitQ c ends
def z73 (c:UInt8) (ends:Bool):LU:=unitQ c ends
def brksS:Nat→LU→LU
 | _,[]=>[]
 | 0,x :: r=>match brk (x :: r) with
  | 0=>x :: brksS 0 r
  | k+1=>13 :: 10 :: brksS k r
 | k+1,_ :: r=>brksS k r
def z72 (s:LU):LU:=brksS 0 s
def qBA (s:LU):Bool:=lenOk s
abbrev Page:=LU×(Int×Unit)
def pEnd (p:Page) (soft:Bool):Page:=(p.1++(bif soft then [61,13,10] else [13,10]),(0,()))
def z121 (p:Page) (soft:Bool):Page:=pEnd p soft
def qeD (p:Page) (_:Bool):Bool:=decide (p.1.length≤100000000)
def pPut (p:Page) (u:LU):Page :=
 let q:=bif decide (75 < p.2.1+(u.length:Nat)) then pEnd p true else p
 (q.1++u,(q.2.1+(u.length:Nat),()))
def z119 (p:Page) (u:LU):Page:=pPut p u
def qjk (p:Page) (u:LU):Bool:=decide (p.1.length≤100000000)&&(decide (0≤p.2.1∧p.2.1≤1000000)&&decide (u.length≤1000000))
def layS:Nat→LU→Page→Page
 | _,[],p=>p
 | 0,x :: r,p=>match brk (x :: r) with
  | 0=>layS 0 r (pPut p (unitQ x (decide (0 < brk r))))
  | k+1=>layS k r (pEnd p false)
 | k+1,_ :: r,p=>layS k r p
def pDone (p:Page):LU:=bif decide (0 < p.2.1) then (pEnd p true).1 else p.1
def z62 (s:LU):LU:=pDone (layS 0 s ([],(0,())))
def qBB (s:LU):Bool:=lenOk s
def z33 (s:LU):LU:=z62 s
def qBC (s:LU):Bool:=lenOk s
def z171 (s t:LU):Bool:=bif decide (t.length≤s.length) then s.take t.length==t else false
def brkA:LU→Nat
 | []=>0
 | [_]=>1
 | x :: y :: _=>bif (x==13)&&(y==10) then 2 else 1
def z110 (s:LU):Int:=(brkA s:Nat)
def isBrk (c:UInt8):Bool:=(c==13)||(c==10)
def qP (s:LU):LU:=s.takeWhile fun c => !(isBrk c)
def qaF (s:LU):LU:=s.dropWhile fun c => !(isBrk c)
def endOf (s:LU):LU:=(qaF s).take (brkA (qaF s))
def qeE (s:LU):LU:=(qaF s).drop (brkA (qaF s))
def qnc {σ:Type} (f:σ→LU→LU→Bool×Bool×σ):Nat→σ→LU→Bool×σ×LU
 | 0,x,s=>(false,x,s)
 | n+1,x,s=>bif s.isEmpty then (true,x,s) else
  bif (f x (qP s) (endOf s)).1 then
   bif (f x (qP s) (endOf s)).2.1 then qnc f n (f x (qP s) (endOf s)).2.2 (qeE s) else (true,(f x (qP s) (endOf s)).2.2,s)
  else (false,x,s)
def z108 {σ:Type} (f:σ→LU→LU→Bool×Bool×σ) (x:σ) (s:LU):Bool×σ×LU :=
 bif lenOk s then qnc f (s.length+1) x s else (false,x,s)
end
section
def wrapS:Nat→LU→LU
 | 0,_=>[]
 | n+1,l=>bif l.isEmpty then [] else (l.take 76++[13,10])++wrapS n (l.drop 76)
def z64 (s:LU):LU:=wrapS (z123 s).length (z123 s)
def qsY (s:LU):Bool:=decide (s.length≤65536)
def z34 (s:LU):LU:=z64 s
def qwY (s:LU):Bool:=decide (s.length≤65536)
def z142 (s:LU):List LU:=(qba (qaE [] s)).1
def qqP (s:LU):Bool:=lenOk s
def z140 (c:UInt8) (s:LU):Int×LU:=(z139 s [c],s)
def qjj (_:UInt8) (s:LU):Bool:=lenOk s
def bareN:Bool→LU→Nat
 | _,[]=>0
 | p,x :: r=>(bif ((x==13) && !(r.head? == some 10))||((x==10) && !p) then 1 else 0)+bareN (x==13) r
def z79 (s:LU):Int:=(bareN false s:Nat)
def qBl (s:LU):Bool:=lenOk s
def z75 (s:LU):Int:=(bareN false s:Nat)
def qBm (s:LU):Bool:=lenOk s
def maxL:List LU→Nat→Nat
 | [],m=>m
 | l :: r,m=>maxL r (max m l.length)
def z81 (s:LU):Int:=(maxL (z142 s) 0:Nat)
def qBn (s:LU):Bool:=lenOk s
def z78 (c:UInt8):Bool:=decide ((128:UInt8)≤c)
def z37 (s:LU) (most:Int):Int :=
 bif decide (0 < bareN false s)||s.contains 0 then 8
 else bif s.any z78 then 9
 else bif (z142 s).any (fun l=>decide (most < (l.length:Nat))) then 12 else 0
def qsZ (s:LU) (most:Int):Bool:=lenOk s&&decide (0≤most∧most≤1048576)
def z35 (s:LU) (most:Int):Int:=z37 s most
def qta (s:LU) (most:Int):Bool:=lenOk s&&decide (0≤most∧most≤1048576)
def z16_l:Option Int→LI→LI
 | _,[]=>[]
 | p,c :: r=>(bif (c==10)&&(p==some 13) then [] else bif (c==13)||(c==10) then [13,10] else [c])++z16_l (some c) r
def z16 (t:LI):LI:=z16_l none t
def qBo (t:LI):Bool:=lenOk t
def z17 (t:LI):LI:=z16 t
def qBp (t:LI):Bool:=lenOk t
def z60 (s:LU):LU×Int:=(s,z37 s 76)
def qBq (s:LU):Bool:=lenOk s
def z61 (s:LU):LU×Int:=(z62 s,0)
def qBr (s:LU):Bool:=lenOk s
def z63 (s:LU):LU×Int:=(z64 s,0)
def qBs (s:LU):Bool:=qsY s
def z13 (coding charset:Int) (t:LI):LU×Int :=
 bif !((coding==1)||((coding==2)||(coding==3))) then ([],11)
 else bif (z31 charset t).2 != 0 then ([],(z31 charset t).2)
 else bif coding==2 then (z62 (z31 charset t).1,0)
 else bif coding==3 then (z64 (z31 charset t).1,0)
 else bif z37 (z31 charset t).1 76 != 0 then ([],z37 (z31 charset t).1 76)
 else ((z31 charset t).1,0)
def qoN (_ _:Int) (t:LI):Bool:=decide (t.length≤16384)
def z14 (coding charset:Int) (t:LI):LU×Int:=z13 coding charset t
def qtb (_ _:Int) (t:LI):Bool:=decide (t.length≤16384)&&i32s t
def z15 (coding charset:Int) (t:LI):Bool:=(z13 coding charset t).2==0
def qBt (_ _:Int) (t:LI):Bool:=decide (t.length≤16384)
def z7:Bool:=true
def z4 (_:Int×Int×Unit) (_:LI):Bool:=true
def z4_ok (_:Int×Int×Unit) (t:LI):Bool:=i32s t
def z30 (n:Int):AV:=.ite (n==(1:Int)) (.tup [(.fn 60 []),(dg true)]) (.ite (n==(2:Int)) (.tup [(.fn 61 []),(dg true)]) (.ite (n==(3:Int)) (.tup [(.fn 63 []),(dg true)]) (.tup [.bad,(dg false)])))
end
end Go.Av
