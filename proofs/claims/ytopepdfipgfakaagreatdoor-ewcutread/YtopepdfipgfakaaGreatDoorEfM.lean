import Derived.Test.YtopepdfipgfakaaGreatDoorEtM
namespace Go.Av
set_option linter.unusedVariables false
set_option linter.unusedSimpArgs false
def hexD:List UInt8:=[48,49,50,51,52,53,54,55,56,57,65,66,67,68,69,70]
def z181 (n:Int):UInt8:=List.getD hexD (Int.toNat (n % 16)) 0
def qcW (n:Int):Bool:=decide (-9223372036854775808≤n∧n≤9223372036854775807)
def z184 (n:Int):UInt8:=List.getD hexD (Int.toNat (n % 16)) 0
def qbA (n:Int):Bool:=decide (-9223372036854775808≤n∧n≤9223372036854775807)
def z237 (c:UInt8):Int×Bool :=
 bif z129 (z126 c) 8 then ((((z126 c) - (48:UInt8)).toNat:Int),true)
 else bif decide ((97:UInt8)≤z126 c)&&decide (z126 c≤(102:UInt8)) then ((((z126 c) - (97:UInt8)).toNat:Int)+10,true) else (0,false)
def qoN:Nat→Int→UInt8→Int×Bool
 | 0,_,_=>(0,false)
 | d+1,n,c=>bif z184 n==c then (n,true) else bif decide ((10:Int)≤n)&&(z184 n+32==c) then (n,true) else qoN d (n+1) c
def z146 (c:UInt8):Int×Bool:=qoN 16 0 c
def z220 (a b:UInt8):UInt8×Bool :=
 bif (z237 a).2&&(z237 b).2 then (UInt8.ofNat (Int.toNat ((z237 a).1*16+(z237 b).1)),true) else (0,false)
def z130 (c:UInt8):List UInt8:=[List.getD hexD (c.toNat / 16) 0,List.getD hexD (c.toNat % 16) 0]
def qoO (s:List UInt8) (i:Nat) (sign:UInt8):UInt8×Bool :=
 bif List.getD s i 0==sign then z220 (List.getD s (i+1) 0) (List.getD s (i+2) 0) else (0,false)
def z189 (s:List UInt8) (at1:Int) (sign:UInt8):UInt8×Bool :=
 bif decide (0≤at1)&&decide (at1≤(s.length:Int) - 3) then qoO s at1.toNat sign else (0,false)
def z103 (s:List UInt8) (at1:Int) (sign:UInt8):UInt8×Bool:=z189 s at1 sign
def qrs (s:List UInt8) (_:Int) (_:UInt8):Bool:=lenOk s
def z85 (b:List UInt8) (sign c:UInt8):List UInt8:=b++sign :: z130 c
def qDI (b:List UInt8) (_ _:UInt8):Bool:=lenOk b
def z137 (b:List UInt8) (sign c:UInt8):List UInt8:=b++sign :: z130 c
def z230 (c:Int):Bool:=decide (55296≤c)&&decide (c≤57343)
def z199 (c:Int):Bool:=decide (IntKind.wrap .u32 c≤1114111) && !(z230 c)
def z243 (c:Int):Bool := !(z199 c)
def z234 (c:Int):Bool:=decide (55296≤c)&&decide (c≤57343)
def z209 (c:Int):Bool:=decide (0≤c)&&(decide (c≤1114111) && !(z234 c))
def qad (p:Int→Bool):List Int→Int→Int
 | [],_ => -1
 | x :: r,i=>bif p x then qad p r (i+1) else i
def z233 (s:List Int) (v:Int):Int:=qad (fun x => !(v==x)) s 0
def qfr (s:List Int) (_:Int):Bool:=lenOk s
def z242 (s:List Int):Int:=qad z199 s 0
def qrt (s:List Int):Bool:=lenOk s
def z231 (t:List Int):Int:=qad z199 t 0
def qru (t:List Int):Bool:=lenOk t
def z203 (t:List Int):Bool:=qad z199 t 0 == -1
def qrv (t:List Int):Bool:=lenOk t
def z232 (c:Int):Int:=bif !(z199 c) then 0 else bif decide (c < 128) then 1 else bif decide (c < 2048) then 2 else bif decide (c < 65536) then 3 else 4
def z218 (n:Int):UInt8:=bif n==2 then 192 else bif n==3 then 224 else bif n==4 then 240 else 0
def oct8 (n:Int):UInt8:=UInt8.ofNat (Int.toNat (IntKind.wrap .u8 n))
def foll (n:Int):UInt8:=128 ||| (oct8 n &&& 63)
def z204 (b:List UInt8) (c:Int):List UInt8×Int :=
 bif z232 c==0 then ([],7)
 else (b++(bif z232 c==4 then [240 ||| oct8 (Int.fdiv c (2 ^ 18)),foll (Int.fdiv c (2 ^ 12)),foll (Int.fdiv c (2 ^ 6)),foll c]
  else bif z232 c==3 then [224 ||| oct8 (Int.fdiv c (2 ^ 12)),foll (Int.fdiv c (2 ^ 6)),foll c]
  else bif z232 c==2 then [192 ||| oct8 (Int.fdiv c (2 ^ 6)),foll c]
  else [0 ||| oct8 (Int.fdiv c (2 ^ 0))]),0)
def qrw (b:List UInt8) (_:Int):Bool:=lenOk b
def z171 (c:Int):List UInt8 :=
 bif !(z209 c) then []
 else bif decide (c < 128) then [oct8 c]
 else bif decide (c < 2048) then [oct8 (192+c / 64),oct8 (128+c % 64)]
 else bif decide (c < 65536) then [oct8 (224+c / 4096),oct8 (128+c / 64 % 64),oct8 (128+c % 64)]
 else [oct8 (240+c / 262144),oct8 (128+c / 4096 % 64),oct8 (128+c / 64 % 64),oct8 (128+c % 64)]
def z185:List (UInt8×(Int×Unit)):=[(164,(8364,())),(166,(352,())),(168,(353,())),(180,(381,())),(184,(382,())),(188,(338,())),(189,(339,())),(190,(376,()))]
def z205 (c:Int):UInt8×Bool :=
 bif c==8364 then (164,true) else bif c==164 then (0,false) else bif c==352 then (166,true) else bif c==166 then (0,false)
 else bif c==353 then (168,true) else bif c==168 then (0,false) else bif c==381 then (180,true) else bif c==180 then (0,false)
 else bif c==382 then (184,true) else bif c==184 then (0,false) else bif c==338 then (188,true) else bif c==188 then (0,false)
 else bif c==339 then (189,true) else bif c==189 then (0,false) else bif c==376 then (190,true) else bif c==190 then (0,false)
 else bif decide (c < 0)||decide (256≤c) then (0,false) else (oct8 c,true)
def z197 (c:Int):Bool:=(z205 c).2
def z186:List Int:=[8364,0,8218,402,8222,8230,8224,8225,710,8240,352,8249,338,0,381,0,0,8216,8217,8220,8221,8226,8211,8212,732,8482,353,8250,339,0,382,376]
def z207 (c:Int):UInt8×Bool :=
 bif (decide (0≤c)&&decide (c < 128))||(decide (160≤c)&&decide (c < 256)) then (oct8 c,true)
 else bif decide (c < 256) then (0,false)
 else bif decide (z233 z186 c < 0) then (0,false) else (oct8 (IntKind.wrap .i64 (128+z233 z186 c)),true)
def z198 (c:Int):Bool:=(z207 c).2
def z206 (t:List Int):Int:=qad z198 t 0
def qrx (t:List Int):Bool:=lenOk t
def z196 (c:Int):Bool:=decide (IntKind.wrap .u32 c < 256)
def z208 (t:List Int):Int:=qad z196 t 0
def qry (t:List Int):Bool:=lenOk t
def z166 (t:List Int):List UInt8×Int:=bif z208 t != -1 then ([],9) else (t.map fun c=>UInt8.ofNat (IntKind.wrap .u8 c).toNat,0)
def qrz (t:List Int):Bool:=lenOk t
def z164 (t:List Int):List UInt8×Int:=bif t.all z197 then (t.map fun c=>(z205 c).1,0) else ([],9)
def qrA (t:List Int):Bool:=lenOk t
def z165 (t:List Int):List UInt8×Int:=bif decide (0≤z206 t) then ([],9) else (t.map fun c=>(z207 c).1,0)
def qrB (t:List Int):Bool:=lenOk t
def z163 (t:List Int):List UInt8×Int:=bif !(z203 t) then ([],7) else (t.flatMap fun c=>(z204 [] c).1,0)
def qrC (t:List Int):Bool:=lenOk t
def z168 (c:Int):UInt8×Bool:=bif decide (0≤c)&&decide (c < 256) then (UInt8.ofNat c.toNat,true) else (0,false)
def z64 (x:UInt8):Int :=
 bif x==164 then 8364 else bif x==166 then 352 else bif x==168 then 353 else bif x==180 then 381 else bif x==184 then 382 else bif x==188 then 338
 else bif x==189 then 339 else bif x==190 then 376 else (x.toNat:Int)
def z169 (c:Int):UInt8×Bool:=z205 c
def qHK:List Int:=[8364,65533,8218,402,8222,8230,8224,8225,710,8240,352,8249,338,65533,381,65533,65533,8216,8217,8220,8221,8226,8211,8212,732,8482,353,8250,339,65533,382,376]
def z65 (x:UInt8):Int:=bif decide (x < 128)||decide (159 < x) then (x.toNat:Int) else List.getD qHK (x.toNat - 128) 0
def z170 (c:Int):UInt8×Bool:=z207 c
def z157 (cs c:Int):Bool :=
 bif cs==1 then decide (0≤c)&&decide (c < 128) else bif cs==2 then z196 c else bif cs==3 then z197 c else bif cs==4 then z198 c else bif cs==5 then z199 c else false
def z202 (cs:Int) (t:List Int):Int:=qad (z157 cs) t 0
def qrD (_:Int) (t:List Int):Bool:=lenOk t
def z161 (cs:Int):Int:=bif cs==1 then 128 else bif cs==2 then 256 else bif cs==3 then 256 else bif cs==4 then 251 else bif cs==5 then 1112064 else 0
def z162 (cs:Int) (t:List Int):Bool:=decide (0 < z161 cs)&&(z202 cs t == -1)
def qrE (_:Int) (t:List Int):Bool:=lenOk t
def z120 (cs:Int) (t:List Int):List UInt8×Int :=
 bif z161 cs==0 then ([],10) else bif !(z162 cs t) then ([],9)
 else bif cs==5 then z163 t else bif cs==3 then z164 t else bif cs==4 then z165 t else z166 t
def qiC (_:Int) (t:List Int):Bool:=lenOk t
def z167 (cs c:Int):Bool :=
 bif cs==1 then decide (0≤c)&&decide (c < 128) else bif cs==2 then (z168 c).2 else bif cs==3 then (z169 c).2 else bif cs==4 then (z170 c).2 else bif cs==5 then z209 c else false
def z121 (cs c:Int):List UInt8 :=
 bif !(z167 cs c) then [] else bif cs==1 then [oct8 c] else bif cs==2 then [(z168 c).1] else bif cs==3 then [(z169 c).1] else bif cs==4 then [(z170 c).1] else z171 c
def i32s (t:List Int):Bool:=t.all fun c=>decide (-2147483648≤c∧c≤2147483647)
def z76 (cs:Int) (t:List Int):List UInt8×Int :=
 bif decide (cs < 1)||decide (5 < cs) then ([],10)
 else bif t.all (fun c=>(z121 cs c).length != 0) then (t.flatMap (z121 cs),0) else ([],9)
def z133 (n:Int):List (List UInt8) :=
 bif n==1 then [[117,115,45,97,115,99,105,105],[97,115,99,105,105],[97,110,115,105,95,120,51,46,52,45,49,57,54,56],[105,115,111,54,52,54,45,117,115]]
 else bif n==2 then [[105,115,111,45,56,56,53,57,45,49],[105,115,111,95,56,56,53,57,45,49],[108,97,116,105,110,49],[108,49]]
 else bif n==3 then [[105,115,111,45,56,56,53,57,45,49,53],[105,115,111,95,56,56,53,57,45,49,53],[108,97,116,105,110,45,57]]
 else bif n==4 then [[119,105,110,100,111,119,115,45,49,50,53,50],[99,112,49,50,53,50]]
 else bif n==5 then [[117,116,102,45,56],[117,116,102,56]] else []
def z89 (n:Int):List UInt8:=List.getD (z133 n) 0 []
def z44 (n:Int):Bool:=decide (1≤n)&&decide (n≤5)
def z92 (n:Int):List (List UInt8):=z133 n
def z45 (n:Int):List UInt8:=bif n==1 then [66] else bif n==2 then [81] else []
def z48 (cs code:Int):List UInt8:=[61,63]++z89 cs++[63]++z45 code++[63]
def z17 (cs:Int):Int:=bif !(z44 cs) then 0 else ((z89 cs).length+7:Nat)
def z18 (cs:Int):Int:=z17 cs
def z87 (n:Int):Int:=bif decide (n < 1) then 0 else IntKind.wrap .i64 (IntKind.wrap .i64 (IntKind.wrap .i64 (Int.tdiv (IntKind.wrap .i64 (n - 1)) 3)*4)+4)
def z84 (c:UInt8):Int:=bif (c==32)||z129 c 128 then 1 else 3
def qLen (s:List UInt8):Nat:=(s.map fun c=>(z84 c).toNat).sum
def z83 (s:List UInt8):Int:=(qLen s:Int)
def qhZ (s:List UInt8):Bool:=decide (s.length≤4194304)
def z91 (c:UInt8):List UInt8:=bif c==32 then [95] else bif z82 c 128 then [c] else z137 [] 61 c
def z50 (s:List UInt8):List UInt8:=s.flatMap z91
def z136 (l:List Int):Int:=l.foldl (fun n b=>IntKind.wrap .i64 (IntKind.wrap .i64 (2*n)+b)) 0
def qel (l:List Int):Bool:=decide (l.length≤1048576)
def z135 (n:Int):UInt8 :=
 let k:=Int.tmod (IntKind.wrap .i64 (Int.tmod n 64+64)) 64
 bif decide (k < 26) then oct8 (IntKind.wrap .i64 (65+k)) else bif decide (k < 52) then oct8 (IntKind.wrap .i64 (IntKind.wrap .i64 (97+k) - 26))
 else bif decide (k < 62) then oct8 (IntKind.wrap .i64 (IntKind.wrap .i64 (48+k) - 52)) else bif k==62 then 43 else 47
def bit8 (c:UInt8) (k:Nat):Int:=Int.tmod (IntKind.wrap .i64 ((UInt8.toNat (UInt8.ofNat (UInt8.toNat c / 2 ^ (min k 8))):Nat):Int)) 2
def qbX (c:UInt8):List Int:=[bit8 c 7,bit8 c 6,bit8 c 5,bit8 c 4,bit8 c 3,bit8 c 2,bit8 c 1,bit8 c 0]
def z134 (s:List UInt8):List Int:=s.flatMap qbX
def qU (n m:Nat):Nat:=(m - n % m) % m
def padTo {α:Type} (m:Nat) (x:α) (l:List α):List α:=l++List.replicate (qU l.length m) x
def sixes:Nat→List Int→List UInt8
 | 0,_=>[]
 | n+1,l=>z135 (z136 (l.take 6)) :: sixes n (l.drop 6)
def z90 (s:List UInt8):List UInt8:=sixes ((padTo 6 0 (z134 s)).length / 6) (padTo 6 0 (z134 s))
def z49 (s:List UInt8):List UInt8:=padTo 4 61 (z90 s)
def qg (c:UInt8):Nat:=bif decide (c < 128) then 1 else bif decide (c < 194)||decide (244 < c) then 0 else bif decide (c < 224) then 2 else bif decide (c < 240) then 3 else 4
def z217 (c:UInt8):Int:=(qg c:Nat)
def z235 (c:UInt8):Bool:=decide (128≤c)&&decide (c < 192)
def z236 (f c:UInt8):Bool :=
 bif f==224 then decide (160≤c)&&z235 c else bif f==237 then decide (c < 160)&&z235 c
 else bif f==240 then decide (144≤c)&&z235 c else bif f==244 then decide (c < 144)&&z235 c else z235 c
def runB (f:UInt8):Nat→Bool→List UInt8→Nat
 | 0,_,_=>0
 | _,_,[]=>0
 | n+1,one,x :: r=>bif z235 x&&(!one||z236 f x) then runB f n false r+1 else 0
def farN:List UInt8→Nat
 | []=>0
 | x :: r=>bif qg x==0 then 0 else 1+runB x (qg x - 1) true r
def signN (n:Nat):List UInt8→Int
 | []=>0
 | x :: r=>(r.take (n - 1)).foldl (fun c y=>c*64+((y &&& 63).toNat:Int)) (((x &&& (255 ^^^ (z218 (n:Nat)))).toNat:Nat):Int)
def z187 (s:List UInt8):Int×(Int×Int) :=
 match s with
 | []=>(0,0,4)
 | x :: r=>bif farN (x :: r)==0 then (0,1,3) else bif decide (farN (x :: r) < qg x)&&(farN (x :: r)==(x :: r).length) then (0,(farN (x :: r):Nat),4)
  else bif decide (farN (x :: r) < qg x) then (0,(farN (x :: r):Nat),3) else (signN (farN (x :: r)) (x :: r),(farN (x :: r):Nat),0)
def utfR:Nat→List UInt8→List Int
 | 0,_=>[]
 | _,[]=>[]
 | n+1,s=>(bif (z187 s).2.2 != 0 then 65533 else (z187 s).1) :: utfR n (s.drop (z187 s).2.1.toNat)
def z96 (s:List UInt8):List Int:=utfR (s.length+1) s
def z97 (s:List UInt8):List Int:=s.map fun c=>(c.toNat:Int)
def z94 (s:List UInt8):List Int:=s.map z64
def z95 (s:List UInt8):List Int:=s.map z65
def z138 (c:Int):Int:=bif decide (128≤c) then 65533 else c
def z93 (s:List UInt8):List Int:=s.map fun c=>z138 (c.toNat:Int)
def z52 (cs:Int) (s:List UInt8):List Int:=bif cs==1 then z93 s else bif cs==3 then z94 s else bif cs==4 then z95 s else bif cs==5 then z96 s else z97 s
def z153 (c:UInt8):Int:=z217 c
def z193 (c:UInt8):UInt8×UInt8:=bif c==224 then (160,191) else bif c==237 then (128,159) else bif c==240 then (144,191) else bif c==244 then (128,143) else (128,191)
def z152 (s:List UInt8):Int:=(farN s:Nat)
def qrF (s:List UInt8):Bool:=lenOk s
def z111 (s:List UInt8):Int×(Int×Int):=z187 s
def qrG (s:List UInt8):Bool:=lenOk s
def utfE:Nat→List UInt8→Int×Int→Int×Int
 | 0,_,a=>a
 | _,[],a=>a
 | n+1,s,a=>utfE n (s.drop (z187 s).2.1.toNat) (bif (z187 s).2.2 != 0 then (a.1+1,bif a.2==0 then (z187 s).2.2 else a.2) else a)
def z63 (s:List UInt8):List Int×(Int×Int):=(z96 s,utfE (s.length+1) s (0,0))
def qDJ (s:List UInt8):Bool:=lenOk s
def z26 (cs:Int) (s:List UInt8):List Int:=z52 cs s
def qtt (_:Int) (s:List UInt8):Bool:=lenOk s
def z106:List (List UInt8×Int) :=
 ([1,2,3,4,5]:List Int).flatMap fun n=>(z133 n).map fun s=>(s,n)
def z107 (s:List UInt8):List UInt8:=z148 (s.takeWhile fun c=>c != 42)
def qmu (s:List UInt8):List (List UInt8×Int)→Option Int
 | []=>none
 | p :: l=>bif s==p.1 then some p.2 else qmu s l
def z58 (s:List UInt8):Int×Int :=
 match qmu (z79 (z107 s)) z106 with
 | some n=>(n,0)
 | none=>(0,10)
def z105 (s:List UInt8):List UInt8:=z107 s
def qrH (s:List UInt8):Bool:=lenOk s
def z57 (s:List UInt8):Int×Int:=z58 s
def qtu (s:List UInt8):Bool:=lenOk s
def b64D:List UInt8:=[65,66,67,68,69,70,71,72,73,74,75,76,77,78,79,80,81,82,83,84,85,86,87,88,89,90,97,98,99,100,101,102,103,104,105,106,107,108,109,110,111,112,113,114,115,116,117,118,119,120,121,122,48,49,50,51,52,53,54,55,56,57,43,47]
def z132 (n:Int):UInt8:=List.getD b64D (Int.toNat (n % 64)) 0
def z150 (c:UInt8):Int×Bool:=bif decide (Lib.indexByte b64D c < 0) then (0,false) else (Lib.indexByte b64D c,true)
def z145 (c:UInt8):Int×Bool:=z150 c
def isB64 (c:UInt8):Bool:=(z150 c).2
def qar (n:Int):List Int:=[n / 32 % 2,n / 16 % 2,n / 8 % 2,n / 4 % 2,n / 2 % 2,n % 2]
def bitsB (s:List UInt8):List Int:=s.flatMap fun c=>qar (z150 c).1
def z101 (s:List UInt8):List Int×Bool:=bif s.all isB64 then (bitsB s,true) else ([],false)
def qiD (s:List UInt8):Bool:=lenOk s
def octs:Nat→List Int→List UInt8
 | 0,_=>[]
 | n+1,l=>oct8 (z136 (l.take 8)) :: octs n (l.drop 8)
def z102 (l:List Int):List UInt8×Bool:=(octs (l.length / 8) l,z136 (l.drop (l.length / 8*8))==0)
def qiE (l:List Int):Bool:=decide (l.length≤16777216)
def bodyB (s:List UInt8):List UInt8 :=
 let t:=bif s.getLast? == some 61 then s.dropLast else s
 bif t.getLast? == some 61&&(t.length != s.length) then t.dropLast else t
def z108 (s:List UInt8):List UInt8×Int :=
 bif !((bodyB s).all isB64) then ([],3) else bif s.length % 4 != 0 then ([],4) else bif !((z102 (bitsB (bodyB s))).2) then ([],3) else ((z102 (bitsB (bodyB s))).1,0)
def z61 (s:List UInt8):List UInt8×Int:=z108 s
def qDK (s:List UInt8):Bool:=lenOk s
def z59 (s:List UInt8):Bool:=(z108 s).2==0
def z88 (s:List UInt8):List UInt8:=z90 s
def qME (s:List UInt8):Bool:=lenOk s
def z47 (s:List UInt8):List UInt8:=z49 s
def qHL (s:List UInt8):Bool:=lenOk s
def digB (s:List UInt8):List UInt8:=(s.takeWhile fun c=>c != 61).filter isB64
def z143 (s:List UInt8):List UInt8×Int:=((z102 (bitsB (digB s))).1,(((bitsB (digB s)).length % 8:Nat):Int))
def z98 (s:List UInt8):List UInt8:=(z143 s).1
def z100 (s:List UInt8):List UInt8×Int:=(digB s,((((s.takeWhile fun c=>c != 61).filter fun c => !(isB64 c)).length:Nat):Int))
def qrI (s:List UInt8):Bool:=lenOk s
def z55 (s:List UInt8):List UInt8×Int:=z143 s
def qDL (s:List UInt8):Bool:=lenOk s
def qwS:Nat→List UInt8→List UInt8×Nat
 | _,[]=>([],0)
 | k+1,_ :: r=>qwS k r
 | 0,x :: r=>bif (z189 (x :: r) 0 61).2 then ((z189 (x :: r) 0 61).1 :: (qwS 2 r).1,(qwS 2 r).2)
  else ((bif x==95 then 32 else x) :: (qwS 0 r).1,(qwS 0 r).2+(bif x==61 then 1 else 0))
def z144 (s:List UInt8):List UInt8×Int:=((qwS 0 s).1,((qwS 0 s).2:Int))
def z99 (s:List UInt8):List UInt8:=(qwS 0 s).1
def z56 (s:List UInt8):List UInt8×Int:=z144 s
def qtv (s:List UInt8):Bool:=lenOk s
def z60 (s:List UInt8):Int:=bif !(s.all fun c=>z129 c 4)||(s.contains 63||decide (0 < (qwS 0 s).2)) then 3 else 0
def z62 (s:List UInt8):Int:=z60 s
def qDM (s:List UInt8):Bool:=lenOk s
def z46 (s:List UInt8):List UInt8:=z50 s
def qDN (s:List UInt8):Bool:=decide (s.length≤262144)
abbrev Word:=WordT
def csOf (w:Word):Int:=bif (z58 w.1).2 != 0 then 2 else (z58 w.1).1
def octOf (w:Word):List UInt8:=bif w.2.1==1 then z98 w.2.2.1 else z99 w.2.2.1
def z24 (s:List UInt8):Bool:=((z11 s).2==0)&&(((z58 (z11 s).1.1).2==0) &&
 bif (z11 s).1.2.1==1 then z59 (z11 s).1.2.2.1 else z60 (z11 s).1.2.2.1==0)
def z25 (s:List UInt8):Bool:=z24 s
def qDO (s:List UInt8):Bool:=lenOk s
def z22 (s:List UInt8):Int:=bif (z11 s).2 != 0 then 0 else csOf (z11 s).1
def z23 (s:List UInt8):Int:=z22 s
def qhM (s:List UInt8):Bool:=lenOk s
def z19 (s:List UInt8):List Int×Bool:=bif (z11 s).2 != 0 then ([],false) else (z52 (csOf (z11 s).1) (octOf (z11 s).1),true)
def z20 (s:List UInt8):List Int×Bool:=z19 s
def qDP (s:List UInt8):Bool:=lenOk s
def z15 (cs code:Int) (s:List UInt8):List UInt8×Int :=
 bif !(z44 cs) then ([],10) else bif (z45 code==[])||s.isEmpty then ([],3)
 else bif decide (75 < (z48 cs code++(bif code==1 then z47 s else z46 s)++[63,61]).length) then ([],12)
 else (z48 cs code++(bif code==1 then z47 s else z46 s)++[63,61],0)
def qDQ (_ _:Int) (s:List UInt8):Bool:=decide (s.length≤262144)
def z104 (s:List UInt8):List UInt8:=z79 s
def qrJ (s:List UInt8):Bool:=lenOk s
def z21 (a b:List Int):Bool:=decide (a=b)
def qDR (a _b:List Int):Bool:=lenOk a
end Go.Av
