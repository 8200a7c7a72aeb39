import Derived.Test.YtopepdfipgfakaaGreatDoorEtM
namespace Go.Av
set_option linter.unusedVariables false
set_option linter.unusedSimpArgs false
def hexD:List UInt8:=[48,49,50,51,52,53,54,55,56,57,65,66,67,68,69,70]
def z181 (n:Int):UInt8:=List.getD hexD (Int.toNat (n % 16)) 0
def qcl (n:Int):Bool:=decide (-9223372036854775808≤n∧n≤9223372036854775807)
def z184 (n:Int):UInt8:=List.getD hexD (Int.toNat (n % 16)) 0
def qcm (n:Int):Bool:=decide (-9223372036854775808≤n∧n≤9223372036854775807)
def z130 (c:UInt8):List UInt8:=[List.getD hexD (c.toNat / 16) 0,List.getD hexD (c.toNat % 16) 0]
def z85 (b:List UInt8) (sign c:UInt8):List UInt8:=b++sign :: z130 c
def qAv (b:List UInt8) (_ _:UInt8):Bool:=lenOk b
def z137 (b:List UInt8) (sign c:UInt8):List UInt8:=b++sign :: z130 c
def qpp (b:List UInt8) (_ _:UInt8):Bool:=lenOk b
def z230 (c:Int):Bool:=decide (55296≤c)&&decide (c≤57343)
def z199 (c:Int):Bool:=decide (IntKind.wrap .u32 c≤1114111) && !(z230 c)
def z243 (c:Int):Bool := !(z199 c)
def z234 (c:Int):Bool:=decide (55296≤c)&&decide (c≤57343)
def z209 (c:Int):Bool:=decide (0≤c)&&(decide (c≤1114111) && !(z234 c))
def qV (p:Int→Bool):List Int→Int→Int
 | [],_ => -1
 | x :: r,i=>bif p x then qV p r (i+1) else i
def z233 (s:List Int) (v:Int):Int:=qV (fun x => !(v==x)) s 0
def qeE (s:List Int) (_:Int):Bool:=lenOk s
def z242 (s:List Int):Int:=qV z199 s 0
def qpq (s:List Int):Bool:=lenOk s
def z231 (t:List Int):Int:=qV z199 t 0
def qpr (t:List Int):Bool:=lenOk t
def z203 (t:List Int):Bool:=qV z199 t 0 == -1
def qps (t:List Int):Bool:=lenOk t
def z232 (c:Int):Int:=bif !(z199 c) then 0 else bif decide (c < 128) then 1 else bif decide (c < 2048) then 2 else bif decide (c < 65536) then 3 else 4
def z218 (n:Int):UInt8:=bif n==2 then 192 else bif n==3 then 224 else bif n==4 then 240 else 0
def oct8 (n:Int):UInt8:=UInt8.ofNat (Int.toNat (IntKind.wrap .u8 n))
def foll (n:Int):UInt8:=128 ||| (oct8 n &&& 63)
def z204 (b:List UInt8) (c:Int):List UInt8×Int :=
 bif z232 c==0 then ([],7)
 else (b++(bif z232 c==4 then [240 ||| oct8 (Int.fdiv c (2 ^ 18)),foll (Int.fdiv c (2 ^ 12)),foll (Int.fdiv c (2 ^ 6)),foll c]
  else bif z232 c==3 then [224 ||| oct8 (Int.fdiv c (2 ^ 12)),foll (Int.fdiv c (2 ^ 6)),foll c]
  else bif z232 c==2 then [192 ||| oct8 (Int.fdiv c (2 ^ 6)),foll c]
  else [0 ||| oct8 (Int.fdiv c (2 ^ 0))]),0)
def qpt (b:List UInt8) (_:Int):Bool:=lenOk b
def z171 (c:Int):List UInt8 :=
 bif !(z209 c) then []
 else bif decide (c < 128) then [oct8 c]
 else bif decide (c < 2048) then [oct8 (192+c / 64),oct8 (128+c % 64)]
 else bif decide (c < 65536) then [oct8 (224+c / 4096),oct8 (128+c / 64 % 64),oct8 (128+c % 64)]
 else [oct8 (240+c / 262144),oct8 (128+c / 4096 % 64),oct8 (128+c / 64 % 64),oct8 (128+c % 64)]
def z185:List (UInt8×(Int×Unit)):=[(164,(8364,())),(166,(352,())),(168,(353,())),(180,(381,())),(184,(382,())),(188,(338,())),(189,(339,())),(190,(376,()))]
def z205 (c:Int):UInt8×Bool :=
 bif c==8364 then (164,true) else bif c==164 then (0,false) else bif c==352 then (166,true) else bif c==166 then (0,false)
 else bif c==353 then (168,true) else bif c==168 then (0,false) else bif c==381 then (180,true) else bif c==180 then (0,false)
 else bif c==382 then (184,true) else bif c==184 then (0,false) else bif c==338 then (188,true) else bif c==188 then (0,false)
 else bif c==339 then (189,true) else bif c==189 then (0,false) else bif c==376 then (190,true) else bif c==190 then (0,false)
 else bif decide (c < 0)||decide (256≤c) then (0,false) else (oct8 c,true)
def z197 (c:Int):Bool:=(z205 c).2
def z186:List Int:=[8364,0,8218,402,8222,8230,8224,8225,710,8240,352,8249,338,0,381,0,0,8216,8217,8220,8221,8226,8211,8212,732,8482,353,8250,339,0,382,376]
def z207 (c:Int):UInt8×Bool :=
 bif (decide (0≤c)&&decide (c < 128))||(decide (160≤c)&&decide (c < 256)) then (oct8 c,true)
 else bif decide (c < 256) then (0,false)
 else bif decide (z233 z186 c < 0) then (0,false) else (oct8 (IntKind.wrap .i64 (128+z233 z186 c)),true)
def z198 (c:Int):Bool:=(z207 c).2
def z206 (t:List Int):Int:=qV z198 t 0
def qpu (t:List Int):Bool:=lenOk t
def z196 (c:Int):Bool:=decide (IntKind.wrap .u32 c < 256)
def z208 (t:List Int):Int:=qV z196 t 0
def qpv (t:List Int):Bool:=lenOk t
def z166 (t:List Int):List UInt8×Int:=bif z208 t != -1 then ([],9) else (t.map fun c=>UInt8.ofNat (IntKind.wrap .u8 c).toNat,0)
def qpw (t:List Int):Bool:=lenOk t
def z164 (t:List Int):List UInt8×Int:=bif t.all z197 then (t.map fun c=>(z205 c).1,0) else ([],9)
def qpx (t:List Int):Bool:=lenOk t
def z165 (t:List Int):List UInt8×Int:=bif decide (0≤z206 t) then ([],9) else (t.map fun c=>(z207 c).1,0)
def qpy (t:List Int):Bool:=lenOk t
def z163 (t:List Int):List UInt8×Int:=bif !(z203 t) then ([],7) else (t.flatMap fun c=>(z204 [] c).1,0)
def qpz (t:List Int):Bool:=lenOk t
def z210 (x:UInt8):Int:=IntKind.wrap .i32 (UInt8.toNat x:Nat)
def z168 (c:Int):UInt8×Bool:=bif decide (0≤c)&&decide (c < 256) then (UInt8.ofNat c.toNat,true) else (0,false)
def z64 (x:UInt8):Int :=
 bif x==164 then 8364 else bif x==166 then 352 else bif x==168 then 353 else bif x==180 then 381 else bif x==184 then 382 else bif x==188 then 338
 else bif x==189 then 339 else bif x==190 then 376 else (x.toNat:Int)
def z169 (c:Int):UInt8×Bool:=z205 c
def qDN:List Int:=[8364,65533,8218,402,8222,8230,8224,8225,710,8240,352,8249,338,65533,381,65533,65533,8216,8217,8220,8221,8226,8211,8212,732,8482,353,8250,339,65533,382,376]
def z65 (x:UInt8):Int:=bif decide (x < 128)||decide (159 < x) then (x.toNat:Int) else List.getD qDN (x.toNat - 128) 0
def z170 (c:Int):UInt8×Bool:=z207 c
def z157 (cs c:Int):Bool :=
 bif cs==1 then decide (0≤c)&&decide (c < 128) else bif cs==2 then z196 c else bif cs==3 then z197 c else bif cs==4 then z198 c else bif cs==5 then z199 c else false
def z202 (cs:Int) (t:List Int):Int:=qV (z157 cs) t 0
def qpA (_:Int) (t:List Int):Bool:=lenOk t
def z161 (cs:Int):Int:=bif cs==1 then 128 else bif cs==2 then 256 else bif cs==3 then 256 else bif cs==4 then 251 else bif cs==5 then 1112064 else 0
def z162 (cs:Int) (t:List Int):Bool:=decide (0 < z161 cs)&&(z202 cs t == -1)
def qpB (_:Int) (t:List Int):Bool:=lenOk t
def z120 (cs:Int) (t:List Int):List UInt8×Int :=
 bif z161 cs==0 then ([],10) else bif !(z162 cs t) then ([],9)
 else bif cs==5 then z163 t else bif cs==3 then z164 t else bif cs==4 then z165 t else z166 t
def qho (_:Int) (t:List Int):Bool:=lenOk t
def z167 (cs c:Int):Bool :=
 bif cs==1 then decide (0≤c)&&decide (c < 128) else bif cs==2 then (z168 c).2 else bif cs==3 then (z169 c).2 else bif cs==4 then (z170 c).2 else bif cs==5 then z209 c else false
def z121 (cs c:Int):List UInt8 :=
 bif !(z167 cs c) then [] else bif cs==1 then [oct8 c] else bif cs==2 then [(z168 c).1] else bif cs==3 then [(z169 c).1] else bif cs==4 then [(z170 c).1] else z171 c
def i32s (t:List Int):Bool:=t.all fun c=>decide (-2147483648≤c∧c≤2147483647)
def z76 (cs:Int) (t:List Int):List UInt8×Int :=
 bif decide (cs < 1)||decide (5 < cs) then ([],10)
 else bif t.all (fun c=>(z121 cs c).length != 0) then (t.flatMap (z121 cs),0) else ([],9)
def qAw (_:Int) (t:List Int):Bool:=lenOk t
def z133 (n:Int):List (List UInt8) :=
 bif n==1 then [[117,115,45,97,115,99,105,105],[97,115,99,105,105],[97,110,115,105,95,120,51,46,52,45,49,57,54,56],[105,115,111,54,52,54,45,117,115]]
 else bif n==2 then [[105,115,111,45,56,56,53,57,45,49],[105,115,111,95,56,56,53,57,45,49],[108,97,116,105,110,49],[108,49]]
 else bif n==3 then [[105,115,111,45,56,56,53,57,45,49,53],[105,115,111,95,56,56,53,57,45,49,53],[108,97,116,105,110,45,57]]
 else bif n==4 then [[119,105,110,100,111,119,115,45,49,50,53,50],[99,112,49,50,53,50]]
 else bif n==5 then [[117,116,102,45,56],[117,116,102,56]] else []
def z89 (n:Int):List UInt8:=List.getD (z133 n) 0 []
def z44 (n:Int):Bool:=decide (1≤n)&&decide (n≤5)
def z92 (n:Int):List (List UInt8):=z133 n
def z51 (n:Int):List UInt8:=z89 n
def z45 (n:Int):List UInt8:=bif n==1 then [66] else bif n==2 then [81] else []
def z48 (cs code:Int):List UInt8:=[61,63]++z89 cs++[63]++z45 code++[63]
def z17 (cs:Int):Int:=bif !(z44 cs) then 0 else ((z89 cs).length+7:Nat)
def z18 (cs:Int):Int:=z17 cs
def z87 (n:Int):Int:=bif decide (n < 1) then 0 else IntKind.wrap .i64 (IntKind.wrap .i64 (IntKind.wrap .i64 (Int.tdiv (IntKind.wrap .i64 (n - 1)) 3)*4)+4)
def z84 (c:UInt8):Int:=bif (c==32)||z129 c 128 then 1 else 3
def qLen (s:List UInt8):Nat:=(s.map fun c=>(z84 c).toNat).sum
def z83 (s:List UInt8):Int:=(qLen s:Int)
def qgT (s:List UInt8):Bool:=decide (s.length≤4194304)
def z91 (c:UInt8):List UInt8:=bif c==32 then [95] else bif z82 c 128 then [c] else z137 [] 61 c
def z50 (s:List UInt8):List UInt8:=s.flatMap z91
def qrc (s:List UInt8):Bool:=decide (s.length≤4194304)
def z136 (l:List Int):Int:=l.foldl (fun n b=>IntKind.wrap .i64 (IntKind.wrap .i64 (2*n)+b)) 0
def qhp (l:List Int):Bool:=decide (l.length≤1048576)
def z135 (n:Int):UInt8 :=
 let k:=Int.tmod (IntKind.wrap .i64 (Int.tmod n 64+64)) 64
 bif decide (k < 26) then oct8 (IntKind.wrap .i64 (65+k)) else bif decide (k < 52) then oct8 (IntKind.wrap .i64 (IntKind.wrap .i64 (97+k) - 26))
 else bif decide (k < 62) then oct8 (IntKind.wrap .i64 (IntKind.wrap .i64 (48+k) - 52)) else bif k==62 then 43 else 47
def bit8 (c:UInt8) (k:Nat):Int:=Int.tmod (IntKind.wrap .i64 ((UInt8.toNat (UInt8.ofNat (UInt8.toNat c / 2 ^ (min k 8))):Nat):Int)) 2
def qbC (c:UInt8):List Int:=[bit8 c 7,bit8 c 6,bit8 c 5,bit8 c 4,bit8 c 3,bit8 c 2,bit8 c 1,bit8 c 0]
def z134 (s:List UInt8):List Int:=s.flatMap qbC
def qkR (s:List UInt8):Bool:=decide (s.length≤4194304)
def qL (n m:Nat):Nat:=(m - n % m) % m
def padTo {α:Type} (m:Nat) (x:α) (l:List α):List α:=l++List.replicate (qL l.length m) x
def sixes:Nat→List Int→List UInt8
 | 0,_=>[]
 | n+1,l=>z135 (z136 (l.take 6)) :: sixes n (l.drop 6)
def z90 (s:List UInt8):List UInt8:=sixes ((padTo 6 0 (z134 s)).length / 6) (padTo 6 0 (z134 s))
def qwp (s:List UInt8):Bool:=decide (s.length≤4194304)
def z49 (s:List UInt8):List UInt8:=padTo 4 61 (z90 s)
def qrd (s:List UInt8):Bool:=decide (s.length≤4194304)
def b64D:List UInt8:=[65,66,67,68,69,70,71,72,73,74,75,76,77,78,79,80,81,82,83,84,85,86,87,88,89,90,97,98,99,100,101,102,103,104,105,106,107,108,109,110,111,112,113,114,115,116,117,118,119,120,121,122,48,49,50,51,52,53,54,55,56,57,43,47]
def z132 (n:Int):UInt8:=List.getD b64D (Int.toNat (n % 64)) 0
def z150 (c:UInt8):Int×Bool:=bif decide (Lib.indexByte b64D c < 0) then (0,false) else (Lib.indexByte b64D c,true)
def isB64 (c:UInt8):Bool:=(z150 c).2
def qcn (n:Int):List Int:=[n / 32 % 2,n / 16 % 2,n / 8 % 2,n / 4 % 2,n / 2 % 2,n % 2]
def bitsB (s:List UInt8):List Int:=s.flatMap fun c=>qcn (z150 c).1
def octs:Nat→List Int→List UInt8
 | 0,_=>[]
 | n+1,l=>oct8 (z136 (l.take 8)) :: octs n (l.drop 8)
def z88 (s:List UInt8):List UInt8:=z90 s
def qIJ (s:List UInt8):Bool:=lenOk s
def z47 (s:List UInt8):List UInt8:=z49 s
def qDO (s:List UInt8):Bool:=lenOk s
def z46 (s:List UInt8):List UInt8:=z50 s
def qAx (s:List UInt8):Bool:=decide (s.length≤262144)
def z15 (cs code:Int) (s:List UInt8):List UInt8×Int :=
 bif !(z44 cs) then ([],10) else bif (z45 code==[])||s.isEmpty then ([],3)
 else bif decide (75 < (z48 cs code++(bif code==1 then z47 s else z46 s)++[63,61]).length) then ([],12)
 else (z48 cs code++(bif code==1 then z47 s else z46 s)++[63,61],0)
def qAy (_ _:Int) (s:List UInt8):Bool:=decide (s.length≤262144)
def z21 (a b:List Int):Bool:=decide (a=b)
def qAz (a _b:List Int):Bool:=lenOk a
end Go.Av
