import Derived.Test.YtopepdfipgfakaaDoorEtM
namespace Go.Av
set_option linter.unusedVariables false
set_option linter.unusedSimpArgs false
def hexD:List UInt8:=[48,49,50,51,52,53,54,55,56,57,65,66,67,68,69,70]
def z83 (n:Int):UInt8:=List.getD hexD (Int.toNat (n % 16)) 0
def qfd (n:Int):Bool:=decide (-9223372036854775808≤n∧n≤9223372036854775807)
def qR (n:Int):Bool:=decide (-9223372036854775808≤n∧n≤9223372036854775807)
def z76 (c:UInt8):List UInt8:=[List.getD hexD (c.toNat / 16) 0,List.getD hexD (c.toNat % 16) 0]
def z58 (b:List UInt8) (sign c:UInt8):List UInt8:=b++sign :: z76 c
def qrT (b:List UInt8) (_ _:UInt8):Bool:=lenOk b
def qgr (b:List UInt8) (sign c:UInt8):List UInt8:=b++sign :: z76 c
def z79 (c:Int):Bool:=decide (55296≤c)&&decide (c≤57343)
def z65 (c:Int):Bool:=decide (IntKind.wrap .u32 c≤1114111) && !(z79 c)
def z81 (c:Int):Bool := !(z65 c)
def qbR (c:Int):Bool:=decide (55296≤c)&&decide (c≤57343)
def qbh (c:Int):Bool:=decide (0≤c)&&(decide (c≤1114111) && !(qbR c))
def qav (p:Int→Bool):List Int→Int→Int
 | [],_ => -1
 | x :: r,i=>bif p x then qav p r (i+1) else i
def z73 (s:List Int) (v:Int):Int:=qav (fun x => !(v==x)) s 0
def qhM (s:List Int) (_:Int):Bool:=lenOk s
def z80 (s:List Int):Int:=qav z65 s 0
def qrU (s:List Int):Bool:=lenOk s
def z68 (t:List Int):Int:=qav z65 t 0
def qrV (t:List Int):Bool:=lenOk t
def z51 (t:List Int):Bool:=qav z65 t 0 == -1
def qrW (t:List Int):Bool:=lenOk t
def z69 (c:Int):Int:=bif !(z65 c) then 0 else bif decide (c < 128) then 1 else bif decide (c < 2048) then 2 else bif decide (c < 65536) then 3 else 4
def z71 (n:Int):UInt8:=bif n==2 then 192 else bif n==3 then 224 else bif n==4 then 240 else 0
def oct8 (n:Int):UInt8:=UInt8.ofNat (Int.toNat (IntKind.wrap .u8 n))
def foll (n:Int):UInt8:=128 ||| (oct8 n &&& 63)
def z52 (b:List UInt8) (c:Int):List UInt8×Int :=
 bif z69 c==0 then ([],7)
 else (b++(bif z69 c==4 then [240 ||| oct8 (Int.fdiv c (2 ^ 18)),foll (Int.fdiv c (2 ^ 12)),foll (Int.fdiv c (2 ^ 6)),foll c]
  else bif z69 c==3 then [224 ||| oct8 (Int.fdiv c (2 ^ 12)),foll (Int.fdiv c (2 ^ 6)),foll c]
  else bif z69 c==2 then [192 ||| oct8 (Int.fdiv c (2 ^ 6)),foll c]
  else [0 ||| oct8 (Int.fdiv c (2 ^ 0))]),0)
def qrX (b:List UInt8) (_:Int):Bool:=lenOk b
def qW (c:Int):List UInt8 :=
 bif !(qbh c) then []
 else bif decide (c < 128) then [oct8 c]
 else bif decide (c < 2048) then [oct8 (192+c / 64),oct8 (128+c % 64)]
 else bif decide (c < 65536) then [oct8 (224+c / 4096),oct8 (128+c / 64 % 64),oct8 (128+c % 64)]
 else [oct8 (240+c / 262144),oct8 (128+c / 4096 % 64),oct8 (128+c / 64 % 64),oct8 (128+c % 64)]
def z72:List (UInt8×(Int×Unit)):=[(164,(8364,())),(166,(352,())),(168,(353,())),(180,(381,())),(184,(382,())),(188,(338,())),(189,(339,())),(190,(376,()))]
def z53 (c:Int):UInt8×Bool :=
 bif c==8364 then (164,true) else bif c==164 then (0,false) else bif c==352 then (166,true) else bif c==166 then (0,false)
 else bif c==353 then (168,true) else bif c==168 then (0,false) else bif c==381 then (180,true) else bif c==180 then (0,false)
 else bif c==382 then (184,true) else bif c==184 then (0,false) else bif c==338 then (188,true) else bif c==188 then (0,false)
 else bif c==339 then (189,true) else bif c==189 then (0,false) else bif c==376 then (190,true) else bif c==190 then (0,false)
 else bif decide (c < 0)||decide (256≤c) then (0,false) else (oct8 c,true)
def z63 (c:Int):Bool:=(z53 c).2
def z74:List Int:=[8364,0,8218,402,8222,8230,8224,8225,710,8240,352,8249,338,0,381,0,0,8216,8217,8220,8221,8226,8211,8212,732,8482,353,8250,339,0,382,376]
def z55 (c:Int):UInt8×Bool :=
 bif (decide (0≤c)&&decide (c < 128))||(decide (160≤c)&&decide (c < 256)) then (oct8 c,true)
 else bif decide (c < 256) then (0,false)
 else bif decide (z73 z74 c < 0) then (0,false) else (oct8 (IntKind.wrap .i64 (128+z73 z74 c)),true)
def z64 (c:Int):Bool:=(z55 c).2
def z54 (t:List Int):Int:=qav z64 t 0
def qrY (t:List Int):Bool:=lenOk t
def z62 (c:Int):Bool:=decide (IntKind.wrap .u32 c < 256)
def z56 (t:List Int):Int:=qav z62 t 0
def qrZ (t:List Int):Bool:=lenOk t
def z38 (t:List Int):List UInt8×Int:=bif z56 t != -1 then ([],9) else (t.map fun c=>UInt8.ofNat (IntKind.wrap .u8 c).toNat,0)
def qsa (t:List Int):Bool:=lenOk t
def z36 (t:List Int):List UInt8×Int:=bif t.all z63 then (t.map fun c=>(z53 c).1,0) else ([],9)
def qsb (t:List Int):Bool:=lenOk t
def z37 (t:List Int):List UInt8×Int:=bif decide (0≤z54 t) then ([],9) else (t.map fun c=>(z55 c).1,0)
def qsc (t:List Int):Bool:=lenOk t
def z35 (t:List Int):List UInt8×Int:=bif !(z51 t) then ([],7) else (t.flatMap fun c=>(z52 [] c).1,0)
def qsd (t:List Int):Bool:=lenOk t
def qaL (c:Int):UInt8×Bool:=bif decide (0≤c)&&decide (c < 256) then (UInt8.ofNat c.toNat,true) else (0,false)
def qkz (c:Int):UInt8×Bool:=z53 c
def qkA (c:Int):UInt8×Bool:=z55 c
def z47 (cs c:Int):Bool :=
 bif cs==1 then decide (0≤c)&&decide (c < 128) else bif cs==2 then z62 c else bif cs==3 then z63 c else bif cs==4 then z64 c else bif cs==5 then z65 c else false
def z50 (cs:Int) (t:List Int):Int:=qav (z47 cs) t 0
def qse (_:Int) (t:List Int):Bool:=lenOk t
def z33 (cs:Int):Int:=bif cs==1 then 128 else bif cs==2 then 256 else bif cs==3 then 256 else bif cs==4 then 251 else bif cs==5 then 1112064 else 0
def z34 (cs:Int) (t:List Int):Bool:=decide (0 < z33 cs)&&(z50 cs t == -1)
def qsf (_:Int) (t:List Int):Bool:=lenOk t
def z23 (cs:Int) (t:List Int):List UInt8×Int :=
 bif z33 cs==0 then ([],10) else bif !(z34 cs t) then ([],9)
 else bif cs==5 then z35 t else bif cs==3 then z36 t else bif cs==4 then z37 t else z38 t
def qlK (_:Int) (t:List Int):Bool:=lenOk t
def qaw (cs c:Int):Bool :=
 bif cs==1 then decide (0≤c)&&decide (c < 128) else bif cs==2 then (qaL c).2 else bif cs==3 then (qkz c).2 else bif cs==4 then (qkA c).2 else bif cs==5 then qbh c else false
def qo (cs c:Int):List UInt8 :=
 bif !(qaw cs c) then [] else bif cs==1 then [oct8 c] else bif cs==2 then [(qaL c).1] else bif cs==3 then [(qkz c).1] else bif cs==4 then [(qkA c).1] else qW c
def i32s (t:List Int):Bool:=t.all fun c=>decide (-2147483648≤c∧c≤2147483647)
def ql (cs:Int) (t:List Int):List UInt8×Int :=
 bif decide (cs < 1)||decide (5 < cs) then ([],10)
 else bif t.all (fun c=>(qo cs c).length != 0) then (t.flatMap (qo cs),0) else ([],9)
def z61 (n:Int):List (List UInt8) :=
 bif n==1 then [[117,115,45,97,115,99,105,105],[97,115,99,105,105],[97,110,115,105,95,120,51,46,52,45,49,57,54,56],[105,115,111,54,52,54,45,117,115]]
 else bif n==2 then [[105,115,111,45,56,56,53,57,45,49],[105,115,111,95,56,56,53,57,45,49],[108,97,116,105,110,49],[108,49]]
 else bif n==3 then [[105,115,111,45,56,56,53,57,45,49,53],[105,115,111,95,56,56,53,57,45,49,53],[108,97,116,105,110,45,57]]
 else bif n==4 then [[119,105,110,100,111,119,115,45,49,50,53,50],[99,112,49,50,53,50]]
 else bif n==5 then [[117,116,102,45,56],[117,116,102,56]] else []
def z46 (n:Int):List UInt8:=List.getD (z61 n) 0 []
def z27 (n:Int):Bool:=decide (1≤n)&&decide (n≤5)
def z39 (n:Int):List UInt8:=bif n==1 then [66] else bif n==2 then [81] else []
def z28 (cs code:Int):List UInt8:=[61,63]++z46 cs++[63]++z39 code++[63]
def z17 (cs:Int):Int:=bif !(z27 cs) then 0 else ((z46 cs).length+7:Nat)
def qeU (cs:Int):Int:=z17 cs
def z42 (n:Int):Int:=bif decide (n < 1) then 0 else IntKind.wrap .i64 (IntKind.wrap .i64 (IntKind.wrap .i64 (Int.tdiv (IntKind.wrap .i64 (n - 1)) 3)*4)+4)
def z57 (c:UInt8):Int:=bif (c==32)||z75 c 128 then 1 else 3
def qLen (s:List UInt8):Nat:=(s.map fun c=>(z57 c).toNat).sum
def z43 (s:List UInt8):Int:=(qLen s:Int)
def qfe (s:List UInt8):Bool:=decide (s.length≤4194304)
def qaM (c:UInt8):List UInt8:=bif c==32 then [95] else bif qeV c 128 then [c] else qgr [] 61 c
def qax (s:List UInt8):List UInt8:=s.flatMap qaM
def qX (l:List Int):Int:=l.foldl (fun n b=>IntKind.wrap .i64 (IntKind.wrap .i64 (2*n)+b)) 0
def qaV (n:Int):UInt8 :=
 let k:=Int.tmod (IntKind.wrap .i64 (Int.tmod n 64+64)) 64
 bif decide (k < 26) then oct8 (IntKind.wrap .i64 (65+k)) else bif decide (k < 52) then oct8 (IntKind.wrap .i64 (IntKind.wrap .i64 (97+k) - 26))
 else bif decide (k < 62) then oct8 (IntKind.wrap .i64 (IntKind.wrap .i64 (48+k) - 52)) else bif k==62 then 43 else 47
def bit8 (c:UInt8) (k:Nat):Int:=Int.tmod (IntKind.wrap .i64 ((UInt8.toNat (UInt8.ofNat (UInt8.toNat c / 2 ^ (min k 8))):Nat):Int)) 2
def qcE (c:UInt8):List Int:=[bit8 c 7,bit8 c 6,bit8 c 5,bit8 c 4,bit8 c 3,bit8 c 2,bit8 c 1,bit8 c 0]
def qr (s:List UInt8):List Int:=s.flatMap qcE
def qar (n m:Nat):Nat:=(m - n % m) % m
def padTo {α:Type} (m:Nat) (x:α) (l:List α):List α:=l++List.replicate (qar l.length m) x
def sixes:Nat→List Int→List UInt8
 | 0,_=>[]
 | n+1,l=>qaV (qX (l.take 6)) :: sixes n (l.drop 6)
def qk (s:List UInt8):List UInt8:=sixes ((padTo 6 0 (qr s)).length / 6) (padTo 6 0 (qr s))
def qaN (s:List UInt8):List UInt8:=padTo 4 61 (qk s)
def b64D:List UInt8:=[65,66,67,68,69,70,71,72,73,74,75,76,77,78,79,80,81,82,83,84,85,86,87,88,89,90,97,98,99,100,101,102,103,104,105,106,107,108,109,110,111,112,113,114,115,116,117,118,119,120,121,122,48,49,50,51,52,53,54,55,56,57,43,47]
def z78 (n:Int):UInt8:=List.getD b64D (Int.toNat (n % 64)) 0
def qaW (c:UInt8):Int×Bool:=bif decide (Lib.indexByte b64D c < 0) then (0,false) else (Lib.indexByte b64D c,true)
def isB64 (c:UInt8):Bool:=(qaW c).2
def qbS (n:Int):List Int:=[n / 32 % 2,n / 16 % 2,n / 8 % 2,n / 4 % 2,n / 2 % 2,n % 2]
def bitsB (s:List UInt8):List Int:=s.flatMap fun c=>qbS (qaW c).1
def octs:Nat→List Int→List UInt8
 | 0,_=>[]
 | n+1,l=>oct8 (qX (l.take 8)) :: octs n (l.drop 8)
def z60 (s:List UInt8):List UInt8:=qk s
def qxZ (s:List UInt8):Bool:=lenOk s
def z41 (s:List UInt8):List UInt8:=qaN s
def qwu (s:List UInt8):Bool:=lenOk s
def z40 (s:List UInt8):List UInt8:=qax s
def qsg (s:List UInt8):Bool:=decide (s.length≤262144)
def z24 (cs code:Int) (s:List UInt8):List UInt8×Int :=
 bif !(z27 cs) then ([],10) else bif (z39 code==[])||s.isEmpty then ([],3)
 else bif decide (75 < (z28 cs code++(bif code==1 then z41 s else z40 s)++[63,61]).length) then ([],12)
 else (z28 cs code++(bif code==1 then z41 s else z40 s)++[63,61],0)
def qsh (_ _:Int) (s:List UInt8):Bool:=decide (s.length≤262144)
def z6 (a b:List Int):Bool:=decide (a=b)
def z6_ok (a _b:List Int):Bool:=lenOk a
end Go.Av
