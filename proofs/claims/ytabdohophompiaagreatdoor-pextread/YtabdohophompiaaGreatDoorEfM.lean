import Derived.Test.YtabdohophompiaaGreatDoorEtM
namespace Go.Av
set_option linter.unusedVariables false
set_option linter.unusedSimpArgs false
def hexD:List UInt8:=[48,49,50,51,52,53,54,55,56,57,65,66,67,68,69,70]
def z132 (n:Int):UInt8:=List.getD hexD (Int.toNat (n % 16)) 0
def qcH (n:Int):Bool:=decide (-9223372036854775808≤n∧n≤9223372036854775807)
def qhw (n:Int):Bool:=decide (-9223372036854775808≤n∧n≤9223372036854775807)
def z116 (c:UInt8):List UInt8:=[List.getD hexD (c.toNat / 16) 0,List.getD hexD (c.toNat % 16) 0]
def z80 (b:List UInt8) (sign c:UInt8):List UInt8:=b++sign :: z116 c
def quK (b:List UInt8) (_ _:UInt8):Bool:=lenOk b
def z127 (c:Int):Bool:=decide (55296≤c)&&decide (c≤57343)
def z108 (c:Int):Bool:=decide (IntKind.wrap .u32 c≤1114111) && !(z127 c)
def z122 (c:Int):Bool := !(z108 c)
def qaC (p:Int→Bool):List Int→Int→Int
 | [],_ => -1
 | x :: r,i=>bif p x then qaC p r (i+1) else i
def z89 (s:List Int) (v:Int):Int:=qaC (fun x => !(v==x)) s 0
def qoG (s:List Int) (_:Int):Bool:=lenOk s
def z121 (s:List Int):Int:=qaC z108 s 0
def qcI (s:List Int):Bool:=lenOk s
def z88 (t:List Int):Int:=qaC z108 t 0
def quL (t:List Int):Bool:=lenOk t
def z49 (t:List Int):Bool:=qaC z108 t 0 == -1
def qoH (t:List Int):Bool:=lenOk t
def z128 (c:Int):Int:=bif !(z108 c) then 0 else bif decide (c < 128) then 1 else bif decide (c < 2048) then 2 else bif decide (c < 65536) then 3 else 4
def z129 (n:Int):UInt8:=bif n==2 then 192 else bif n==3 then 224 else bif n==4 then 240 else 0
def oct8 (n:Int):UInt8:=UInt8.ofNat (Int.toNat (IntKind.wrap .u8 n))
def foll (n:Int):UInt8:=128 ||| (oct8 n &&& 63)
def z112 (b:List UInt8) (c:Int):List UInt8×Int :=
 bif z128 c==0 then ([],7)
 else (b++(bif z128 c==4 then [240 ||| oct8 (Int.fdiv c (2 ^ 18)),foll (Int.fdiv c (2 ^ 12)),foll (Int.fdiv c (2 ^ 6)),foll c]
  else bif z128 c==3 then [224 ||| oct8 (Int.fdiv c (2 ^ 12)),foll (Int.fdiv c (2 ^ 6)),foll c]
  else bif z128 c==2 then [192 ||| oct8 (Int.fdiv c (2 ^ 6)),foll c]
  else [0 ||| oct8 (Int.fdiv c (2 ^ 0))]),0)
def qmL (b:List UInt8) (_:Int):Bool:=lenOk b
def z130:List (UInt8×(Int×Unit)):=[(164,(8364,())),(166,(352,())),(168,(353,())),(180,(381,())),(184,(382,())),(188,(338,())),(189,(339,())),(190,(376,()))]
def z113 (c:Int):UInt8×Bool :=
 bif c==8364 then (164,true) else bif c==164 then (0,false) else bif c==352 then (166,true) else bif c==166 then (0,false)
 else bif c==353 then (168,true) else bif c==168 then (0,false) else bif c==381 then (180,true) else bif c==180 then (0,false)
 else bif c==382 then (184,true) else bif c==184 then (0,false) else bif c==338 then (188,true) else bif c==188 then (0,false)
 else bif c==339 then (189,true) else bif c==189 then (0,false) else bif c==376 then (190,true) else bif c==190 then (0,false)
 else bif decide (c < 0)||decide (256≤c) then (0,false) else (oct8 c,true)
def z106 (c:Int):Bool:=(z113 c).2
def z131:List Int:=[8364,0,8218,402,8222,8230,8224,8225,710,8240,352,8249,338,0,381,0,0,8216,8217,8220,8221,8226,8211,8212,732,8482,353,8250,339,0,382,376]
def z115 (c:Int):UInt8×Bool :=
 bif (decide (0≤c)&&decide (c < 128))||(decide (160≤c)&&decide (c < 256)) then (oct8 c,true)
 else bif decide (c < 256) then (0,false)
 else bif decide (z89 z131 c < 0) then (0,false) else (oct8 (IntKind.wrap .i64 (128+z89 z131 c)),true)
def z107 (c:Int):Bool:=(z115 c).2
def z114 (t:List Int):Int:=qaC z107 t 0
def qmM (t:List Int):Bool:=lenOk t
def z105 (c:Int):Bool:=decide (IntKind.wrap .u32 c < 256)
def z92 (t:List Int):Int:=qaC z105 t 0
def quM (t:List Int):Bool:=lenOk t
def z52 (t:List Int):List UInt8×Int:=bif z92 t != -1 then ([],9) else (t.map fun c=>UInt8.ofNat (IntKind.wrap .u8 c).toNat,0)
def qoI (t:List Int):Bool:=lenOk t
def z77 (t:List Int):List UInt8×Int:=bif t.all z106 then (t.map fun c=>(z113 c).1,0) else ([],9)
def quN (t:List Int):Bool:=lenOk t
def z78 (t:List Int):List UInt8×Int:=bif decide (0≤z114 t) then ([],9) else (t.map fun c=>(z115 c).1,0)
def quO (t:List Int):Bool:=lenOk t
def z76 (t:List Int):List UInt8×Int:=bif !(z49 t) then ([],7) else (t.flatMap fun c=>(z112 [] c).1,0)
def quP (t:List Int):Bool:=lenOk t
def z72 (cs c:Int):Bool :=
 bif cs==1 then decide (0≤c)&&decide (c < 128) else bif cs==2 then z105 c else bif cs==3 then z106 c else bif cs==4 then z107 c else bif cs==5 then z108 c else false
def z111 (cs:Int) (t:List Int):Int:=qaC (z72 cs) t 0
def qmN (_:Int) (t:List Int):Bool:=lenOk t
def z74 (cs:Int):Int:=bif cs==1 then 128 else bif cs==2 then 256 else bif cs==3 then 256 else bif cs==4 then 251 else bif cs==5 then 1112064 else 0
def z75 (cs:Int) (t:List Int):Bool:=decide (0 < z74 cs)&&(z111 cs t == -1)
def quQ (_:Int) (t:List Int):Bool:=lenOk t
def z44 (cs:Int) (t:List Int):List UInt8×Int :=
 bif z74 cs==0 then ([],10) else bif !(z75 cs t) then ([],9)
 else bif cs==5 then z76 t else bif cs==3 then z77 t else bif cs==4 then z78 t else z52 t
def quR (_:Int) (t:List Int):Bool:=lenOk t
def i32s (t:List Int):Bool:=t.all fun c=>decide (-2147483648≤c∧c≤2147483647)
def z96 (n:Int):List (List UInt8) :=
 bif n==1 then [[117,115,45,97,115,99,105,105],[97,115,99,105,105],[97,110,115,105,95,120,51,46,52,45,49,57,54,56],[105,115,111,54,52,54,45,117,115]]
 else bif n==2 then [[105,115,111,45,56,56,53,57,45,49],[105,115,111,95,56,56,53,57,45,49],[108,97,116,105,110,49],[108,49]]
 else bif n==3 then [[105,115,111,45,56,56,53,57,45,49,53],[105,115,111,95,56,56,53,57,45,49,53],[108,97,116,105,110,45,57]]
 else bif n==4 then [[119,105,110,100,111,119,115,45,49,50,53,50],[99,112,49,50,53,50]]
 else bif n==5 then [[117,116,102,45,56],[117,116,102,56]] else []
def z56 (n:Int):List UInt8:=List.getD (z96 n) 0 []
def qgs (l:List Int):Int:=l.foldl (fun n b=>IntKind.wrap .i64 (IntKind.wrap .i64 (2*n)+b)) 0
def qoJ (n:Int):UInt8 :=
 let k:=Int.tmod (IntKind.wrap .i64 (Int.tmod n 64+64)) 64
 bif decide (k < 26) then oct8 (IntKind.wrap .i64 (65+k)) else bif decide (k < 52) then oct8 (IntKind.wrap .i64 (IntKind.wrap .i64 (97+k) - 26))
 else bif decide (k < 62) then oct8 (IntKind.wrap .i64 (IntKind.wrap .i64 (48+k) - 52)) else bif k==62 then 43 else 47
def bit8 (c:UInt8) (k:Nat):Int:=Int.tmod (IntKind.wrap .i64 ((UInt8.toNat (UInt8.ofNat (UInt8.toNat c / 2 ^ (min k 8))):Nat):Int)) 2
def qjP (c:UInt8):List Int:=[bit8 c 7,bit8 c 6,bit8 c 5,bit8 c 4,bit8 c 3,bit8 c 2,bit8 c 1,bit8 c 0]
def qdy (s:List UInt8):List Int:=s.flatMap qjP
def sixes:Nat→List Int→List UInt8
 | 0,_=>[]
 | n+1,l=>qoJ (qgs (l.take 6)) :: sixes n (l.drop 6)
def b64D:List UInt8:=[65,66,67,68,69,70,71,72,73,74,75,76,77,78,79,80,81,82,83,84,85,86,87,88,89,90,97,98,99,100,101,102,103,104,105,106,107,108,109,110,111,112,113,114,115,116,117,118,119,120,121,122,48,49,50,51,52,53,54,55,56,57,43,47]
def qef (n:Int):UInt8:=List.getD b64D (Int.toNat (n % 64)) 0
def qeg (c:UInt8):Int×Bool:=bif decide (Lib.indexByte b64D c < 0) then (0,false) else (Lib.indexByte b64D c,true)
def qfg (n:Int):List Int:=[n / 32 % 2,n / 16 % 2,n / 8 % 2,n / 4 % 2,n / 2 % 2,n % 2]
def bitsB (s:List UInt8):List Int:=s.flatMap fun c=>qfg (qeg c).1
def octs:Nat→List Int→List UInt8
 | 0,_=>[]
 | n+1,l=>oct8 (qgs (l.take 8)) :: octs n (l.drop 8)
def z21 (s:List UInt8):List UInt8:=qJ s
def qdz (s:List UInt8):Bool:=lenOk s
end Go.Av
