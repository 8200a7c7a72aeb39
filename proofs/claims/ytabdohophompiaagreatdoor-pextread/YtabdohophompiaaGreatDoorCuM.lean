import Derived.Test.YtabdohophompiaaGreatDoorEfM
import Derived.KernelRfl
import Derived.Lib.TrailingZeros
namespace Go.Av
set_option linter.unusedVariables false
set_option linter.unusedSimpArgs false
def z110 (x:Int):Int:=(Lib.ctz 64 x.toNat:Nat)
def qqW (x:Int):Bool:=decide (0≤x∧x < 18446744073709551616)
def z73 (x:Int):Int:=(Lib.ctz 64 x.toNat:Nat)
def quE (x:Int):Bool:=decide (0≤x∧x < 18446744073709551616)
def maskB (a b c d e:Bool):Int:=(bif a then 2 else 0)+(bif b then 4 else 0)+(bif c then 8 else 0)+(bif d then 16 else 0)+(bif e then 32 else 0)
def maskF (p:Int→Bool):Int:=maskB (p 1) (p 2) (p 3) (p 4) (p 5)
def z42 (c:Int):Int:=maskF fun n=>z72 n c
def qzw (p:Int→Bool):Int:=bif p 1 then 1 else bif p 2 then 2 else bif p 3 then 3 else bif p 4 then 4 else bif p 5 then 5 else 0
def z43 (s:Int):Int:=bif s==0 then 0 else (Lib.ctz 64 s.toNat:Nat)
def quF (s:Int):Bool:=decide (0≤s∧s < 64)
def selF (p:Int→Bool):Int×Int:=bif qzw p==0 then (0,7) else (qzw p,0)
def z22 (t:List Int):Int×Int:=selF fun n=>t.all (z72 n)
def quG (t:List Int):Bool:=lenOk t
def joinB (sep:List UInt8):List (List UInt8)→List UInt8
 | []=>[]
 | [a]=>a
 | a :: b :: l=>a++sep++joinB sep (b :: l)
def z30 (l:List (List UInt8)) (sep:List UInt8):List UInt8:=joinB sep l
def qoF (l:List (List UInt8)) (sep:List UInt8):Bool:=decide (l.length≤65536)&&(lenOk sep&&l.all fun s=>decide (s.length≤75))
end Go.Av
