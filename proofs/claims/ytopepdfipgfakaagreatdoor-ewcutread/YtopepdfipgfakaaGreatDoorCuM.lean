import Derived.Test.YtopepdfipgfakaaGreatDoorEfM
import Derived.KernelRfl
import Derived.Lib.TrailingZeros
namespace Go.Av
set_option linter.unusedVariables false
set_option linter.unusedSimpArgs false
def z194 (_:Unit):Int:=1
def z195 (_:Unit):Int:=2
def z155 (code:Int):AV:=.ite (code==(1:Int)) (.iface 178 (.dat .unit () none)) (.ite (code==(2:Int)) (.iface 179 (.dat .unit () none)) .nilIface)
def qfm (s:List UInt8):Bool:=qhZ s
def z112 (cs code:Int) (t:List Int):Int×Int :=
 bif (z120 cs t).2==10 then (0,10)
 else bif (code != 1)&&(code != 2) then (0,3)
 else bif (z120 cs t).2 != 0 then (0,(z120 cs t).2)
 else bif code==1 then (z87 ((z120 cs t).1.length:Nat),0) else (z83 (z120 cs t).1,0)
def qfn (_ _:Int) (t:List Int):Bool:=lenOk t
def z66 (cs code:Int) (t:List Int):Int×Int :=
 bif (z112 cs code t).2 != 0 then (0,(z112 cs code t).2) else (IntKind.wrap .i64 ((z112 cs code t).1+z17 cs),0)
def qsY (_ _:Int) (t:List Int):Bool:=lenOk t
def z159 (cs code:Int) (t:List Int):Int:=(z112 cs code t).1
def qii (_ _:Int) (t:List Int):Bool:=lenOk t
def z118 (cs:Int) (t:List Int):Int:=IntKind.wrap .i64 (z159 cs 1 t - z159 cs 2 t)
def qql (_:Int) (t:List Int):Bool:=lenOk t
def z72 (cs:Int) (t:List Int):Int×Int :=
 bif (z112 cs 1 t).2 != 0 then (0,(z112 cs 1 t).2) else bif decide (0≤z118 cs t) then (2,0) else (1,0)
def qBi (_:Int) (t:List Int):Bool:=lenOk t
def z156 (cs code:Int) (t:List Int) (room:Int):Bool :=
 ((z66 cs code t).2==0)&&(decide ((0:Int) < (t.length:Nat))&&decide ((z66 cs code t).1≤bif decide (75 < room) then 75 else room))
def qqm (_ _:Int) (t:List Int) (_:Int):Bool:=lenOk t
def qy (p:List Int→Bool) (t:List Int):Nat→Nat→Nat
 | 0,n=>n
 | d+1,n=>bif p (t.take (n+1)) then qy p t d (n+1) else n
def z114 (cs code:Int) (t:List Int) (room:Int):Int:=(qy (fun u=>z156 cs code u room) t t.length 0:Nat)
def qqn (_ _:Int) (t:List Int) (_:Int):Bool:=lenOk t
def z69 (cs code:Int) (t:List Int):Int×Int :=
 bif (z76 cs t).2==10 then (0,10)
 else bif (code != 1)&&(code != 2) then (0,3)
 else bif (z76 cs t).2 != 0 then (0,(z76 cs t).2)
 else bif code==1 then (IntKind.wrap .i64 (z18 cs+((z49 (z76 cs t).1).length:Nat)),0) else (IntKind.wrap .i64 (z18 cs+((z50 (z76 cs t).1).length:Nat)),0)
def z74 (cs:Int) (t:List Int):Int×Int :=
 bif (z69 cs 1 t).2 != 0 then (0,(z69 cs 1 t).2) else bif decide ((z69 cs 2 t).1≤(z69 cs 1 t).1) then (2,0) else (1,0)
def z115 (cs code:Int) (t:List Int) (room:Int):Bool :=
 ((z69 cs code t).2==0)&&(decide ((0:Int) < (t.length:Nat))&&(decide ((z69 cs code t).1≤room)&&decide ((z69 cs code t).1≤75)))
def z201 (x:Int):Int:=(Lib.ctz 64 x.toNat:Nat)
def qwP (x:Int):Bool:=decide (0≤x∧x < 18446744073709551616)
def z158 (x:Int):Int:=(Lib.ctz 64 x.toNat:Nat)
def qqo (x:Int):Bool:=decide (0≤x∧x < 18446744073709551616)
def maskB (a b c d e:Bool):Int:=(bif a then 2 else 0)+(bif b then 4 else 0)+(bif c then 8 else 0)+(bif d then 16 else 0)+(bif e then 32 else 0)
def maskF (p:Int→Bool):Int:=maskB (p 1) (p 2) (p 3) (p 4) (p 5)
def z116 (c:Int):Int:=maskF fun n=>z157 n c
def qBj (p:Int→Bool):Int:=bif p 1 then 1 else bif p 2 then 2 else bif p 3 then 3 else bif p 4 then 4 else bif p 5 then 5 else 0
def z117 (s:Int):Int:=bif s==0 then 0 else (Lib.ctz 64 s.toNat:Nat)
def qqp (s:Int):Bool:=decide (0≤s∧s < 64)
def selF (p:Int→Bool):Int×Int:=bif qBj p==0 then (0,7) else (qBj p,0)
def z71 (t:List Int):Int×Int:=selF fun n=>t.all (z157 n)
def qBk (t:List Int):Bool:=lenOk t
def cutAt (p:List Int→Int→Int):Nat→List Int→Int→Option (List (List Int))
 | 0,_,_=>none
 | _+1,[],_=>some []
 | d+1,x :: t,room=>bif p (x :: t) room==0 then none else (cutAt p d ((x :: t).drop (p (x :: t) room).toNat) 75).map fun l=>(x :: t).take (p (x :: t) room).toNat :: l
def qFD:Option (List (List Int))→List (List Int)×Int
 | none=>([],12)
 | some l=>(l,0)
def qaq {σ:Type} (f:σ→List Int→Bool×Bool×σ):Nat→σ→List Int→Int→Int→Int→Bool×σ×List Int×Int×Int×Int
 | 0,x,t,cs,code,room=>(false,x,t,cs,code,room)
 | _+1,x,[],cs,code,room=>(true,x,[],cs,code,room)
 | d+1,x,a :: t,cs,code,room =>
  bif (f x ((a :: t).take (z114 cs code (a :: t) room).toNat)).1 then
   bif (f x ((a :: t).take (z114 cs code (a :: t) room).toNat)).2.1&&(z114 cs code (a :: t) room != 0) then
    qaq f d (f x ((a :: t).take (z114 cs code (a :: t) room).toNat)).2.2 ((a :: t).drop (z114 cs code (a :: t) room).toNat) cs code 75
   else (true,(f x ((a :: t).take (z114 cs code (a :: t) room).toNat)).2.2,a :: t,cs,code,room)
  else (false,x,a :: t,cs,code,room)
def z113 {σ:Type} (f:σ→List Int→Bool×Bool×σ) (x:σ) (t:List Int) (cs code room:Int):Bool×σ×List Int×Int×Int×Int :=
 bif lenOk t then qaq f (t.length+1) x t cs code room else (false,x,t,cs,code,room)
def z68 (s:List Int):List Int:=s
def qFE (s:List Int):Bool:=lenOk s
def z28 (cs code:Int) (t:List Int) (first:Int):List (List Int)×Int :=
 bif (z66 cs code t).2 != 0 then ([],(z66 cs code t).2) else qFD (cutAt (fun u r=>z114 cs code u r) (t.length+1) t first)
def qBl (_ _:Int) (t:List Int) (_:Int):Bool:=lenOk t
def z30 (t:List Int):Int×(Int×Int) :=
 bif (z71 t).2 != 0 then (0,0,(z71 t).2) else ((z71 t).1,(z72 (z71 t).1 t).1,(z72 (z71 t).1 t).2)
def qBm (t:List Int):Bool:=lenOk t
def z75 (cs code:Int) (p:List Int):List UInt8×Int :=
 bif (z120 cs p).2 != 0 then ([],(z120 cs p).2) else z15 cs code (z120 cs p).1
def qBn (_ _:Int) (p:List Int):Bool:=decide (p.length≤65536)
def qM (f:List Int→List UInt8×Int):List (List Int)→List (List UInt8)×Int
 | []=>([],0)
 | p :: l=>bif (f p).2 != 0 then ([],(f p).2) else bif (qM f l).2 != 0 then ([],(qM f l).2) else ((f p).1 :: (qM f l).1,0)
def z32 (t:List Int) (first:Int):List (List UInt8)×Int :=
 bif (z30 t).2.2 != 0 then ([],(z30 t).2.2)
 else bif (z28 (z30 t).1 (z30 t).2.1 t first).2 != 0 then ([],(z28 (z30 t).1 (z30 t).2.1 t first).2)
 else qM (z75 (z30 t).1 (z30 t).2.1) (z28 (z30 t).1 (z30 t).2.1 t first).1
def qku (t:List Int) (_:Int):Bool:=decide (t.length≤65536)
def joinB (sep:List UInt8):List (List UInt8)→List UInt8
 | []=>[]
 | [a]=>a
 | a :: b :: l=>a++sep++joinB sep (b :: l)
def z77 (l:List (List UInt8)) (sep:List UInt8):List UInt8:=joinB sep l
def qsZ (l:List (List UInt8)) (sep:List UInt8):Bool:=decide (l.length≤65536)&&(lenOk sep&&l.all fun s=>decide (s.length≤75))
def z34 (t:List Int) (first:Int):List UInt8×Int :=
 bif (z32 t first).2 != 0 then ([],(z32 t first).2) else (joinB [13,10,32] (z32 t first).1,0)
def qFF (t:List Int) (_:Int):Bool:=decide (t.length≤65536)
def z36 (t:List Int) (first:Int):Int:=((z32 t first).1.length:Nat)
def qFG (t:List Int) (_:Int):Bool:=decide (t.length≤65536)
def z27:Bool:=true
def z9 (_:List Int) (_:Int):Bool:=true
def z9_ok (t:List Int) (_:Int):Bool:=i32s t
end Go.Av
