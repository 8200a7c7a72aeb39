import Derived.Test.YtopepdfipgfakaaDoorEfM
import Derived.KernelRfl
import Derived.Lib.TrailingZeros
namespace Go.Av
set_option linter.unusedVariables false
set_option linter.unusedSimpArgs false
def z44 (_:Unit):Int:=1
def z45 (_:Unit):Int:=2
def z26 (code:Int):AV:=.ite (code==(1:Int)) (.iface 71 (.dat .unit () none)) (.ite (code==(2:Int)) (.iface 72 (.dat .unit () none)) .nilIface)
def qho (s:List UInt8):Bool:=qfe s
def z16 (cs code:Int) (t:List Int):Int×Int :=
 bif (z23 cs t).2==10 then (0,10)
 else bif (code != 1)&&(code != 2) then (0,3)
 else bif (z23 cs t).2 != 0 then (0,(z23 cs t).2)
 else bif code==1 then (z42 ((z23 cs t).1.length:Nat),0) else (z43 (z23 cs t).1,0)
def qhp (_ _:Int) (t:List Int):Bool:=lenOk t
def z10 (cs code:Int) (t:List Int):Int×Int :=
 bif (z16 cs code t).2 != 0 then (0,(z16 cs code t).2) else (IntKind.wrap .i64 ((z16 cs code t).1+z17 cs),0)
def qlv (_ _:Int) (t:List Int):Bool:=lenOk t
def z49 (cs code:Int) (t:List Int):Int:=(z16 cs code t).1
def qlw (_ _:Int) (t:List Int):Bool:=lenOk t
def z32 (cs:Int) (t:List Int):Int:=IntKind.wrap .i64 (z49 cs 1 t - z49 cs 2 t)
def qqY (_:Int) (t:List Int):Bool:=lenOk t
def z22 (cs:Int) (t:List Int):Int×Int :=
 bif (z16 cs 1 t).2 != 0 then (0,(z16 cs 1 t).2) else bif decide (0≤z32 cs t) then (2,0) else (1,0)
def qqZ (_:Int) (t:List Int):Bool:=lenOk t
def z29 (cs code:Int) (t:List Int) (room:Int):Bool :=
 ((z10 cs code t).2==0)&&(decide ((0:Int) < (t.length:Nat))&&decide ((z10 cs code t).1≤bif decide (75 < room) then 75 else room))
def qra (_ _:Int) (t:List Int) (_:Int):Bool:=lenOk t
def qy (p:List Int→Bool) (t:List Int):Nat→Nat→Nat
 | 0,n=>n
 | d+1,n=>bif p (t.take (n+1)) then qy p t d (n+1) else n
def z19 (cs code:Int) (t:List Int) (room:Int):Int:=(qy (fun u=>z29 cs code u room) t t.length 0:Nat)
def qrb (_ _:Int) (t:List Int) (_:Int):Bool:=lenOk t
def qcD (cs code:Int) (t:List Int):Int×Int :=
 bif (ql cs t).2==10 then (0,10)
 else bif (code != 1)&&(code != 2) then (0,3)
 else bif (ql cs t).2 != 0 then (0,(ql cs t).2)
 else bif code==1 then (IntKind.wrap .i64 (qeU cs+((qaN (ql cs t).1).length:Nat)),0) else (IntKind.wrap .i64 (qeU cs+((qax (ql cs t).1).length:Nat)),0)
def qeC (cs code:Int) (t:List Int) (room:Int):Bool :=
 ((qcD cs code t).2==0)&&(decide ((0:Int) < (t.length:Nat))&&(decide ((qcD cs code t).1≤room)&&decide ((qcD cs code t).1≤75)))
def z67 (x:Int):Int:=(Lib.ctz 64 x.toNat:Nat)
def qtW (x:Int):Bool:=decide (0≤x∧x < 18446744073709551616)
def z48 (x:Int):Int:=(Lib.ctz 64 x.toNat:Nat)
def qrc (x:Int):Bool:=decide (0≤x∧x < 18446744073709551616)
def maskB (a b c d e:Bool):Int:=(bif a then 2 else 0)+(bif b then 4 else 0)+(bif c then 8 else 0)+(bif d then 16 else 0)+(bif e then 32 else 0)
def maskF (p:Int→Bool):Int:=maskB (p 1) (p 2) (p 3) (p 4) (p 5)
def z30 (c:Int):Int:=maskF fun n=>z47 n c
def qtX (p:Int→Bool):Int:=bif p 1 then 1 else bif p 2 then 2 else bif p 3 then 3 else bif p 4 then 4 else bif p 5 then 5 else 0
def z31 (s:Int):Int:=bif s==0 then 0 else (Lib.ctz 64 s.toNat:Nat)
def qrd (s:Int):Bool:=decide (0≤s∧s < 64)
def selF (p:Int→Bool):Int×Int:=bif qtX p==0 then (0,7) else (qtX p,0)
def z21 (t:List Int):Int×Int:=selF fun n=>t.all (z47 n)
def qre (t:List Int):Bool:=lenOk t
def cutAt (p:List Int→Int→Int):Nat→List Int→Int→Option (List (List Int))
 | 0,_,_=>none
 | _+1,[],_=>some []
 | d+1,x :: t,room=>bif p (x :: t) room==0 then none else (cutAt p d ((x :: t).drop (p (x :: t) room).toNat) 75).map fun l=>(x :: t).take (p (x :: t) room).toNat :: l
def qtY:Option (List (List Int))→List (List Int)×Int
 | none=>([],12)
 | some l=>(l,0)
def qan {σ:Type} (f:σ→List Int→Bool×Bool×σ):Nat→σ→List Int→Int→Int→Int→Bool×σ×List Int×Int×Int×Int
 | 0,x,t,cs,code,room=>(false,x,t,cs,code,room)
 | _+1,x,[],cs,code,room=>(true,x,[],cs,code,room)
 | d+1,x,a :: t,cs,code,room =>
  bif (f x ((a :: t).take (z19 cs code (a :: t) room).toNat)).1 then
   bif (f x ((a :: t).take (z19 cs code (a :: t) room).toNat)).2.1&&(z19 cs code (a :: t) room != 0) then
    qan f d (f x ((a :: t).take (z19 cs code (a :: t) room).toNat)).2.2 ((a :: t).drop (z19 cs code (a :: t) room).toNat) cs code 75
   else (true,(f x ((a :: t).take (z19 cs code (a :: t) room).toNat)).2.2,a :: t,cs,code,room)
  else (false,x,a :: t,cs,code,room)
def z18 {σ:Type} (f:σ→List Int→Bool×Bool×σ) (x:σ) (t:List Int) (cs code room:Int):Bool×σ×List Int×Int×Int×Int :=
 bif lenOk t then qan f (t.length+1) x t cs code room else (false,x,t,cs,code,room)
def z12 (s:List Int):List Int:=s
def qtZ (s:List Int):Bool:=lenOk s
def z5 (cs code:Int) (t:List Int) (first:Int):List (List Int)×Int :=
 bif (z10 cs code t).2 != 0 then ([],(z10 cs code t).2) else qtY (cutAt (fun u r=>z19 cs code u r) (t.length+1) t first)
def z5_ok (_ _:Int) (t:List Int) (_:Int):Bool:=lenOk t
def z14 (t:List Int):Int×(Int×Int) :=
 bif (z21 t).2 != 0 then (0,0,(z21 t).2) else ((z21 t).1,(z22 (z21 t).1 t).1,(z22 (z21 t).1 t).2)
def qrf (t:List Int):Bool:=lenOk t
def z15 (cs code:Int) (p:List Int):List UInt8×Int :=
 bif (z23 cs p).2 != 0 then ([],(z23 cs p).2) else z24 cs code (z23 cs p).1
def qrg (_ _:Int) (p:List Int):Bool:=decide (p.length≤65536)
def qS (f:List Int→List UInt8×Int):List (List Int)→List (List UInt8)×Int
 | []=>([],0)
 | p :: l=>bif (f p).2 != 0 then ([],(f p).2) else bif (qS f l).2 != 0 then ([],(qS f l).2) else ((f p).1 :: (qS f l).1,0)
def z8 (t:List Int) (first:Int):List (List UInt8)×Int :=
 bif (z14 t).2.2 != 0 then ([],(z14 t).2.2)
 else bif (z5 (z14 t).1 (z14 t).2.1 t first).2 != 0 then ([],(z5 (z14 t).1 (z14 t).2.1 t first).2)
 else qS (z15 (z14 t).1 (z14 t).2.1) (z5 (z14 t).1 (z14 t).2.1 t first).1
def z8_ok (t:List Int) (_:Int):Bool:=decide (t.length≤65536)
def joinB (sep:List UInt8):List (List UInt8)→List UInt8
 | []=>[]
 | [a]=>a
 | a :: b :: l=>a++sep++joinB sep (b :: l)
def z13 (l:List (List UInt8)) (sep:List UInt8):List UInt8:=joinB sep l
def qlx (l:List (List UInt8)) (sep:List UInt8):Bool:=decide (l.length≤65536)&&(lenOk sep&&l.all fun s=>decide (s.length≤75))
def z7 (t:List Int) (first:Int):List UInt8×Int :=
 bif (z8 t first).2 != 0 then ([],(z8 t first).2) else (joinB [13,10,32] (z8 t first).1,0)
def z7_ok (t:List Int) (_:Int):Bool:=decide (t.length≤65536)
def z9 (t:List Int) (first:Int):Int:=((z8 t first).1.length:Nat)
def z9_ok (t:List Int) (_:Int):Bool:=decide (t.length≤65536)
def z4:Bool:=true
end Go.Av
