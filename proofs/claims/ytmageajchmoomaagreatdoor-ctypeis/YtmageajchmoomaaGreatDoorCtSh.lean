import Derived.Test.YtmageajchmoomaaGreatDoorCtA
import Derived.Test.YtmageajchmoomaaGreatDoorAvE
namespace Go.Av
set_option linter.unusedSimpArgs false
set_option linter.unusedVariables false
section
noncomputable section
def qcL (s2:Bool):Option AV:=some (dc s2)
def qeq (ret:Bool→Option AV) (k0:(List UInt8)×((List UInt8)×((List ((List UInt8)×((List Int)×Unit)))×Unit))→Option AV) (next:(List UInt8)×((List UInt8)×((List ((List UInt8)×((List Int)×Unit)))×Unit))→List ((List UInt8)×((List Int)×Unit))→Int→Int→Option AV) (_n:Nat) (t1:(List UInt8)×((List UInt8)×((List ((List UInt8)×((List Int)×Unit)))×Unit))) (s11:List ((List UInt8)×((List Int)×Unit))) (s12:Int) (s13:Int):Option AV :=
 bif (decide (s13 < s12)) then
 bif ((decide (0≤s13))&&(decide (s13 < s11.length))) then
 bif (decide ((100:Int) < ((s11.getD s13.toNat (([]:List UInt8),(([]:List Int),()))).1.length:Int))) then
 ret true
 else
 bif (decide ((80:Int) < ((s11.getD s13.toNat (([]:List UInt8),(([]:List Int),()))).2.1.length:Int))) then
 ret true
 else
 next t1 s11 s12 (IntKind.wrap .i64 (s13+1))
 else none
 else
 k0 t1
def z5_l2 (ret:Bool→Option AV) (k0:(List UInt8)×((List UInt8)×((List ((List UInt8)×((List Int)×Unit)))×Unit))→Option AV):Nat→(List UInt8)×((List UInt8)×((List ((List UInt8)×((List Int)×Unit)))×Unit))→List ((List UInt8)×((List Int)×Unit))→Int→Int→Option AV
 | 0=>fun _ _ _ _=>none
 | n+1=>qeq ret k0 (z5_l2 ret k0 n) n
def qbF (_n:Nat) (t1:(List UInt8)×((List UInt8)×((List ((List UInt8)×((List Int)×Unit)))×Unit))):Option AV :=
 bif (decide ((6:Int) < (t1.2.2.1.length:Int))) then
 qcL true
 else
 bif (decide ((100:Int) < (t1.1.length:Int))) then
 qcL true
 else
 qcL (decide ((100:Int) < (t1.2.1.length:Int)))
def qcM (t0:(List UInt8)×((List UInt8)×((List ((List UInt8)×((List Int)×Unit)))×Unit))):=(bif (decide ((6:Int) < (t0.2.2.1.length:Int))) then (6:Int) else (t0.2.2.1.length:Int))
def z5_sh (n:Nat) (t0:(List UInt8)×((List UInt8)×((List ((List UInt8)×((List Int)×Unit)))×Unit))):Option AV :=
 bif (((decide (0≤((0:Nat):Int)))&&(decide (((0:Nat):Int)≤(qcM t0))))&&(decide ((qcM t0)≤(t0.2.2.1.length:Int)))) then z5_l2 qcL (qbF n) n t0 (List.drop ((0:Nat):Int).toNat (List.take (qcM t0).toNat t0.2.2.1)) ((List.drop ((0:Nat):Int).toNat (List.take (qcM t0).toNat t0.2.2.1)).length:Int) (0:Int) else none
def qhE (s2:UInt8):Option AV:=some (.dat .byte s2 none)
def qqO (_n:Nat) (c0:UInt8):Option AV :=
 bif (decide ((65:UInt8)≤c0)) then
 bif (decide (c0≤(90:UInt8))) then
 qhE (c0 ||| (32:UInt8))
 else
 qhE c0
 else
 qhE c0
def qbG (s4:Bool):Option AV:=some (dc s4)
def qcN (ret:Bool→Option AV) (k0:List UInt8→Int→Option AV) (next:List UInt8→Int→List UInt8→Nat→Option AV) (_n:Nat) (s0:List UInt8) (n5:Int) (s9:List UInt8) (s9p:Nat):Option AV :=
 bif (decide (s9p < s9.length)) then
 bif (decide (s9p < s9.length)) then
 bif (decide (s9p < s9.length)) then
 bif (decide ((s0.length:Int)≤((s9p:Nat):Int))) then
 ret false
 else
 bif ((decide (0≤((s9p:Nat):Int)))&&(decide (((s9p:Nat):Int) < s0.length))) then
 bif ((z30 (s0.getD ((s9p:Nat):Int).toNat (0:UInt8))) != (z30 (UInt8.ofNat (IntKind.wrap .u8 (decL s9 s9p).1).toNat))) then
 ret false
 else
 bif (decide ((128:Int)≤(decL s9 s9p).1)) then
 ret false
 else
 next s0 (IntKind.wrap .i64 (n5+1)) s9 (bif (decide (s9p < s9.length)) then s9p+(decL s9 s9p).2 else s9p)
 else none
 else none
 else none
 else
 k0 s0 n5
def qfY (ret:Bool→Option AV) (k0:List UInt8→Int→Option AV):Nat→List UInt8→Int→List UInt8→Nat→Option AV
 | 0=>fun _ _ _ _=>none
 | n+1=>qcN ret k0 (qfY ret k0 n) n
def qbu (_n:Nat) (s0:List UInt8) (n5:Int):Option AV :=
 qbG (n5==(s0.length:Int))
def qod (n:Nat) (s0:List UInt8) (text1:List UInt8):Option AV :=
 qfY qbG (qbu n) n s0 (0:Int) text1 0
def qoe (s6:Bool):Option AV:=some (dc s6)
def z9_sh (_n:Nat) (t0:(List UInt8)×((List UInt8)×((List ((List UInt8)×((List Int)×Unit)))×Unit))) (a1:List UInt8) (b2:List UInt8):Option AV :=
 bif ((qgE t0.1 a1)&&true) then
 bif (z18 t0.1 a1) then
 bif ((qgE t0.2.1 b2)&&true) then
 qoe (z18 t0.2.1 b2)
 else none
 else
 qoe false
 else none
def qmM (s2:List UInt8):Option AV:=some (da s2 (some (2,5)))
def qcO (k0:List UInt8→Option AV) (next:List UInt8→Int→Int→Option AV) (_n:Nat) (out3:List UInt8) (s9:Int) (s10:Int):Option AV :=
 bif (decide (s10 < s9)) then
 bif ((decide (0≤s10))&&(decide (s10 < out3.length))) then
 bif ((decide (0≤s10))&&(decide (s10 < out3.length))) then
 next (List.set out3 s10.toNat (z30 (out3.getD s10.toNat (0:UInt8)))) s9 (IntKind.wrap .i64 (s10+1))
 else none
 else none
 else
 k0 out3
def qfZ (k0:List UInt8→Option AV):Nat→List UInt8→Int→Int→Option AV
 | 0=>fun _ _ _=>none
 | n+1=>qcO k0 (qfZ k0 n) n
def qgF (_n:Nat) (out3:List UInt8):Option AV :=
 qmM out3
def qmy (n:Nat) (s0:List UInt8):Option AV :=
 bif ((qop s0)&&true) then
 qfZ (qgF n) n (z20 s0) ((z20 s0).length:Int) (0:Int)
 else none
def qmN (s4:Bool):Option AV:=some (dc s4)
def qsn (_n:Nat) (a0:List UInt8) (b1:List UInt8):Option AV :=
 qmN (a0==b1)
def qmO (s4:Bool):Option AV:=some (dc s4)
def qqP (_n:Nat) (a0:List UInt8) (b1:List UInt8):Option AV :=
 bif ((qio a0)&&true) then
 bif ((qio b1)&&true) then
 qmO (z60 (z37 a0) (z37 b1))
 else none
 else none
def qeb (s2:List (List UInt8)):Option AV:=some (.dat (.sl .str) s2 (some (2,9)))
def qqQ (_n:Nat) (charset0:Int):Option AV :=
 bif (charset0==(1:Int)) then
 qeb ([([117,115,45,97,115,99,105,105]:List UInt8),([97,115,99,105,105]:List UInt8),([97,110,115,105,95,120,51,46,52,45,49,57,54,56]:List UInt8),([105,115,111,54,52,54,45,117,115]:List UInt8)]:List (List UInt8))
 else
 bif (charset0==(2:Int)) then
 qeb ([([105,115,111,45,56,56,53,57,45,49]:List UInt8),([105,115,111,95,56,56,53,57,45,49]:List UInt8),([108,97,116,105,110,49]:List UInt8),([108,49]:List UInt8)]:List (List UInt8))
 else
 bif (charset0==(3:Int)) then
 qeb ([([105,115,111,45,56,56,53,57,45,49,53]:List UInt8),([105,115,111,95,56,56,53,57,45,49,53]:List UInt8),([108,97,116,105,110,45,57]:List UInt8)]:List (List UInt8))
 else
 bif (charset0==(4:Int)) then
 qeb ([([119,105,110,100,111,119,115,45,49,50,53,50]:List UInt8),([99,112,49,50,53,50]:List UInt8)]:List (List UInt8))
 else
 bif (charset0==(5:Int)) then
 qeb ([([117,116,102,45,56]:List UInt8),([117,116,102,56]:List UInt8)]:List (List UInt8))
 else
 qeb ([]:List (List UInt8))
def qmP (s0:List ((List UInt8)×Int)):Option AV:=some (.abs (.sl (.pair .str (.int .i64))) (qgs .str (.int .i64)) s0)
def qkz (k2:List ((List UInt8)×Int)→Int→Option AV) (next:List ((List UInt8)×Int)→Int→List (List UInt8)→Int→Int→Option AV) (_n:Nat) (m1:List ((List UInt8)×Int)) (n2:Int) (s11:List (List UInt8)) (s12:Int) (s13:Int):Option AV :=
 bif (decide (s13 < s12)) then
 bif ((decide (0≤s13))&&(decide (s13 < s11.length))) then
 next (@putM .str (.int .i64) (s11.getD s13.toNat ([]:List UInt8)) n2 m1) n2 s11 s12 (IntKind.wrap .i64 (s13+1))
 else none
 else
 k2 m1 n2
def qkA (k2:List ((List UInt8)×Int)→Int→Option AV):Nat→List ((List UInt8)×Int)→Int→List (List UInt8)→Int→Int→Option AV
 | 0=>fun _ _ _ _ _=>none
 | n+1=>qkz k2 (qkA k2 n) n
def qkB (_k0:List ((List UInt8)×Int)→Option AV) (next:List ((List UInt8)×Int)→Int→Option AV) (_n:Nat) (m1:List ((List UInt8)×Int)) (n2:Int):Option AV :=
 next m1 (IntKind.wrap .i64 (n2+1))
def qgG (k0:List ((List UInt8)×Int)→Option AV) (next:List ((List UInt8)×Int)→Int→Option AV) (n:Nat) (m1:List ((List UInt8)×Int)) (n2:Int):Option AV :=
 bif (decide (n2≤(5:Int))) then
 qkA (qkB k0 next n) n m1 n2 (z61 n2) ((z61 n2).length:Int) (0:Int)
 else
 k0 m1
def qkC (k0:List ((List UInt8)×Int)→Option AV):Nat→List ((List UInt8)×Int)→Int→Option AV
 | 0=>fun _ _=>none
 | n+1=>qgG k0 (qkC k0 n) n
def qkD (_n:Nat) (m1:List ((List UInt8)×Int)):Option AV :=
 qmP m1
def qof (n:Nat):Option AV :=
 qkC (qkD n) n ([]:List ((List UInt8)×Int)) (1:Int)
def qmQ (s4:Int):Option AV:=some (db s4)
def qso (_n:Nat) (b0:List UInt8) (c1:UInt8):Option AV :=
 qmQ (z90 b0 c1)
def qin (s4:Bool):Option AV:=some (dc s4)
def qer (ret:Bool→Option AV) (k0:Option AV) (next:List UInt8→List UInt8→Int→Option AV) (_n:Nat) (a0:List UInt8) (b1:List UInt8) (i5:Int):Option AV :=
 bif (decide (i5 < (a0.length:Int))) then
 bif ((decide (0≤i5))&&(decide (i5 < a0.length))) then
 bif ((decide (0≤i5))&&(decide (i5 < b1.length))) then
 bif ((a0.getD i5.toNat (0:UInt8)) != (b1.getD i5.toNat (0:UInt8))) then
 ret false
 else
 next a0 b1 (IntKind.wrap .i64 (i5+1))
 else none
 else none
 else
 k0
def z7_l4 (ret:Bool→Option AV) (k0:Option AV):Nat→List UInt8→List UInt8→Int→Option AV
 | 0=>fun _ _ _=>none
 | n+1=>qer ret k0 (z7_l4 ret k0 n) n
def qmR (_n:Nat):Option AV :=
 qin true
def z7_sh (n:Nat) (a0:List UInt8) (b1:List UInt8):Option AV :=
 bif ((a0.length:Int) != (b1.length:Int)) then
 qin false
 else
 z7_l4 qin (qmR n) n a0 b1 (0:Int)
def qhF (s2:UInt8):Option AV:=some (.dat .byte s2 none)
def qqR (_n:Nat) (c0:UInt8):Option AV :=
 bif (decide ((65:UInt8)≤c0)) then
 bif (decide (c0≤(90:UInt8))) then
 qhF (c0+(32:UInt8))
 else
 qhF c0
 else
 qhF c0
def qqS (s2:List UInt8):Option AV:=some (da s2 (some (2,5)))
def qes (k0:List UInt8→Option AV) (next:List UInt8→List UInt8→Int→Option AV) (_n:Nat) (s0:List UInt8) (out3:List UInt8) (i4:Int):Option AV :=
 bif (decide (i4 < (s0.length:Int))) then
 bif ((decide (0≤i4))&&(decide (i4 < s0.length))) then
 bif (decide (out3.length+List.length ([(z17 (s0.getD i4.toNat (0:UInt8)))]:List UInt8)≤room)) then
 next s0 (out3++([(z17 (s0.getD i4.toNat (0:UInt8)))]:List UInt8)) (IntKind.wrap .i64 (i4+1))
 else none
 else none
 else
 k0 out3
def z8_l3 (k0:List UInt8→Option AV):Nat→List UInt8→List UInt8→Int→Option AV
 | 0=>fun _ _ _=>none
 | n+1=>qes k0 (z8_l3 k0 n) n
def qhG (_n:Nat) (out3:List UInt8):Option AV :=
 qqS out3
def z8_sh (n:Nat) (s0:List UInt8):Option AV :=
 z8_l3 (qhG n) n s0 ([]:List UInt8) (0:Int)
def qkE (s2:(List UInt8)×((List UInt8)×((List ((List UInt8)×((List Int)×Unit)))×Unit))):Option AV:=some (.dat (.pair (.sl .byte) (.pair (.sl .byte) (.pair (.sl (.pair (.sl .byte) (.pair (.sl (.int .i32)) .unit))) .unit))) s2 none)
def qcP (k0:(List UInt8)×((List UInt8)×((List ((List UInt8)×((List Int)×Unit)))×Unit))→(List UInt8)×((List UInt8)×((List ((List UInt8)×((List Int)×Unit)))×Unit))→Option AV) (next:(List UInt8)×((List UInt8)×((List ((List UInt8)×((List Int)×Unit)))×Unit))→(List UInt8)×((List UInt8)×((List ((List UInt8)×((List Int)×Unit)))×Unit))→List ((List UInt8)×((List Int)×Unit))→Int→Int→Option AV) (_n:Nat) (s2:(List UInt8)×((List UInt8)×((List ((List UInt8)×((List Int)×Unit)))×Unit))) (x3:(List UInt8)×((List UInt8)×((List ((List UInt8)×((List Int)×Unit)))×Unit))) (s12:List ((List UInt8)×((List Int)×Unit))) (s13:Int) (s14:Int):Option AV :=
 bif (decide (s14 < s13)) then
 bif ((decide (0≤s14))&&(decide (s14 < s12.length))) then
 bif (decide (List.length x3.2.2.1+List.length ([(s12.getD s14.toNat (([]:List UInt8),(([]:List Int),())))]:List ((List UInt8)×((List Int)×Unit)))≤room)) then
 next s2 (x3.1,(x3.2.1,((x3.2.2.1++([(s12.getD s14.toNat (([]:List UInt8),(([]:List Int),())))]:List ((List UInt8)×((List Int)×Unit)))),x3.2.2.2))) s12 s13 (IntKind.wrap .i64 (s14+1))
 else none
 else none
 else
 k0 s2 x3
def qga (k0:(List UInt8)×((List UInt8)×((List ((List UInt8)×((List Int)×Unit)))×Unit))→(List UInt8)×((List UInt8)×((List ((List UInt8)×((List Int)×Unit)))×Unit))→Option AV):Nat→(List UInt8)×((List UInt8)×((List ((List UInt8)×((List Int)×Unit)))×Unit))→(List UInt8)×((List UInt8)×((List ((List UInt8)×((List Int)×Unit)))×Unit))→List ((List UInt8)×((List Int)×Unit))→Int→Int→Option AV
 | 0=>fun _ _ _ _ _=>none
 | n+1=>qcP k0 (qga k0 n) n
def qbR (_n:Nat) (_s2:(List UInt8)×((List UInt8)×((List ((List UInt8)×((List Int)×Unit)))×Unit))) (x3:(List UInt8)×((List UInt8)×((List ((List UInt8)×((List Int)×Unit)))×Unit))):Option AV :=
 qkE x3
def qog (n:Nat) (t0:(List UInt8)×((List UInt8)×((List ((List UInt8)×((List Int)×Unit)))×Unit))):Option AV :=
 qga (qbR n) n (([]:List UInt8),(([]:List UInt8),(([]:List ((List UInt8)×((List Int)×Unit))),()))) (t0.1,(t0.2.1,(([]:List ((List UInt8)×((List Int)×Unit))),()))) t0.2.2.1 (t0.2.2.1.length:Int) (0:Int)
def qej (s6:Bool):Option AV:=some (dc s6)
def qet (k0:List UInt8→List UInt8→(List UInt8)×((List UInt8)×((List ((List UInt8)×((List Int)×Unit)))×Unit))→Bool→Option AV) (next:List UInt8→List UInt8→(List UInt8)×((List UInt8)×((List ((List UInt8)×((List Int)×Unit)))×Unit))→Bool→Int→Int→Option AV) (_n:Nat) (a1:List UInt8) (b2:List UInt8) (t3:(List UInt8)×((List UInt8)×((List ((List UInt8)×((List Int)×Unit)))×Unit))) (high7:Bool) (s27:Int) (s28:Int):Option AV :=
 bif (decide (s28 < s27)) then
 bif high7 then
 next a1 b2 t3 true s27 (IntKind.wrap .i64 (s28+1))
 else
 bif (decide (a1.length+b2.length≤9223372036854775807)) then
 bif ((decide (0≤s28))&&(decide (s28 < (a1++b2).length))) then
 next a1 b2 t3 (decide ((127:UInt8) < ((a1++b2).getD s28.toNat (0:UInt8)))) s27 (IntKind.wrap .i64 (s28+1))
 else none
 else none
 else
 k0 a1 b2 t3 high7
def z3_l5 (k0:List UInt8→List UInt8→(List UInt8)×((List UInt8)×((List ((List UInt8)×((List Int)×Unit)))×Unit))→Bool→Option AV):Nat→List UInt8→List UInt8→(List UInt8)×((List UInt8)×((List ((List UInt8)×((List Int)×Unit)))×Unit))→Bool→Int→Int→Option AV
 | 0=>fun _ _ _ _ _ _=>none
 | n+1=>qet k0 (z3_l5 k0 n) n
def qbH (_n:Nat) (a1:List UInt8) (b2:List UInt8) (t3:(List UInt8)×((List UInt8)×((List ((List UInt8)×((List Int)×Unit)))×Unit))) (high7:Bool):Option AV :=
 bif (!high7) then
 bif ((z8_ok t3.1)&&true) then
 bif (decide (a1.length≤room)) then
 bif ((z8_ok a1)&&true) then
 bif ((z7_ok (z8 t3.1) (z8 a1))&&true) then
 bif (z7 (z8 t3.1) (z8 a1)) then
 bif ((z8_ok t3.2.1)&&true) then
 bif (decide (b2.length≤room)) then
 bif ((z8_ok b2)&&true) then
 bif ((z7_ok (z8 t3.2.1) (z8 b2))&&true) then
 bif ((qim t3)&&true) then
 bif ((z9_ok (z10 t3) a1 b2)&&true) then
 bif ((z9 (z10 t3) a1 b2)==(z7 (z8 t3.2.1) (z8 b2))) then
 qej z6
 else
 qej false
 else none
 else none
 else none
 else none
 else none
 else none
 else
 bif ((qim t3)&&true) then
 bif ((z9_ok (z10 t3) a1 b2)&&true) then
 bif ((z9 (z10 t3) a1 b2)==false) then
 qej z6
 else
 qej false
 else none
 else none
 else none
 else none
 else none
 else none
 else
 bif ((qim t3)&&true) then
 bif ((z9_ok (z10 t3) a1 b2)&&true) then
 bif ((z9 (z10 t3) a1 b2)==false) then
 qej z6
 else
 qej false
 else none
 else none
def z3_sh (n:Nat) (t0:(List UInt8)×((List UInt8)×((List ((List UInt8)×((List Int)×Unit)))×Unit))) (a1:List UInt8) (b2:List UInt8):Option AV :=
 bif (z5 t0) then
 qej z6
 else
 bif (decide ((100:Int) < (a1.length:Int))) then
 qej z6
 else
 bif (decide ((100:Int) < (b2.length:Int))) then
 qej z6
 else
 z3_l5 (qbH n) n a1 b2 t0 false (IntKind.wrap .i64 ((a1.length:Int)+(b2.length:Int))) (0:Int)
end
end
end Go.Av
