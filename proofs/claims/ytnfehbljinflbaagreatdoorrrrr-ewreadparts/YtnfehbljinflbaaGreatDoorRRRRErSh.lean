import Derived.Test.YtnfehbljinflbaaGreatDoorRRRRErM
import Derived.Test.YtnfehbljinflbaaGreatDoorRRRRAvE
namespace Go.Av
set_option linter.unusedVariables false
abbrev OA:=Option AV
noncomputable section
def qyC (s4:Bool):OA:=some (dg s4)
def qlE (ret:Bool→OA) (k0:OA) (next:LI→LI→Int→OA) (_n:Nat) (a0:LI) (b1:LI) (i5:Int):OA :=
 bif (decide (i5 < (a0.length:Int))) then
 bif ((decide (0≤i5))&&(decide (i5 < a0.length))) then
 bif ((decide (0≤i5))&&(decide (i5 < b1.length))) then
 bif ((a0.getD i5.toNat 0) != (b1.getD i5.toNat 0)) then
 ret false
 else
 next a0 b1 (IntKind.wrap .i64 (i5+1))
 else none
 else none
 else
 k0
def z8_l4 (ret:Bool→OA) (k0:OA):Nat→LI→LI→Int→OA
 | 0=>fun _ _ _=>none
 | n+1=>qlE ret k0 (z8_l4 ret k0 n) n
def qvv (_n:Nat):OA :=
 qyC true
def z8_sh (n:Nat) (a0:LI) (b1:LI):OA :=
 bif ((a0.length:Int) != (b1.length:Int)) then
 qyC false
 else
 z8_l4 qyC (qvv n) n a0 b1 (0:Int)
def qJW (s10:LI):OA:=some (.tup [(.tup []),.bad,.bad,(.pbox (.osl 21 (.int .i32)) s10 none)])
def qMi (_n:Nat) (_x0:Int×(LU×Unit)) (t1:LI) (x2:LI):OA :=
 bif (decide (x2.length+t1.length≤room)) then
 qJW (x2++t1)
 else none
def qJX (s11:List LI):OA:=some (.tup [(.tup []),.bad,.bad,(.pbox (.osl 25 (.sl (.int .i32))) s11 none)])
def qMj (_n:Nat) (_x0:Int×(LU×Unit)) (t1:LI) (x2:List LI):OA :=
 bif (decide (x2.length+List.length ([t1]:List LI)≤room)) then
 qJX (x2++([t1]:List LI))
 else none
def qJY (s4:Int):OA:=some (dc s4)
def qSI (_n:Nat) (b0:LU) (c1:UInt8):OA :=
 qJY (z123 b0 c1)
def qJZ (s4:Bool):OA:=some (dg s4)
def qSJ (_n:Nat) (a0:LU) (b1:LU):OA :=
 qJZ (a0==b1)
def qjK (s4:Int):OA:=some (dc s4)
def qvw (ret:Int→OA) (next:LU→LU→Int→OA) (_n:Nat) (s0:LU) (sep1:LU) (n5:Int):OA :=
 bif ((qrf s0 sep1)&&true) then
 bif ((z57 s0 sep1)==(-1:Int)) then
 ret n5
 else
 bif (((decide (0≤(IntKind.wrap .i64 ((z57 s0 sep1)+(sep1.length:Int)))))&&(decide ((IntKind.wrap .i64 ((z57 s0 sep1)+(sep1.length:Int)))≤(s0.length:Int))))&&(decide ((s0.length:Int)≤(s0.length:Int)))) then
 next (List.drop (IntKind.wrap .i64 ((z57 s0 sep1)+(sep1.length:Int))).toNat (List.take (s0.length:Int).toNat s0)) sep1 (IntKind.wrap .i64 (n5+1))
 else none
 else none
def qlF (ret:Int→OA):Nat→LU→LU→Int→OA
 | 0=>fun _ _ _=>none
 | n+1=>qvw ret (qlF ret n) n
def qCE (n:Nat) (s0:LU) (sep1:LU):OA :=
 bif ((sep1.length:Int)==(0:Int)) then
 bif ((qKP s0)&&true) then
 qjK (IntKind.wrap .i64 ((z164 s0)+1))
 else none
 else
 bif ((sep1.length:Int)==(1:Int)) then
 bif ((decide (0≤(0:Int)))&&(decide ((0:Int) < sep1.length))) then
 qjK (z165 s0 (sep1.getD (0:Int).toNat (0:UInt8)))
 else none
 else
 qlF qjK n s0 sep1 (0:Int)
def qjL (s8:List LU):OA:=some (.dat (.sl (.sl .byte)) s8 none)
def qcz (k0:LU→List LU→Int→OA) (next:LU→LU→Int→Int→List LU→Int→OA) (_n:Nat) (s0:LU) (sep1:LU) (sepSave2:Int) (n3:Int) (a9:List LU) (i10:Int):OA :=
 bif (decide (i10 < n3)) then
 bif ((qrf s0 sep1)&&true) then
 bif (decide ((z57 s0 sep1) < (0:Int))) then
 k0 s0 a9 i10
 else
 bif ((((decide (0≤((0:Nat):Int)))&&(decide (((0:Nat):Int)≤(IntKind.wrap .i64 ((z57 s0 sep1)+sepSave2)))))&&(decide ((IntKind.wrap .i64 ((z57 s0 sep1)+sepSave2))≤(IntKind.wrap .i64 ((z57 s0 sep1)+sepSave2)))))&&(decide ((IntKind.wrap .i64 ((z57 s0 sep1)+sepSave2))≤(s0.length:Int)))) then
 bif ((decide (0≤i10))&&(decide (i10 < a9.length))) then
 bif (((decide (0≤(IntKind.wrap .i64 ((z57 s0 sep1)+(sep1.length:Int)))))&&(decide ((IntKind.wrap .i64 ((z57 s0 sep1)+(sep1.length:Int)))≤(s0.length:Int))))&&(decide ((s0.length:Int)≤(s0.length:Int)))) then
 next (List.drop (IntKind.wrap .i64 ((z57 s0 sep1)+(sep1.length:Int))).toNat (List.take (s0.length:Int).toNat s0)) sep1 sepSave2 n3 (List.set a9 i10.toNat (List.drop ((0:Nat):Int).toNat (List.take (IntKind.wrap .i64 ((z57 s0 sep1)+sepSave2)).toNat s0))) (IntKind.wrap .i64 (i10+1))
 else none
 else none
 else none
 else none
 else
 k0 s0 a9 i10
def qcs (k0:LU→List LU→Int→OA):Nat→LU→LU→Int→Int→List LU→Int→OA
 | 0=>fun _ _ _ _ _ _=>none
 | n+1=>qcz k0 (qcs k0 n) n
def qal (_n:Nat) (s0:LU) (a9:List LU) (i10:Int):OA :=
 bif ((decide (0≤i10))&&(decide (i10 < a9.length))) then
 bif (((decide (0≤((0:Nat):Int)))&&(decide (((0:Nat):Int)≤(IntKind.wrap .i64 (i10+1)))))&&(decide ((IntKind.wrap .i64 (i10+1))≤((List.set a9 i10.toNat s0).length:Int)))) then
 qjL (List.drop ((0:Nat):Int).toNat (List.take (IntKind.wrap .i64 (i10+1)).toNat (List.set a9 i10.toNat s0)))
 else none
 else none
def qbe (s0:LU) (sep1:LU):=(bif (decide ((IntKind.wrap .i64 ((s0.length:Int)+1)) < (IntKind.wrap .i64 ((z142 s0 sep1)+1)))) then (IntKind.wrap .i64 ((s0.length:Int)+1)) else (IntKind.wrap .i64 ((z142 s0 sep1)+1)))
def qbf (s0:LU) (n3:Int):=(bif (decide ((IntKind.wrap .i64 ((s0.length:Int)+1)) < n3)) then (IntKind.wrap .i64 ((s0.length:Int)+1)) else n3)
def qvx (n:Nat) (s0:LU) (sep1:LU) (sepSave2:Int) (n3:Int):OA :=
 bif (n3==(0:Int)) then qjL ([]:List LU) else bif ((sep1.length:Int)==(0:Int)) then bif ((qKQ s0 n3)&&true) then qjL (z141 s0 n3) else none else bif (decide (n3 < (0:Int))) then bif ((qmc s0 sep1)&&true) then bif (((decide (0≤(qbe s0 sep1)))&&(decide ((qbe s0 sep1)≤(qbe s0 sep1))))&&(decide ((qbe s0 sep1)≤(room:Int)))) then qcs (qal n) n s0 sep1 sepSave2 (IntKind.wrap .i64 ((qbe s0 sep1) - (1:Int))) (List.replicate (qbe s0 sep1).toNat ([]:LU)) (0:Int) else none else none else bif (((decide (0≤(qbf s0 n3)))&&(decide ((qbf s0 n3)≤(qbf s0 n3))))&&(decide ((qbf s0 n3)≤(room:Int)))) then qcs (qal n) n s0 sep1 sepSave2 (IntKind.wrap .i64 ((qbf s0 n3) - (1:Int))) (List.replicate (qbf s0 n3).toNat ([]:LU)) (0:Int) else none
def qKa (s4:List LU):OA:=some (.dat (.sl (.sl .byte)) s4 none)
def qMk (_n:Nat) (s0:LU) (sep1:LU):OA :=
 bif ((qmd s0 sep1 (0:Int) (-1:Int))&&true) then
 qKa (z116 s0 sep1 (0:Int) (-1:Int))
 else none
def qoe (s2:UInt8):OA:=some (dm s2)
def qCF (_n:Nat) (c0:UInt8):OA :=
 bif (decide ((65:UInt8)≤c0)) then
 bif (decide (c0≤(90:UInt8))) then
 qoe (c0 ||| (32:UInt8))
 else
 qoe c0
 else
 qoe c0
def qKb (s2:LU):OA:=some (db s2 (some (2,5)))
def qgF (k0:LU→OA) (next:LU→Int→Int→OA) (_n:Nat) (out3:LU) (s9:Int) (s10:Int):OA :=
 bif (decide (s10 < s9)) then
 bif ((decide (0≤s10))&&(decide (s10 < out3.length))) then
 bif ((decide (0≤s10))&&(decide (s10 < out3.length))) then
 next (List.set out3 s10.toNat (z118 (out3.getD s10.toNat (0:UInt8)))) s9 (IntKind.wrap .i64 (s10+1))
 else none
 else none
 else
 k0 out3
def qof (k0:LU→OA):Nat→LU→Int→Int→OA
 | 0=>fun _ _ _=>none
 | n+1=>qgF k0 (qof k0 n) n
def qjM (_n:Nat) (out3:LU):OA :=
 qKb out3
def qHS (n:Nat) (s0:LU):OA :=
 bif ((qhW s0)&&true) then
 qof (qjM n) n (z83 s0) ((z83 s0).length:Int) (0:Int)
 else none
def qqu (s2:Int):OA:=some (dc s2)
def qMl (_n:Nat) (s0:LU):OA :=
 bif ((qyT s0)&&true) then
 bif ((z87 s0)==([98]:LU)) then
 qqu (1:Int)
 else
 bif ((z87 s0)==([113]:LU)) then
 qqu (2:Int)
 else
 qqu (0:Int)
 else none
def qn (s2:Int):OA:=some (dc s2)
def qan:=(bits .or .i64 (bits .or .i64 (0:Int) (1:Int)) (656:Int))
def qfH:=(bits .or .i64 (bits .or .i64 (0:Int) (1:Int)) (2:Int))
def qMm (_n:Nat) (c0:UInt8):OA :=
 bif (decide (c0 < (32:UInt8))) then bif (c0==(32:UInt8)) then qn (qfH) else bif (c0==(9:UInt8)) then qn (qfH) else bif (decide ((48:UInt8)≤c0)) then bif (decide (c0≤(57:UInt8))) then qn (bits .or .i64 (bits .or .i64 (0:Int) (1:Int)) (648:Int)) else bif (decide ((65:UInt8)≤c0)) then bif (decide (c0≤(90:UInt8))) then bif (decide (c0≤(90:UInt8))) then qn (qan) else qn (bits .or .i64 (0:Int) (1:Int)) else bif (decide ((97:UInt8)≤c0)) then bif (decide (c0≤(122:UInt8))) then qn (qan) else qn (bits .or .i64 (0:Int) (1:Int)) else qn (bits .or .i64 (0:Int) (1:Int)) else bif (decide ((97:UInt8)≤c0)) then bif (decide (c0≤(122:UInt8))) then qn (qan) else qn (bits .or .i64 (0:Int) (1:Int)) else qn (bits .or .i64 (0:Int) (1:Int)) else bif (decide ((65:UInt8)≤c0)) then bif (decide (c0≤(90:UInt8))) then bif (decide (c0≤(90:UInt8))) then qn (qan) else qn (bits .or .i64 (0:Int) (1:Int)) else bif (decide ((97:UInt8)≤c0)) then bif (decide (c0≤(122:UInt8))) then qn (qan) else qn (bits .or .i64 (0:Int) (1:Int)) else qn (bits .or .i64 (0:Int) (1:Int)) else bif (decide ((97:UInt8)≤c0)) then bif (decide (c0≤(122:UInt8))) then qn (qan) else qn (bits .or .i64 (0:Int) (1:Int)) else qn (bits .or .i64 (0:Int) (1:Int)) else bif (c0==(127:UInt8)) then bif (c0==(32:UInt8)) then qn (qfH) else bif (c0==(9:UInt8)) then qn (qfH) else bif (decide ((48:UInt8)≤c0)) then bif (decide (c0≤(57:UInt8))) then qn (bits .or .i64 (bits .or .i64 (0:Int) (1:Int)) (648:Int)) else bif (decide ((65:UInt8)≤c0)) then bif (decide (c0≤(90:UInt8))) then bif (decide (c0≤(90:UInt8))) then qn (qan) else qn (bits .or .i64 (0:Int) (1:Int)) else bif (decide ((97:UInt8)≤c0)) then bif (decide (c0≤(122:UInt8))) then qn (qan) else qn (bits .or .i64 (0:Int) (1:Int)) else qn (bits .or .i64 (0:Int) (1:Int)) else bif (decide ((97:UInt8)≤c0)) then bif (decide (c0≤(122:UInt8))) then qn (qan) else qn (bits .or .i64 (0:Int) (1:Int)) else qn (bits .or .i64 (0:Int) (1:Int)) else bif (decide ((65:UInt8)≤c0)) then bif (decide (c0≤(90:UInt8))) then bif (decide (c0≤(90:UInt8))) then qn (qan) else qn (bits .or .i64 (0:Int) (1:Int)) else bif (decide ((97:UInt8)≤c0)) then bif (decide (c0≤(122:UInt8))) then qn (qan) else qn (bits .or .i64 (0:Int) (1:Int)) else qn (bits .or .i64 (0:Int) (1:Int)) else bif (decide ((97:UInt8)≤c0)) then bif (decide (c0≤(122:UInt8))) then qn (qan) else qn (bits .or .i64 (0:Int) (1:Int)) else qn (bits .or .i64 (0:Int) (1:Int)) else bif (c0==(32:UInt8)) then qn (bits .or .i64 (0:Int) (2:Int)) else bif (c0==(9:UInt8)) then qn (bits .or .i64 (0:Int) (2:Int)) else bif (decide ((48:UInt8)≤c0)) then bif (decide (c0≤(57:UInt8))) then qn (bits .or .i64 (0:Int) (648:Int)) else bif (decide ((65:UInt8)≤c0)) then bif (decide (c0≤(90:UInt8))) then bif (decide (c0≤(90:UInt8))) then qn (bits .or .i64 (0:Int) (656:Int)) else qn (0:Int) else bif (decide ((97:UInt8)≤c0)) then bif (decide (c0≤(122:UInt8))) then qn (bits .or .i64 (0:Int) (656:Int)) else qn (0:Int) else qn (0:Int) else bif (decide ((97:UInt8)≤c0)) then bif (decide (c0≤(122:UInt8))) then qn (bits .or .i64 (0:Int) (656:Int)) else qn (0:Int) else qn (0:Int) else bif (decide ((65:UInt8)≤c0)) then bif (decide (c0≤(90:UInt8))) then bif (decide (c0≤(90:UInt8))) then qn (bits .or .i64 (0:Int) (656:Int)) else qn (0:Int) else bif (decide ((97:UInt8)≤c0)) then bif (decide (c0≤(122:UInt8))) then qn (bits .or .i64 (0:Int) (656:Int)) else qn (0:Int) else qn (0:Int) else bif (decide ((97:UInt8)≤c0)) then bif (decide (c0≤(122:UInt8))) then qn (bits .or .i64 (0:Int) (656:Int)) else qn (0:Int) else qn (0:Int)
def qCG (s4:Int):OA:=some (dc s4)
def qKc (_n:Nat) (s0:LU) (c1:UInt8):OA :=
 qCG (z150 s0 c1)
def qCH (s4:Int):OA:=some (dc s4)
def qKd (_n:Nat) (s0:LU) (c1:UInt8):OA :=
 qCH (z145 s0 c1)
def qKe (s4:Bool):OA:=some (dg s4)
def qSK (_n:Nat) (s0:LU) (c1:UInt8):OA :=
 qKe (decide (0≤(z126 s0 c1)))
def qbO (s2:Int):OA:=some (dc s2)
def qcf (c0:UInt8):=(bits .or .i64 (z97 c0) (4:Int))
def qfI (c0:UInt8):=(z98 ([40,41,60,62,64,44,59,58,92,34,47,91,93,63,61]:LU) c0)
def qcV (c0:UInt8):=(bits .or .i64 (qcf c0) (128:Int))
def qMn (_n:Nat) (c0:UInt8):OA :=
 bif (decide (c0 < (33:UInt8))) then qbO (z97 c0) else bif (decide ((126:UInt8) < c0)) then qbO (z97 c0) else bif (z98 ([33,42,43,45,47]:LU) c0) then bif (z98 ([43,47]:LU) c0) then bif (qfI c0) then qbO (bits .or .i64 (bits .or .i64 (qcV c0) (512:Int)) (32:Int)) else bif (!(z98 ([42,39,37]:LU) c0)) then qbO (bits .or .i64 (bits .or .i64 (bits .or .i64 (qcV c0) (512:Int)) (64:Int)) (256:Int)) else qbO (bits .or .i64 (bits .or .i64 (qcV c0) (512:Int)) (64:Int)) else bif (qfI c0) then qbO (bits .or .i64 (qcV c0) (32:Int)) else bif (!(z98 ([42,39,37]:LU) c0)) then qbO (bits .or .i64 (bits .or .i64 (qcV c0) (64:Int)) (256:Int)) else qbO (bits .or .i64 (qcV c0) (64:Int)) else bif (z98 ([43,47]:LU) c0) then bif (qfI c0) then qbO (bits .or .i64 (bits .or .i64 (qcf c0) (512:Int)) (32:Int)) else bif (!(z98 ([42,39,37]:LU) c0)) then qbO (bits .or .i64 (bits .or .i64 (bits .or .i64 (qcf c0) (512:Int)) (64:Int)) (256:Int)) else qbO (bits .or .i64 (bits .or .i64 (qcf c0) (512:Int)) (64:Int)) else bif (qfI c0) then qbO (bits .or .i64 (qcf c0) (32:Int)) else bif (!(z98 ([42,39,37]:LU) c0)) then qbO (bits .or .i64 (bits .or .i64 (qcf c0) (64:Int)) (256:Int)) else qbO (bits .or .i64 (qcf c0) (64:Int))
def qKf (s4:Bool):OA:=some (dg s4)
def qSL (_n:Nat) (c0:UInt8) (kinds1:Int):OA :=
 qKf ((bits .and .i64 (z58 c0) kinds1) != (0:Int))
def qCI (s4:Int):OA:=some (dc s4)
def qed (k0:Int→OA) (next:Int→Int→LU→Int→Int→OA) (_n:Nat) (kinds1:Int) (n5:Int) (s8:LU) (s9:Int) (s10:Int):OA :=
 bif (decide (s10 < s9)) then
 bif ((decide (0≤s10))&&(decide (s10 < s8.length))) then
 bif (z36 (s8.getD s10.toNat (0:UInt8)) kinds1) then
 next kinds1 (IntKind.wrap .i64 (n5+1)) s8 s9 (IntKind.wrap .i64 (s10+1))
 else
 next kinds1 n5 s8 s9 (IntKind.wrap .i64 (s10+1))
 else none
 else
 k0 n5
def qfJ (k0:Int→OA):Nat→Int→Int→LU→Int→Int→OA
 | 0=>fun _ _ _ _ _=>none
 | n+1=>qed k0 (qfJ k0 n) n
def qfK (_n:Nat) (n5:Int):OA :=
 qCI n5
def qvy (n:Nat) (s0:LU) (kinds1:Int):OA :=
 qfJ (qfK n) n kinds1 (0:Int) s0 (s0.length:Int) (0:Int)
def qCJ (s4:Bool):OA:=some (dg s4)
def qMo (_n:Nat) (s0:LU) (kinds1:Int):OA :=
 bif ((qwu s0 kinds1)&&true) then
 qCJ ((z122 s0 kinds1)==(s0.length:Int))
 else none
def qCK (s4:Bool):OA:=some (dg s4)
def qMp (_n:Nat) (s0:LU) (kinds1:Int):OA :=
 bif (decide ((0:Int) < (s0.length:Int))) then
 bif ((qyU s0 kinds1)&&true) then
 qCK (z90 s0 kinds1)
 else none
 else
 qCK false
def qaf (s2:LU×(Int×(LU×Unit))) (s3:Int):OA:=some (.tup [(.dat (.pair (.sl .byte) (.pair (.int .i64) (.pair (.sl .byte) .unit))) s2 none),(dc s3)])
def qA (s0:LU):=((z83 ((z82 s0 ([(63:UInt8)]:LU)).getD (1:Int).toNat ([]:LU))),((z84 ((z82 s0 ([(63:UInt8)]:LU)).getD (2:Int).toNat ([]:LU))),((z83 ((z82 s0 ([(63:UInt8)]:LU)).getD (3:Int).toNat ([]:LU))),())))
def qI:=(([]:LU),((0:Int),(([]:LU),())))
def qog (s0:LU):=( bif ((qA s0).2.1==(0:Int)) then qaf (qI) (3:Int) else bif ((qhU (qA s0).1 (64:Int))&&true) then bif (!(z85 (qA s0).1 (64:Int))) then qaf (qI) (3:Int) else bif ((qhU (qA s0).2.2.1 (4:Int))&&true) then bif (!(z85 (qA s0).2.2.1 (4:Int))) then qaf (qI) (3:Int) else bif (decide ((75:Int) < (s0.length:Int))) then qaf (qI) (12:Int) else qaf (qA s0) (0:Int) else none else none)
def qcg (s0:LU):=(z82 s0 ([(63:UInt8)]:LU))
def qfL (s0:LU):=((qhW ((qcg s0).getD (3:Int).toNat ([]:LU)))&&true)
def qim (s0:LU):=((qJC ((qcg s0).getD (2:Int).toNat ([]:LU)))&&true)
def qcW (s0:LU):=(qcg s0).length
def qMq (_n:Nat) (s0:LU):OA :=
 bif ((qEA s0 ([(63:UInt8)]:LU))&&true) then bif (((qcW s0):Int) != (5:Int)) then qaf (qI) (3:Int) else bif ((decide (0≤(0:Int)))&&(decide ((0:Int) < (qcW s0)))) then bif (((qcg s0).getD (0:Int).toNat ([]:LU)) != ([61]:LU)) then qaf (qI) (3:Int) else bif ((decide (0≤(4:Int)))&&(decide ((4:Int) < (qcW s0)))) then bif (((qcg s0).getD (4:Int).toNat ([]:LU)) != ([61]:LU)) then qaf (qI) (3:Int) else bif ((decide (0≤(1:Int)))&&(decide ((1:Int) < (qcW s0)))) then bif ((decide (0≤(2:Int)))&&(decide ((2:Int) < (qcW s0)))) then bif ((decide (0≤(3:Int)))&&(decide ((3:Int) < (qcW s0)))) then both ( bif ((qhW ((qcg s0).getD (1:Int).toNat ([]:LU)))&&true) then both ( bif (qim s0) then both ( bif (qfL s0) then both (qog s0) (qog s0) else none) ( bif (qfL s0) then bif ((qA s0).2.1==(0:Int)) then qaf (qI) (3:Int) else bif ((qhU (qA s0).1 (64:Int))&&true) then bif (!(z85 (qA s0).1 (64:Int))) then qaf (qI) (3:Int) else bif ((qhU (qA s0).2.2.1 (4:Int))&&true) then bif (!(z85 (qA s0).2.2.1 (4:Int))) then qaf (qI) (3:Int) else bif (decide ((75:Int) < (s0.length:Int))) then qaf (qI) (12:Int) else qaf (qA s0) (0:Int) else none else none else none) else none) ( bif (qim s0) then bif (qfL s0) then bif ((qA s0).2.1==(0:Int)) then qaf (qI) (3:Int) else bif ((qhU (qA s0).1 (64:Int))&&true) then bif (!(z85 (qA s0).1 (64:Int))) then qaf (qI) (3:Int) else bif ((qhU (qA s0).2.2.1 (4:Int))&&true) then bif (!(z85 (qA s0).2.2.1 (4:Int))) then qaf (qI) (3:Int) else bif (decide ((75:Int) < (s0.length:Int))) then qaf (qI) (12:Int) else qaf (qA s0) (0:Int) else none else none else none else none) else none) ( bif ((qhW ((qcg s0).getD (1:Int).toNat ([]:LU)))&&true) then bif (qim s0) then bif (qfL s0) then bif ((qA s0).2.1==(0:Int)) then qaf (qI) (3:Int) else bif ((qhU (qA s0).1 (64:Int))&&true) then bif (!(z85 (qA s0).1 (64:Int))) then qaf (qI) (3:Int) else bif ((qhU (qA s0).2.2.1 (4:Int))&&true) then bif (!(z85 (qA s0).2.2.1 (4:Int))) then qaf (qI) (3:Int) else bif (decide ((75:Int) < (s0.length:Int))) then qaf (qI) (12:Int) else qaf (qA s0) (0:Int) else none else none else none else none else none) else none else none else none else none else none else none
def qeU (s2:List LU):OA:=some (.dat (.sl .str) s2 (some (2,9)))
def qCL (_n:Nat) (charset0:Int):OA :=
 bif (charset0==(1:Int)) then
 qeU ([([117,115,45,97,115,99,105,105]:LU),([97,115,99,105,105]:LU),([97,110,115,105,95,120,51,46,52,45,49,57,54,56]:LU),([105,115,111,54,52,54,45,117,115]:LU)]:List LU)
 else
 bif (charset0==(2:Int)) then
 qeU ([([105,115,111,45,56,56,53,57,45,49]:LU),([105,115,111,95,56,56,53,57,45,49]:LU),([108,97,116,105,110,49]:LU),([108,49]:LU)]:List LU)
 else
 bif (charset0==(3:Int)) then
 qeU ([([105,115,111,45,56,56,53,57,45,49,53]:LU),([105,115,111,95,56,56,53,57,45,49,53]:LU),([108,97,116,105,110,45,57]:LU)]:List LU)
 else
 bif (charset0==(4:Int)) then
 qeU ([([119,105,110,100,111,119,115,45,49,50,53,50]:LU),([99,112,49,50,53,50]:LU)]:List LU)
 else
 bif (charset0==(5:Int)) then
 qeU ([([117,116,102,45,56]:LU),([117,116,102,56]:LU)]:List LU)
 else
 qeU ([]:List LU)
def qKg (s0:List (LU×Int)):OA:=some (.abs (.sl (.pair .str (.int .i64))) (qmF .str (.int .i64)) s0)
def qCM (k2:List (LU×Int)→Int→OA) (next:List (LU×Int)→Int→List LU→Int→Int→OA) (_n:Nat) (m1:List (LU×Int)) (n2:Int) (s11:List LU) (s12:Int) (s13:Int):OA :=
 bif (decide (s13 < s12)) then
 bif ((decide (0≤s13))&&(decide (s13 < s11.length))) then
 next (@putM .str (.int .i64) (s11.getD s13.toNat ([]:LU)) n2 m1) n2 s11 s12 (IntKind.wrap .i64 (s13+1))
 else none
 else
 k2 m1 n2
def qyD (k2:List (LU×Int)→Int→OA):Nat→List (LU×Int)→Int→List LU→Int→Int→OA
 | 0=>fun _ _ _ _ _=>none
 | n+1=>qCM k2 (qyD k2 n) n
def qoh (_k0:List (LU×Int)→OA) (next:List (LU×Int)→Int→OA) (_n:Nat) (m1:List (LU×Int)) (n2:Int):OA :=
 next m1 (IntKind.wrap .i64 (n2+1))
def qsP (k0:List (LU×Int)→OA) (next:List (LU×Int)→Int→OA) (n:Nat) (m1:List (LU×Int)) (n2:Int):OA :=
 bif (decide (n2≤(5:Int))) then
 qyD (qoh k0 next n) n m1 n2 (z117 n2) ((z117 n2).length:Int) (0:Int)
 else
 k0 m1
def qyE (k0:List (LU×Int)→OA):Nat→List (LU×Int)→Int→OA
 | 0=>fun _ _=>none
 | n+1=>qsP k0 (qyE k0 n) n
def qoi (_n:Nat) (m1:List (LU×Int)):OA :=
 qKg m1
def qMr (n:Nat):OA :=
 qyE (qoi n) n ([]:List (LU×Int)) (1:Int)
def qsQ (s4:LU):OA:=some (da s4)
def qvz (k0:LU→OA) (next:LU→UInt8→OA) (_n:Nat) (s0:LU) (c1:UInt8):OA :=
 bif (decide ((0:Int) < (s0.length:Int))) then
 bif ((decide (0≤(0:Int)))&&(decide ((0:Int) < s0.length))) then
 bif ((s0.getD (0:Int).toNat (0:UInt8))==c1) then
 bif (((decide (0≤(1:Int)))&&(decide ((1:Int)≤(s0.length:Int))))&&(decide ((s0.length:Int)≤(s0.length:Int)))) then
 next (List.drop (1:Int).toNat (List.take (s0.length:Int).toNat s0)) c1
 else none
 else
 k0 s0
 else none
 else
 k0 s0
def qlG (k0:LU→OA):Nat→LU→UInt8→OA
 | 0=>fun _ _=>none
 | n+1=>qvz k0 (qlG k0 n) n
def qin (_n:Nat) (s0:LU):OA :=
 bif ((s0.length:Int)==(0:Int)) then
 qsQ ([]:LU)
 else
 qsQ s0
def qCN (n:Nat) (s0:LU) (c1:UInt8):OA :=
 qlG (qin n) n s0 c1
def qjN (as2:List Bool) (ok3:Bool):OA:=some (.tup [(.dat (.arr 256 .bool) as2 none),(dg ok3)])
def qee (ret:List Bool→Bool→OA) (k0:List Bool→OA) (next:LU→List Bool→Int→OA) (_n:Nat) (chars0:LU) (as2:List Bool) (i4:Int):OA :=
 bif (decide (i4 < (chars0.length:Int))) then
 bif ((decide (0≤i4))&&(decide (i4 < chars0.length))) then
 bif (decide ((128:UInt8)≤(chars0.getD i4.toNat (0:UInt8)))) then
 ret as2 false
 else
 bif ((decide (0≤((UInt8.toNat (chars0.getD i4.toNat (0:UInt8)):Nat):Int)))&&(decide (((UInt8.toNat (chars0.getD i4.toNat (0:UInt8)):Nat):Int) < (256:Nat)))) then
 next chars0 (List.set as2 ((UInt8.toNat (chars0.getD i4.toNat (0:UInt8)):Nat):Int).toNat true) (IntKind.wrap .i64 (i4+1))
 else none
 else none
 else
 k0 as2
def qfM (ret:List Bool→Bool→OA) (k0:List Bool→OA):Nat→LU→List Bool→Int→OA
 | 0=>fun _ _ _=>none
 | n+1=>qee ret k0 (qfM ret k0 n) n
def qfN (_n:Nat) (as2:List Bool):OA :=
 qjN as2 true
def qCO (n:Nat) (chars0:LU):OA :=
 qfM qjN (qfN n) n chars0 (List.replicate 256 false) (0:Int)
def qCP (s4:Bool):OA:=some (dg s4)
def qCQ (_n:Nat) (as0:List Bool) (c1:UInt8):OA :=
 bif ((decide (0≤((UInt8.toNat c1:Nat):Int)))&&(decide (((UInt8.toNat c1:Nat):Int) < (256:Nat)))) then
 qCP (as0.getD ((UInt8.toNat c1:Nat):Int).toNat false)
 else none
def qsR (s4:LU):OA:=some (da s4)
def qio (k0:LU→OA) (next:LU→List Bool→OA) (_n:Nat) (s0:LU) (as1:List Bool):OA :=
 bif (decide ((0:Int) < (s0.length:Int))) then
 bif ((decide (0≤(0:Int)))&&(decide ((0:Int) < s0.length))) then
 bif (!(z153 as1 (s0.getD (0:Int).toNat (0:UInt8)))) then
 k0 s0
 else
 bif (((decide (0≤(1:Int)))&&(decide ((1:Int)≤(s0.length:Int))))&&(decide ((s0.length:Int)≤(s0.length:Int)))) then
 next (List.drop (1:Int).toNat (List.take (s0.length:Int).toNat s0)) as1
 else none
 else none
 else
 k0 s0
def qhA (k0:LU→OA):Nat→LU→List Bool→OA
 | 0=>fun _ _=>none
 | n+1=>qio k0 (qhA k0 n) n
def qfO (_n:Nat) (s0:LU):OA :=
 bif ((s0.length:Int)==(0:Int)) then
 qsR ([]:LU)
 else
 qsR s0
def qvA (n:Nat) (s0:LU) (as1:List Bool):OA :=
 qhA (qfO n) n s0 as1
def qCR (s4:LU):OA:=some (da s4)
def qaT (s0:LU):=(IntKind.wrap .i64 ((s0.length:Int) - (1:Int)))
def qvB (k0:LU→OA) (next:LU→UInt8→OA) (_n:Nat) (s0:LU) (c1:UInt8):OA :=
 bif (decide ((0:Int) < (s0.length:Int))) then bif ((decide (0≤(qaT s0)))&&(decide ((qaT s0) < s0.length))) then bif ((s0.getD (qaT s0).toNat (0:UInt8))==c1) then bif (((decide (0≤((0:Nat):Int)))&&(decide (((0:Nat):Int)≤(qaT s0))))&&(decide ((qaT s0)≤(s0.length:Int)))) then next (List.drop ((0:Nat):Int).toNat (List.take (qaT s0).toNat s0)) c1 else none else k0 s0 else none else k0 s0
def qlH (k0:LU→OA):Nat→LU→UInt8→OA
 | 0=>fun _ _=>none
 | n+1=>qvB k0 (qlH k0 n) n
def qip (_n:Nat) (s0:LU):OA :=
 qCR s0
def qCS (n:Nat) (s0:LU) (c1:UInt8):OA :=
 qlH (qip n) n s0 c1
def qCT (s4:LU):OA:=some (da s4)
def qaw (s0:LU):=(IntKind.wrap .i64 ((s0.length:Int) - (1:Int)))
def qiq (k0:LU→OA) (next:LU→List Bool→OA) (_n:Nat) (s0:LU) (as1:List Bool):OA :=
 bif (decide ((0:Int) < (s0.length:Int))) then bif ((decide (0≤(qaw s0)))&&(decide ((qaw s0) < s0.length))) then bif (!(z153 as1 (s0.getD (qaw s0).toNat (0:UInt8)))) then k0 s0 else bif (((decide (0≤((0:Nat):Int)))&&(decide (((0:Nat):Int)≤(qaw s0))))&&(decide ((qaw s0)≤(s0.length:Int)))) then next (List.drop ((0:Nat):Int).toNat (List.take (qaw s0).toNat s0)) as1 else none else none else k0 s0
def qhB (k0:LU→OA):Nat→LU→List Bool→OA
 | 0=>fun _ _=>none
 | n+1=>qiq k0 (qhB k0 n) n
def qir (_n:Nat) (s0:LU):OA :=
 qCT s0
def qvC (n:Nat) (s0:LU) (as1:List Bool):OA :=
 qhB (qir n) n s0 as1
def qdD (s4:LU):OA:=some (da s4)
def qbP (cutset1:LU):=(cutset1.getD (0:Int).toNat (0:UInt8))
def qfP (cutset1:LU):=((decide (0≤(0:Int)))&&(decide ((0:Int) < cutset1.length)))
def qCU (_n:Nat) (s0:LU) (cutset1:LU):OA :=
 bif ((s0.length:Int)==(0:Int)) then qdD ([]:LU) else bif (cutset1==([]:LU)) then qdD s0 else bif ((cutset1.length:Int)==(1:Int)) then bif (qfP cutset1) then bif (decide ((qbP cutset1) < (128:UInt8))) then bif (qfP cutset1) then bif (qfP cutset1) then bif ((qEF s0 (qbP cutset1))&&true) then bif ((qwt (z156 s0 (qbP cutset1)) (qbP cutset1))&&true) then qdD (z146 (z156 s0 (qbP cutset1)) (qbP cutset1)) else none else none else none else none else bif ((qcn cutset1)&&true) then bif ((z147 cutset1).2) then bif ((qrh s0 ((z147 cutset1).1))&&true) then bif ((qhK (z157 s0 ((z147 cutset1).1)) ((z147 cutset1).1))&&true) then qdD (z148 (z157 s0 ((z147 cutset1).1)) ((z147 cutset1).1)) else none else none else bif ((qEG s0 cutset1)&&true) then bif ((qrg (z158 s0 cutset1) cutset1)&&true) then qdD (z149 (z158 s0 cutset1) cutset1) else none else none else none else none else bif ((qcn cutset1)&&true) then bif ((z147 cutset1).2) then bif ((qrh s0 ((z147 cutset1).1))&&true) then bif ((qhK (z157 s0 ((z147 cutset1).1)) ((z147 cutset1).1))&&true) then qdD (z148 (z157 s0 ((z147 cutset1).1)) ((z147 cutset1).1)) else none else none else bif ((qEG s0 cutset1)&&true) then bif ((qrg (z158 s0 cutset1) cutset1)&&true) then qdD (z149 (z158 s0 cutset1) cutset1) else none else none else none
def qCV (s2:LU):OA:=some (db s2 (some (2,5)))
def qCW (_n:Nat) (s0:LU):OA :=
 bif ((qgk s0 ([32,9]:LU))&&true) then
 bif ((qhW (z129 s0 ([32,9]:LU)))&&true) then
 qCV (z83 (z129 s0 ([32,9]:LU)))
 else none
 else none
def qCX (s2:LU):OA:=some (db s2 (some (2,5)))
def qMs (_n:Nat) (s0:LU):OA :=
 bif (decide (0≤(z91 s0 (42:UInt8)))) then
 bif (((decide (0≤((0:Nat):Int)))&&(decide (((0:Nat):Int)≤(z91 s0 (42:UInt8)))))&&(decide ((z91 s0 (42:UInt8))≤(s0.length:Int)))) then
 bif ((qmf (List.drop ((0:Nat):Int).toNat (List.take (z91 s0 (42:UInt8)).toNat s0)))&&true) then
 qCX (z119 (List.drop ((0:Nat):Int).toNat (List.take (z91 s0 (42:UInt8)).toNat s0)))
 else none
 else none
 else
 bif ((qmf s0)&&true) then
 qCX (z119 s0)
 else none
def qCY (s2:Int) (s3:Int):OA:=some (.tup [(dc s2),(dc s3)])
def qMt (_n:Nat) (s0:LU):OA :=
 bif ((qFz s0)&&true) then
 bif ((qyT (z88 s0))&&true) then
 bif (!(Option.isSome (@findM .str (.int .i64) (z87 (z88 s0)) z86))) then
 qCY (0:Int) (10:Int)
 else
 qCY (Option.getD (@findM .str (.int .i64) (z87 (z88 s0)) z86) (0:Int)) (0:Int)
 else none
 else none
def qCZ (s2:Int):OA:=some (dc s2)
def qMu (_n:Nat) (w0:LU×(Int×(LU×Unit))):OA :=
 bif ((qxb w0.1)&&true) then
 bif (((z53 w0.1).2) != (0:Int)) then
 qCZ (2:Int)
 else
 qCZ ((z53 w0.1).1)
 else none
def qDa (s2:Int):OA:=some (dc s2)
def qMv (_n:Nat) (s0:LU):OA :=
 bif ((qlj s0)&&true) then
 bif (((z51 s0).2) != (0:Int)) then
 qDa (0:Int)
 else
 bif ((qxg ((z51 s0).1))&&true) then
 qDa (z52 ((z51 s0).1))
 else none
 else none
def qKh (s9:LI):OA:=some (.tup [(.tup []),.bad,(.pbox (.osl 3 (.int .i64)) s9 none)])
def qMw (_n:Nat) (w0:LU) (x1:LI):OA :=
 bif ((qFL w0)&&true) then
 bif (decide (x1.length+List.length ([(z31 w0)]:LI)≤room)) then
 qKh (x1++([(z31 w0)]:LI))
 else none
 else none
def qsS (s4:Bool):OA:=some (dg s4)
def qDb (_n:Nat) (s0:LU) (suffix1:LU):OA :=
 bif (decide ((suffix1.length:Int)≤(s0.length:Int))) then
 bif (((decide (0≤(IntKind.wrap .i64 ((s0.length:Int) - (suffix1.length:Int)))))&&(decide ((IntKind.wrap .i64 ((s0.length:Int) - (suffix1.length:Int)))≤(s0.length:Int))))&&(decide ((s0.length:Int)≤(s0.length:Int)))) then
 qsS (z93 (List.drop (IntKind.wrap .i64 ((s0.length:Int) - (suffix1.length:Int))).toNat (List.take (s0.length:Int).toNat s0)) suffix1)
 else none
 else
 qsS false
def qsT (s4:LU):OA:=some (da s4)
def qDc (_n:Nat) (s0:LU) (suffix1:LU):OA :=
 bif ((qur s0 suffix1)&&true) then
 bif (z166 s0 suffix1) then
 bif (((decide (0≤((0:Nat):Int)))&&(decide (((0:Nat):Int)≤(IntKind.wrap .i64 ((s0.length:Int) - (suffix1.length:Int))))))&&(decide ((IntKind.wrap .i64 ((s0.length:Int) - (suffix1.length:Int)))≤(s0.length:Int)))) then
 qsT (List.drop ((0:Nat):Int).toNat (List.take (IntKind.wrap .i64 ((s0.length:Int) - (suffix1.length:Int))).toNat s0))
 else none
 else
 qsT s0
 else none
def qsU (s2:LU):OA:=some (da s2)
def qvD (k0:LU→OA) (next:LU→Int→OA) (_n:Nat) (s0:LU) (s3:Int):OA :=
 bif (decide (s3 < (2:Int))) then
 bif ((qjj s0 ([(61:UInt8)]:LU))&&true) then
 next (z143 s0 ([(61:UInt8)]:LU)) (IntKind.wrap .i64 (s3+1))
 else none
 else
 k0 s0
def qlI (k0:LU→OA):Nat→LU→Int→OA
 | 0=>fun _ _=>none
 | n+1=>qvD k0 (qlI k0 n) n
def qis (_n:Nat) (s0:LU):OA :=
 qsU s0
def qvE (n:Nat) (s0:LU):OA :=
 qlI (qis n) n s0 (0:Int)
def qsV (s2:Int) (s3:Bool):OA:=some (.tup [(dc s2),(dg s3)])
def qjO (c0:UInt8):=(z126 ([65,66,67,68,69,70,71,72,73,74,75,76,77,78,79,80,81,82,83,84,85,86,87,88,89,90,97,98,99,100,101,102,103,104,105,106,107,108,109,110,111,112,113,114,115,116,117,118,119,120,121,122,48,49,50,51,52,53,54,55,56,57,43,47]:LU) c0)
def qKi (_n:Nat) (c0:UInt8):OA :=
 qsV (bif (decide ((0:Int) > (qjO c0))) then (0:Int) else (qjO c0)) (decide (0≤(qjO c0)))
def qch (s2:LU) (s3:Int):OA:=some (.tup [(da s2),(dc s3)])
def qbv (held5:Int) (s12:LU) (s14:Int):=(bits .or .i64 (IntKind.wrap .i64 (held5*2 ^ (min (6:Int).toNat (IntKind.bits .i64)))) ((z121 (s12.getD s14.toNat (0:UInt8))).1))
def qaz (many6:Int):=(IntKind.wrap .i64 ((IntKind.wrap .i64 (many6+(6:Int))) - (8:Int)))
def qgG (ret:LU→Int→OA) (k0:LU→LU→Int→OA) (next:LU→LU→Int→Int→LU→Int→Int→OA) (_n:Nat) (s0:LU) (out4:LU) (held5:Int) (many6:Int) (s12:LU) (s13:Int) (s14:Int):OA :=
 bif (decide (s14 < s13)) then bif ((decide (0≤s14))&&(decide (s14 < s12.length))) then bif (!((z121 (s12.getD s14.toNat (0:UInt8))).2)) then ret ([]:LU) (3:Int) else bif (decide ((8:Int)≤(IntKind.wrap .i64 (many6+(6:Int))))) then bif (decide (0≤(qaz many6))) then bif (decide (out4.length+List.length ([(UInt8.ofNat (IntKind.wrap .u8 (Int.fdiv (qbv held5 s12 s14) (2 ^ (min (qaz many6).toNat (IntKind.bits .i64))))).toNat)]:LU)≤room)) then bif (decide (0≤(qaz many6))) then next s0 (out4++([(UInt8.ofNat (IntKind.wrap .u8 (Int.fdiv (qbv held5 s12 s14) (2 ^ (min (qaz many6).toNat (IntKind.bits .i64))))).toNat)]:LU)) (bits .and .i64 (qbv held5 s12 s14) (IntKind.wrap .i64 ((IntKind.wrap .i64 ((1:Int)*2 ^ (min (qaz many6).toNat (IntKind.bits .i64)))) - (1:Int)))) (qaz many6) s12 s13 (IntKind.wrap .i64 (s14+1)) else none else none else none else next s0 out4 (qbv held5 s12 s14) (IntKind.wrap .i64 (many6+(6:Int))) s12 s13 (IntKind.wrap .i64 (s14+1)) else none else k0 s0 out4 held5
def qld (ret:LU→Int→OA) (k0:LU→LU→Int→OA):Nat→LU→LU→Int→Int→LU→Int→Int→OA
 | 0=>fun _ _ _ _ _ _ _=>none
 | n+1=>qgG ret k0 (qld ret k0 n) n
def qcX (_n:Nat) (s0:LU) (out4:LU) (held5:Int):OA :=
 bif ((Int.tmod (s0.length:Int) (4:Int)) != (0:Int)) then
 qch ([]:LU) (4:Int)
 else
 bif (held5 != (0:Int)) then
 qch ([]:LU) (3:Int)
 else
 qch out4 (0:Int)
def qHT (n:Nat) (s0:LU):OA :=
 bif ((qum s0)&&true) then
 qld qch (qcX n) n s0 ([]:LU) (0:Int) (0:Int) (z120 s0) ((z120 s0).length:Int) (0:Int)
 else none
def qKj (s2:Bool):OA:=some (dg s2)
def qMx (_n:Nat) (s0:LU):OA :=
 bif ((qFB s0)&&true) then
 qKj (((z89 s0).2)==(0:Int))
 else none
def qjP (s2:Int) (s3:Bool):OA:=some (.tup [(dc s2),(dg s3)])
def qDd (_n:Nat) (c0:UInt8):OA :=
 bif (z36 (z118 c0) (8:Int)) then
 qjP (IntKind.wrap .i64 ((UInt8.toNat ((z118 c0) - (48:UInt8)):Nat):Int)) true
 else
 bif (decide ((97:UInt8)≤(z118 c0))) then
 bif (decide ((z118 c0)≤(102:UInt8))) then
 qjP (IntKind.wrap .i64 ((IntKind.wrap .i64 ((UInt8.toNat ((z118 c0) - (97:UInt8)):Nat):Int))+(10:Int))) true
 else
 qjP (0:Int) false
 else
 qjP (0:Int) false
def qoj (s4:UInt8) (s5:Bool):OA:=some (.tup [(dm s4),(dg s5)])
def qDe (_n:Nat) (a0:UInt8) (b1:UInt8):OA :=
 bif (!((z175 a0).2)) then
 qoj (0:UInt8) false
 else
 bif (!((z175 b1).2)) then
 qoj (0:UInt8) false
 else
 qoj (UInt8.ofNat (IntKind.wrap .u8 (bits .or .i64 (IntKind.wrap .i64 (((z175 a0).1)*2 ^ (min (4:Int).toNat (IntKind.bits .i64)))) ((z175 b1).1))).toNat) true
def qjQ (s6:UInt8) (s7:Bool):OA:=some (.tup [(dm s6),(dg s7)])
def qjR (s0:LU) (at1:Int):=(z167 (s0.getD (IntKind.wrap .i64 (at1+1)).toNat (0:UInt8)) (s0.getD (IntKind.wrap .i64 (at1+(2:Int))).toNat (0:UInt8)))
def qDf (_n:Nat) (s0:LU) (at1:Int) (sign2:UInt8):OA :=
 bif (decide (at1 < (0:Int))) then qjQ (0:UInt8) false else bif (decide ((IntKind.wrap .i64 ((s0.length:Int) - (3:Int))) < at1)) then qjQ (0:UInt8) false else bif ((decide (0≤at1))&&(decide (at1 < s0.length))) then bif ((s0.getD at1.toNat (0:UInt8)) != sign2) then qjQ (0:UInt8) false else bif ((decide (0≤(IntKind.wrap .i64 (at1+1))))&&(decide ((IntKind.wrap .i64 (at1+1)) < s0.length))) then bif ((decide (0≤(IntKind.wrap .i64 (at1+(2:Int)))))&&(decide ((IntKind.wrap .i64 (at1+(2:Int))) < s0.length))) then qjQ ((qjR s0 at1).1) ((qjR s0 at1).2) else none else none else none
def qjS (s2:LU) (s3:Int):OA:=some (.tup [(da s2),(dc s3)])
def qax (s0:LU) (at6:Int):=(s0.getD at6.toNat (0:UInt8))
def qit (k0:LU→Int→OA) (next:LU→LU→Int→Int→OA) (_n:Nat) (s0:LU) (out4:LU) (strange5:Int) (at6:Int):OA :=
 bif (decide (at6 < (s0.length:Int))) then bif ((decide (0≤at6))&&(decide (at6 < s0.length))) then bif ((qax s0 at6)==(95:UInt8)) then bif (decide (out4.length+List.length ([(32:UInt8)]:LU)≤room)) then next s0 (out4++([(32:UInt8)]:LU)) strange5 (IntKind.wrap .i64 (at6+1)) else none else bif ((qax s0 at6)==(61:UInt8)) then bif ((quh s0 at6 (61:UInt8))&&true) then bif ((z144 s0 at6 (61:UInt8)).2) then bif (decide (out4.length+List.length ([((z144 s0 at6 (61:UInt8)).1)]:LU)≤room)) then next s0 (out4++([((z144 s0 at6 (61:UInt8)).1)]:LU)) strange5 (IntKind.wrap .i64 (at6+(3:Int))) else none else bif (decide (out4.length+List.length ([(qax s0 at6)]:LU)≤room)) then next s0 (out4++([(qax s0 at6)]:LU)) (IntKind.wrap .i64 (strange5+1)) (IntKind.wrap .i64 (at6+1)) else none else none else bif (decide (out4.length+List.length ([(qax s0 at6)]:LU)≤room)) then next s0 (out4++([(qax s0 at6)]:LU)) strange5 (IntKind.wrap .i64 (at6+1)) else none else none else k0 out4 strange5
def qjT (k0:LU→Int→OA):Nat→LU→LU→Int→Int→OA
 | 0=>fun _ _ _ _=>none
 | n+1=>qit k0 (qjT k0 n) n
def qfQ (_n:Nat) (out4:LU) (strange5:Int):OA :=
 qjS out4 strange5
def qDg (n:Nat) (s0:LU):OA :=
 qjT (qfQ n) n s0 ([]:LU) (0:Int) (0:Int)
def qKk (s2:Int):OA:=some (dc s2)
def qMy (_n:Nat) (s0:LU):OA :=
 bif ((qly s0)&&true) then
 qKk ((z124 s0).2)
 else none
def qqv (s2:Int):OA:=some (dc s2)
def qMz (_n:Nat) (s0:LU):OA :=
 bif ((qyU s0 (4:Int))&&true) then
 bif (!(z90 s0 (4:Int))) then
 qqv (3:Int)
 else
 bif (decide (0≤(z91 s0 (63:UInt8)))) then
 qqv (3:Int)
 else
 bif ((qFG s0)&&true) then
 bif (decide ((0:Int) < (z92 s0))) then
 qqv (3:Int)
 else
 qqv (0:Int)
 else none
 else none
def qlJ (s2:Bool):OA:=some (dg s2)
def qMA (_n:Nat) (s0:LU):OA :=
 bif ((qlj s0)&&true) then
 bif (((z51 s0).2) != (0:Int)) then
 qlJ false
 else
 bif ((qxb ((z51 s0).1).1)&&true) then
 bif (((z51 s0).1).2.1==(1:Int)) then
 bif (((z53 ((z51 s0).1).1).2)==(0:Int)) then
 bif ((qFD ((z51 s0).1).2.2.1)&&true) then
 qlJ (z54 ((z51 s0).1).2.2.1)
 else none
 else
 qlJ false
 else
 bif (((z53 ((z51 s0).1).1).2)==(0:Int)) then
 bif ((qFH ((z51 s0).1).2.2.1)&&true) then
 qlJ ((z55 ((z51 s0).1).2.2.1)==(0:Int))
 else none
 else
 qlJ false
 else none
 else none
def qDh (s9:Int):OA:=some (.tup [(.tup []),.bad,(.pbox (.leaf (.int .i64)) s9 none)])
def qMB (_n:Nat) (w0:LU) (x1:Int):OA :=
 bif ((qFJ w0)&&true) then
 bif (!(z33 w0)) then
 qDh (IntKind.wrap .i64 (x1+1))
 else
 qDh x1
 else none
def qdE (s4:LU):OA:=some (da s4)
def qDi (_n:Nat) (s0:LU) (cutset1:LU):OA :=
 bif ((s0.length:Int)==(0:Int)) then
 qdE ([]:LU)
 else
 bif (cutset1==([]:LU)) then
 qdE s0
 else
 bif ((cutset1.length:Int)==(1:Int)) then
 bif ((decide (0≤(0:Int)))&&(decide ((0:Int) < cutset1.length))) then
 bif (decide ((cutset1.getD (0:Int).toNat (0:UInt8)) < (128:UInt8))) then
 bif ((decide (0≤(0:Int)))&&(decide ((0:Int) < cutset1.length))) then
 bif ((qwt s0 (cutset1.getD (0:Int).toNat (0:UInt8)))&&true) then
 qdE (z146 s0 (cutset1.getD (0:Int).toNat (0:UInt8)))
 else none
 else none
 else
 bif ((qcn cutset1)&&true) then
 bif ((z147 cutset1).2) then
 bif ((qhK s0 ((z147 cutset1).1))&&true) then
 qdE (z148 s0 ((z147 cutset1).1))
 else none
 else
 bif ((qrg s0 cutset1)&&true) then
 qdE (z149 s0 cutset1)
 else none
 else none
 else none
 else
 bif ((qcn cutset1)&&true) then
 bif ((z147 cutset1).2) then
 bif ((qhK s0 ((z147 cutset1).1))&&true) then
 qdE (z148 s0 ((z147 cutset1).1))
 else none
 else
 bif ((qrg s0 cutset1)&&true) then
 qdE (z149 s0 cutset1)
 else none
 else none
def qKl (s2:Int):OA:=some (dc s2)
def qMC (_n:Nat) (s0:LU):OA :=
 bif ((qqY s0 ([32,9,13,10]:LU))&&true) then
 qKl (IntKind.wrap .i64 ((s0.length:Int) - ((z127 s0 ([32,9,13,10]:LU)).length:Int)))
 else none
def qDj (s2:Bool):OA:=some (dg s2)
def qKm (_n:Nat) (bufLen0:Int):OA :=
 qDj (decide ((8:Int) < bufLen0))
def qL (s4:Int):OA:=some (dc s4)
def qef (m0:Int) (ret:Int→OA) (k0:OA) (next:LU→Nat→OA) (_n:Nat) (s28:LU) (s28p:Nat):OA :=
 bif (decide (s28p < s28.length)) then
 bif (decide (s28p < s28.length)) then
 bif ((decL s28 s28p).1==(65533:Int)) then
 ret (0:Int)
 else
 next s28 (bif (decide (s28p < s28.length)) then s28p+(decL s28 s28p).2 else s28p)
 else none
 else
 k0
def qfR (m0:Int) (ret:Int→OA) (k0:OA):Nat→LU→Nat→OA
 | 0=>fun _ _=>none
 | n+1=>(qef m0) ret k0 ((qfR m0) ret k0 n) n
def qiu (m0:Int) (_n:Nat):OA :=
 qL (-1:Int)
def qcA (m0:Int) (ret:Int→OA) (k2:OA) (next:List Bool→LU→Int→Int→OA) (_n:Nat) (as7:List Bool) (s60:LU) (s61:Int) (s62:Int):OA :=
 bif (decide (s62 < s61)) then
 bif ((decide (0≤s62))&&(decide (s62 < s60.length))) then
 bif (z153 as7 (s60.getD s62.toNat (0:UInt8))) then
 ret s62
 else
 next as7 s60 s61 (IntKind.wrap .i64 (s62+1))
 else none
 else
 k2
def qcY (m0:Int) (ret:Int→OA) (k2:OA):Nat→List Bool→LU→Int→Int→OA
 | 0=>fun _ _ _ _=>none
 | n+1=>(qcA m0) ret k2 ((qcY m0) ret k2 n) n
def qdF (m0:Int) (_n:Nat):OA :=
 qL (-1:Int)
def qcB (m0:Int) (ret:Int→OA) (k6:LU→LU→Int→Int→OA) (next:LU→LU→Int→Int→Int→LU→Nat→OA) (_n:Nat) (s0:LU) (chars1:LU) (width11:Int) (i12:Int) (r13:Int) (s121:LU) (s121p:Nat):OA :=
 bif (decide (s121p < s121.length)) then
 bif (decide (s121p < s121.length)) then
 bif (r13==(decL s121 s121p).1) then
 ret i12
 else
 next s0 chars1 width11 i12 r13 s121 (bif (decide (s121p < s121.length)) then s121p+(decL s121 s121p).2 else s121p)
 else none
 else
 k6 s0 chars1 width11 i12
def qbQ (m0:Int) (ret:Int→OA) (k6:LU→LU→Int→Int→OA):Nat→LU→LU→Int→Int→Int→LU→Nat→OA
 | 0=>fun _ _ _ _ _ _ _=>none
 | n+1=>(qcB m0) ret k6 ((qbQ m0) ret k6 n) n
def qcC (m0:Int) (_ret:Int→OA) (_k4:OA) (next:LU→LU→Int→OA) (_n:Nat) (s0:LU) (chars1:LU) (width11:Int) (i12:Int):OA :=
 next s0 chars1 (IntKind.wrap .i64 (i12+width11))
def qy (s0:LU) (i12:Int):=(z154 (List.drop i12.toNat (List.take (s0.length:Int).toNat s0)))
def qdG (m0:Int) (ret:Int→OA) (k4:OA) (next:LU→LU→Int→OA) (n:Nat) (s0:LU) (chars1:LU) (i12:Int):OA :=
 bif (decide (i12 < (s0.length:Int))) then bif ((decide (0≤i12))&&(decide (i12 < s0.length))) then bif (decide ((IntKind.wrap .i32 ((UInt8.toNat (s0.getD i12.toNat (0:UInt8)):Nat):Int)) < (128:Int))) then bif ((decide (0≤i12))&&(decide (i12 < s0.length))) then bif (decide (0≤(z150 chars1 (s0.getD i12.toNat (0:UInt8))))) then ret i12 else next s0 chars1 (IntKind.wrap .i64 (i12+1)) else none else bif (((decide (0≤i12))&&(decide (i12≤(s0.length:Int))))&&(decide ((s0.length:Int)≤(s0.length:Int)))) then bif ((qre (List.drop i12.toNat (List.take (s0.length:Int).toNat s0)))&&true) then bif (((qy s0 i12).1) != (65533:Int)) then bif ((chars1.length:Int)==((qy s0 i12).2)) then bif (chars1==(Utf8.encode ((qy s0 i12).1)).data.toList) then ret i12 else next s0 chars1 (IntKind.wrap .i64 (i12+((qy s0 i12).2))) else bif (decide (((qy s0 i12).2)≤m0)) then bif ((qrd m0 chars1 (Utf8.encode ((qy s0 i12).1)).data.toList)&&true) then bif (decide (0≤(z155 chars1 (Utf8.encode ((qy s0 i12).1)).data.toList))) then ret i12 else next s0 chars1 (IntKind.wrap .i64 (i12+((qy s0 i12).2))) else none else (qbQ m0) ret ((qcC m0) ret k4 next n) n s0 chars1 ((qy s0 i12).2) i12 ((qy s0 i12).1) chars1 0 else (qbQ m0) ret ((qcC m0) ret k4 next n) n s0 chars1 ((qy s0 i12).2) i12 ((qy s0 i12).1) chars1 0 else none else none else none else k4
def qbR (m0:Int) (ret:Int→OA) (k4:OA):Nat→LU→LU→Int→OA
 | 0=>fun _ _ _=>none
 | n+1=>(qdG m0) ret k4 ((qbR m0) ret k4 n) n
def qcD (m0:Int) (_n:Nat):OA :=
 qL (-1:Int)
def qdH (chars1:LU):=(IntKind.wrap .i32 ((UInt8.toNat (chars1.getD (0:Int).toNat (0:UInt8)):Nat):Int))
def qvF (m0:Int) (n:Nat) (s0:LU) (chars1:LU):OA :=
 bif (chars1==([]:LU)) then qL (-1:Int) else bif ((s0.length:Int)==(1:Int)) then bif ((decide (0≤(0:Int)))&&(decide ((0:Int) < s0.length))) then bif (decide ((128:Int)≤(IntKind.wrap .i32 ((UInt8.toNat (s0.getD (0:Int).toNat (0:UInt8)):Nat):Int)))) then (qfR m0) qL ((qiu m0) n) n chars1 0 else bif ((decide (0≤(0:Int)))&&(decide ((0:Int) < s0.length))) then bif (decide (0≤(z150 chars1 (s0.getD (0:Int).toNat (0:UInt8))))) then qL (0:Int) else qL (-1:Int) else none else none else bif ((chars1.length:Int)==(1:Int)) then bif ((decide (0≤(0:Int)))&&(decide ((0:Int) < chars1.length))) then bif (decide ((128:Int)≤(qdH chars1))) then bif ((qEE s0 (65533:Int))&&true) then qL (z151 s0 (65533:Int)) else none else bif ((qEE s0 (qdH chars1))&&true) then qL (z151 s0 (qdH chars1)) else none else none else bif (z152 (s0.length:Int)) then bif ((qcn chars1)&&true) then bif ((z147 chars1).2) then (qcY m0) qL ((qdF m0) n) n ((z147 chars1).1) s0 (s0.length:Int) (0:Int) else (qbR m0) qL ((qcD m0) n) n s0 chars1 (0:Int) else none else (qbR m0) qL ((qcD m0) n) n s0 chars1 (0:Int)
def qsW (s2:Int):OA:=some (dc s2)
def qDk (_n:Nat) (s0:LU):OA :=
 bif ((qme s0 ([32,9,13,10]:LU))&&true) then
 bif (decide ((z128 s0 ([32,9,13,10]:LU)) < (0:Int))) then
 qsW (s0.length:Int)
 else
 qsW (z128 s0 ([32,9,13,10]:LU))
 else none
def qDl (s2:Bool):OA:=some (dg s2)
def qDm (_n:Nat) (s0:LU):OA :=
 bif ((qlj s0)&&true) then
 qDl (((z51 s0).2)==(0:Int))
 else none
def qgH (s2:Int):OA:=some (dc s2)
def qDn (_n:Nat) (run0:LU):OA :=
 bif (decide ((0:Int) < (run0.length:Int))) then
 bif ((qgk run0 ([32,9,13,10]:LU))&&true) then
 bif (((z129 run0 ([32,9,13,10]:LU)).length:Int)==(0:Int)) then
 qgH (1:Int)
 else
 bif ((qra run0)&&true) then
 bif (z130 run0) then
 qgH (3:Int)
 else
 qgH (2:Int)
 else none
 else none
 else
 bif ((qra run0)&&true) then
 bif (z130 run0) then
 qgH (3:Int)
 else
 qgH (2:Int)
 else none
def qKn (s2:List (Int×(LU×Unit))):OA:=some (.dat (.sl (.pair (.int .i64) (.pair (.sl .byte) .unit))) s2 (some (2,41)))
def qaA (s0:LU):=(bif (decide ((z100 s0) > (z99 s0))) then (z100 s0) else (z99 s0))
def qbw (s0:LU):=(List.drop ((0:Nat):Int).toNat (List.take (qaA s0).toNat s0))
def qeg (s0:LU):=(((decide (0≤((0:Nat):Int)))&&(decide (((0:Nat):Int)≤(qaA s0))))&&(decide ((qaA s0)≤(s0.length:Int))))
def qeh (s0:LU):=([((z101 (qbw s0)),((z83 (qbw s0)),()))]:List (Int×(LU×Unit)))
def qgI (k0:List (Int×(LU×Unit))→OA) (next:LU→List (Int×(LU×Unit))→OA) (_n:Nat) (s0:LU) (l3:List (Int×(LU×Unit))):OA :=
 bif (decide ((0:Int) < (s0.length:Int))) then bif ((qJF s0)&&true) then bif ((qwr s0)&&true) then bif (qeg s0) then bif (qeg s0) then bif ((qwq (qbw s0))&&true) then bif ((qhW (qbw s0))&&true) then bif (decide (l3.length+List.length (qeh s0)≤room)) then bif (((decide (0≤(qaA s0)))&&(decide ((qaA s0)≤(s0.length:Int))))&&(decide ((s0.length:Int)≤(s0.length:Int)))) then next (List.drop (qaA s0).toNat (List.take (s0.length:Int).toNat s0)) (l3++(qeh s0)) else none else none else none else none else none else none else none else none else k0 l3
def qok (k0:List (Int×(LU×Unit))→OA):Nat→LU→List (Int×(LU×Unit))→OA
 | 0=>fun _ _=>none
 | n+1=>qgI k0 (qok k0 n) n
def qjU (_n:Nat) (l3:List (Int×(LU×Unit))):OA :=
 qKn l3
def qHU (n:Nat) (s0:LU):OA :=
 qok (qjU n) n s0 ([]:List (Int×(LU×Unit)))
def qKo (s2:List Bool):OA:=some (.dat (.sl .bool) s2 (some (2,4)))
def qgJ (k0:List Bool→OA) (next:List (Int×(LU×Unit))→List Bool→List (Int×(LU×Unit))→Int→Int→OA) (_n:Nat) (l0:List (Int×(LU×Unit))) (out3:List Bool) (s9:List (Int×(LU×Unit))) (s10:Int) (s11:Int):OA :=
 bif (decide (s11 < s10)) then
 bif ((decide (0≤s11))&&(decide (s11 < s9.length))) then
 bif (decide ((0:Int) < s11)) then
 bif (decide ((IntKind.wrap .i64 (s11+1)) < (l0.length:Int))) then
 bif ((s9.getD s11.toNat ((0:Int),(([]:LU),()))).1==(1:Int)) then
 bif ((decide (0≤(IntKind.wrap .i64 (s11 - (1:Int)))))&&(decide ((IntKind.wrap .i64 (s11 - (1:Int))) < l0.length))) then
 bif ((l0.getD (IntKind.wrap .i64 (s11 - (1:Int))).toNat ((0:Int),(([]:LU),()))).1==(3:Int)) then
 bif ((decide (0≤(IntKind.wrap .i64 (s11+1))))&&(decide ((IntKind.wrap .i64 (s11+1)) < l0.length))) then
 bif ((decide (0≤s11))&&(decide (s11 < out3.length))) then
 next l0 (List.set out3 s11.toNat ((l0.getD (IntKind.wrap .i64 (s11+1)).toNat ((0:Int),(([]:LU),()))).1==(3:Int))) s9 s10 (IntKind.wrap .i64 (s11+1))
 else none
 else none
 else
 bif ((decide (0≤s11))&&(decide (s11 < out3.length))) then
 next l0 (List.set out3 s11.toNat false) s9 s10 (IntKind.wrap .i64 (s11+1))
 else none
 else none
 else
 next l0 out3 s9 s10 (IntKind.wrap .i64 (s11+1))
 else
 next l0 out3 s9 s10 (IntKind.wrap .i64 (s11+1))
 else
 next l0 out3 s9 s10 (IntKind.wrap .i64 (s11+1))
 else none
 else
 k0 out3
def qle (k0:List Bool→OA):Nat→List (Int×(LU×Unit))→List Bool→List (Int×(LU×Unit))→Int→Int→OA
 | 0=>fun _ _ _ _ _=>none
 | n+1=>qgJ k0 (qle k0 n) n
def qjV (_n:Nat) (out3:List Bool):OA :=
 qKo out3
def qHV (n:Nat) (l0:List (Int×(LU×Unit))):OA :=
 bif (((decide (0≤(l0.length:Int)))&&(decide ((l0.length:Int)≤(l0.length:Int))))&&(decide ((l0.length:Int)≤(room:Int)))) then
 qle (qjV n) n l0 (List.replicate (l0.length:Int).toNat false) l0 (l0.length:Int) (0:Int)
 else none
def qKp (s2:List (Int×(LU×Unit))):OA:=some (.dat (.sl (.pair (.int .i64) (.pair (.sl .byte) .unit))) s2 (some (2,41)))
def qgK (k0:List (Int×(LU×Unit))→OA) (next:List (Int×(LU×Unit))→List (Int×(LU×Unit))→List Bool→Int→Int→OA) (_n:Nat) (out3:List (Int×(LU×Unit))) (l4:List (Int×(LU×Unit))) (s10:List Bool) (s11:Int) (s12:Int):OA :=
 bif (decide (s12 < s11)) then
 bif ((decide (0≤s12))&&(decide (s12 < s10.length))) then
 bif (!(s10.getD s12.toNat false)) then
 bif ((decide (0≤s12))&&(decide (s12 < l4.length))) then
 bif (decide (out3.length+List.length ([(l4.getD s12.toNat ((0:Int),(([]:LU),())))]:List (Int×(LU×Unit)))≤room)) then
 next (out3++([(l4.getD s12.toNat ((0:Int),(([]:LU),())))]:List (Int×(LU×Unit)))) l4 s10 s11 (IntKind.wrap .i64 (s12+1))
 else none
 else none
 else
 next out3 l4 s10 s11 (IntKind.wrap .i64 (s12+1))
 else none
 else
 k0 out3
def qol (k0:List (Int×(LU×Unit))→OA):Nat→List (Int×(LU×Unit))→List (Int×(LU×Unit))→List Bool→Int→Int→OA
 | 0=>fun _ _ _ _ _=>none
 | n+1=>qgK k0 (qol k0 n) n
def qjW (_n:Nat) (out3:List (Int×(LU×Unit))):OA :=
 qKp out3
def qHW (n:Nat) (s0:LU):OA :=
 bif ((qJG s0)&&true) then
 bif ((qJI (z59 s0))&&true) then
 qol (qjW n) n ([]:List (Int×(LU×Unit))) (z59 s0) (z60 (z59 s0)) ((z60 (z59 s0)).length:Int) (0:Int)
 else none
 else none
def qDo (s13:LI):OA:=some (.tup [(.tup []),.bad,.bad,(.pbox (.osl 21 (.int .i32)) s13 none)])
def qMD (_n:Nat) (c0:Int) (e1:Int) (x2:LI):OA :=
 bif (e1 != (0:Int)) then
 bif (decide (x2.length+List.length ([(65533:Int)]:LI)≤room)) then
 qDo (x2++([(65533:Int)]:LI))
 else none
 else
 bif (decide (x2.length+List.length ([c0]:LI)≤room)) then
 qDo (x2++([c0]:LI))
 else none
def qeV (s2:Int):OA:=some (dc s2)
def qDp (_n:Nat) (c0:UInt8):OA :=
 bif (decide (c0 < (128:UInt8))) then
 qeV (1:Int)
 else
 bif (decide (c0 < (194:UInt8))) then
 qeV (0:Int)
 else
 bif (decide ((244:UInt8) < c0)) then
 qeV (0:Int)
 else
 bif (decide (c0 < (224:UInt8))) then
 qeV (2:Int)
 else
 bif (decide (c0 < (240:UInt8))) then
 qeV (3:Int)
 else
 qeV (4:Int)
def qDq (s2:Bool):OA:=some (dg s2)
def qDr (_n:Nat) (c0:UInt8):OA :=
 qDq ((c0 &&& ~~~ (63:UInt8))==(128:UInt8))
def qct (s4:Bool):OA:=some (dg s4)
def qDs (_n:Nat) (first0:UInt8) (c1:UInt8):OA :=
 bif (first0==(224:UInt8)) then
 bif (decide ((160:UInt8)≤c1)) then
 qct (z159 c1)
 else
 qct false
 else
 bif (first0==(237:UInt8)) then
 bif (decide (c1 < (160:UInt8))) then
 qct (z159 c1)
 else
 qct false
 else
 bif (first0==(240:UInt8)) then
 bif (decide ((144:UInt8)≤c1)) then
 qct (z159 c1)
 else
 qct false
 else
 bif (first0==(244:UInt8)) then
 bif (decide (c1 < (144:UInt8))) then
 qct (z159 c1)
 else
 qct false
 else
 qct (z159 c1)
def qaU (s2:Int):OA:=some (dc s2)
def qci (ret:Int→OA) (k0:LU→Int→OA) (next:LU→Int→OA) (_n:Nat) (s0:LU) (n3:Int):OA :=
 bif ((decide (0≤(0:Int)))&&(decide ((0:Int) < s0.length))) then
 bif (decide (n3 < (z132 (s0.getD (0:Int).toNat (0:UInt8))))) then
 bif (decide (n3 < (s0.length:Int))) then
 bif ((decide (0≤n3))&&(decide (n3 < s0.length))) then
 bif (!(z159 (s0.getD n3.toNat (0:UInt8)))) then
 ret n3
 else
 bif (n3==(1:Int)) then
 bif ((decide (0≤(0:Int)))&&(decide ((0:Int) < s0.length))) then
 bif ((decide (0≤(1:Int)))&&(decide ((1:Int) < s0.length))) then
 bif (!(z160 (s0.getD (0:Int).toNat (0:UInt8)) (s0.getD (1:Int).toNat (0:UInt8)))) then
 ret n3
 else
 next s0 (IntKind.wrap .i64 (n3+1))
 else none
 else none
 else
 next s0 (IntKind.wrap .i64 (n3+1))
 else none
 else
 k0 s0 n3
 else
 k0 s0 n3
 else none
def qhC (ret:Int→OA) (k0:LU→Int→OA):Nat→LU→Int→OA
 | 0=>fun _ _=>none
 | n+1=>qci ret k0 (qhC ret k0 n) n
def qao (_n:Nat) (s0:LU) (n3:Int):OA :=
 bif ((decide (0≤(0:Int)))&&(decide ((0:Int) < s0.length))) then
 qaU (bif (decide ((z132 (s0.getD (0:Int).toNat (0:UInt8))) < n3)) then (z132 (s0.getD (0:Int).toNat (0:UInt8))) else n3)
 else none
def qvG (n:Nat) (s0:LU):OA :=
 qhC qaU (qao n) n s0 (1:Int)
def qjX (s2:UInt8):OA:=some (dm s2)
def qDt (_n:Nat) (n0:Int):OA :=
 bif (n0==(2:Int)) then
 qjX (192:UInt8)
 else
 bif (n0==(3:Int)) then
 qjX (224:UInt8)
 else
 bif (n0==(4:Int)) then
 qjX (240:UInt8)
 else
 qjX (0:UInt8)
def qcZ (s2:Int) (s3:Int) (s4:Int):OA:=some (.tup [(di s2 none),(dc s3),(dc s4)])
def qcE (k1:Int→Int→OA) (next:Int→Int→LU→Int→Int→OA) (_n:Nat) (n5:Int) (c6:Int) (s48:LU) (s49:Int) (s50:Int):OA :=
 bif (decide (s50 < s49)) then
 bif ((decide (0≤s50))&&(decide (s50 < s48.length))) then
 next n5 (bits .or .i32 (IntKind.wrap .i32 (c6*2 ^ (min (6:Int).toNat (IntKind.bits .i32)))) (IntKind.wrap .i32 ((UInt8.toNat ((s48.getD s50.toNat (0:UInt8)) &&& (63:UInt8)):Nat):Int))) s48 s49 (IntKind.wrap .i64 (s50+1))
 else none
 else
 k1 n5 c6
def qdI (k1:Int→Int→OA):Nat→Int→Int→LU→Int→Int→OA
 | 0=>fun _ _ _ _ _=>none
 | n+1=>qcE k1 (qdI k1 n) n
def qcF (_n:Nat) (n5:Int) (c6:Int):OA :=
 qcZ c6 n5 (0:Int)
def qbS (s0:LU):=((decide (0≤(0:Int)))&&(decide ((0:Int) < s0.length)))
def qcG (s0:LU):=(List.drop (1:Int).toNat (List.take (z131 s0).toNat s0))
def qdJ (s0:LU):=(decide ((z131 s0) < (z132 (s0.getD (0:Int).toNat (0:UInt8)))))
def qfS (s0:LU):=(((decide (0≤(1:Int)))&&(decide ((1:Int)≤(z131 s0))))&&(decide ((z131 s0)≤(s0.length:Int))))
def qfT (s0:LU):=(IntKind.wrap .i32 ((UInt8.toNat ((s0.getD (0:Int).toNat (0:UInt8)) &&& ~~~ (z133 (z131 s0))):Nat):Int))
def qvH (n:Nat) (s0:LU):OA :=
 bif ((s0.length:Int)==(0:Int)) then qcZ (0:Int) (0:Int) (4:Int) else bif ((qlw s0)&&true) then bif ((z131 s0)==(0:Int)) then qcZ (0:Int) (1:Int) (3:Int) else bif (qbS s0) then bif (qdJ s0) then bif ((z131 s0)==(s0.length:Int)) then qcZ (0:Int) (z131 s0) (4:Int) else bif (qbS s0) then bif (qdJ s0) then qcZ (0:Int) (z131 s0) (3:Int) else bif (qbS s0) then bif (qfS s0) then qdI (qcF n) n (z131 s0) (qfT s0) (qcG s0) ((qcG s0).length:Int) (0:Int) else none else none else none else bif (qbS s0) then bif (qdJ s0) then qcZ (0:Int) (z131 s0) (3:Int) else bif (qbS s0) then bif (qfS s0) then qdI (qcF n) n (z131 s0) (qfT s0) (qcG s0) ((qcG s0).length:Int) (0:Int) else none else none else none else none else none
def qbT (s24:LI):OA:=some (.tup [(.tup []),.bad,(.pbox (.osl 21 (.int .i32)) s24 none)])
def qei (k0:LI→OA) (next:LU→LI→OA) (_n:Nat) (s0:LU) (s24:LI):OA :=
 bif (decide ((0:Int) < (s0.length:Int))) then
 bif ((qui s0)&&true) then
 bif (qFN ((z102 s0).1) ((z102 s0).2.2) s24) then
 bif (((decide (0≤((z102 s0).2.1)))&&(decide (((z102 s0).2.1)≤(s0.length:Int))))&&(decide ((s0.length:Int)≤(s0.length:Int)))) then
 next (List.drop ((z102 s0).2.1).toNat (List.take (s0.length:Int).toNat s0)) (z62 ((z102 s0).1) ((z102 s0).2.2) s24)
 else none
 else none
 else none
 else
 k0 s24
def qcj (k0:LI→OA):Nat→LU→LI→OA
 | 0=>fun _ _=>none
 | n+1=>qei k0 (qcj k0 n) n
def qbx (_n:Nat) (s24:LI):OA :=
 qbT s24
def qom (n:Nat) (s0:LU) (f1:LI):OA :=
 qcj (qbx n) n s0 f1
def qKq (s2:LI):OA:=some (.dat (.sl (.int .i32)) s2 none)
def qME (_n:Nat) (s0:LU):OA :=
 bif (qdV s0 ([]:LI)) then
 qKq (qLK s0 ([]:LI))
 else none
def qsX (s2:LI):OA:=some (.dat (.sl (.int .i32)) s2 (some (2,21)))
def qej (k0:LI→OA) (next:LI→LU→Int→Int→OA) (_n:Nat) (t3:LI) (s9:LU) (s10:Int) (s11:Int):OA :=
 bif (decide (s11 < s10)) then
 bif ((decide (0≤s11))&&(decide (s11 < s9.length))) then
 bif ((decide (0≤s11))&&(decide (s11 < t3.length))) then
 next (List.set t3 s11.toNat (IntKind.wrap .i32 ((UInt8.toNat (s9.getD s11.toNat (0:UInt8)):Nat):Int))) s9 s10 (IntKind.wrap .i64 (s11+1))
 else none
 else none
 else
 k0 t3
def qjY (k0:LI→OA):Nat→LI→LU→Int→Int→OA
 | 0=>fun _ _ _ _=>none
 | n+1=>qej k0 (qjY k0 n) n
def qfU (_n:Nat) (t3:LI):OA :=
 qsX t3
def qvI (n:Nat) (s0:LU):OA :=
 bif (((decide (0≤(s0.length:Int)))&&(decide ((s0.length:Int)≤(s0.length:Int))))&&(decide ((s0.length:Int)≤(room:Int)))) then
 qjY (qfU n) n (List.replicate (s0.length:Int).toNat 0) s0 (s0.length:Int) (0:Int)
 else none
def qsY (s2:Int):OA:=some (di s2 none)
def qDu (_n:Nat) (c0:Int):OA :=
 bif (decide ((128:Int)≤c0)) then
 qsY (65533:Int)
 else
 qsY c0
def qsZ (s2:LI):OA:=some (.dat (.sl (.int .i32)) s2 (some (2,21)))
def qek (k0:LI→OA) (next:LI→Int→Int→OA) (_n:Nat) (t3:LI) (s10:Int) (s11:Int):OA :=
 bif (decide (s11 < s10)) then
 bif ((decide (0≤s11))&&(decide (s11 < t3.length))) then
 bif ((decide (0≤s11))&&(decide (s11 < t3.length))) then
 next (List.set t3 s11.toNat (z134 (t3.getD s11.toNat 0))) s10 (IntKind.wrap .i64 (s11+1))
 else none
 else none
 else
 k0 t3
def qjZ (k0:LI→OA):Nat→LI→Int→Int→OA
 | 0=>fun _ _ _=>none
 | n+1=>qek k0 (qjZ k0 n) n
def qfV (_n:Nat) (t3:LI):OA :=
 qsZ t3
def qvJ (n:Nat) (s0:LU):OA :=
 bif ((qlx s0)&&true) then
 qjZ (qfV n) n (z106 s0) ((z106 s0).length:Int) (0:Int)
 else none
def qDv (s0:List (UInt8×(Int×Unit))):OA:=some (.dat (.arr 8 (.pair .byte (.pair (.int .i32) .unit))) s0 none)
def qKr (_n:Nat):OA :=
 qDv ([((164:UInt8),((8364:Int),())),((166:UInt8),((352:Int),())),((168:UInt8),((353:Int),())),((180:UInt8),((381:Int),())),((184:UInt8),((382:Int),())),((188:UInt8),((338:Int),())),((189:UInt8),((339:Int),())),((190:UInt8),((376:Int),()))]:List (UInt8×(Int×Unit)))
def qaV (s2:Int):OA:=some (di s2 none)
def qvK (ret:Int→OA) (k0:UInt8→OA) (next:UInt8→List (UInt8×(Int×Unit))→Int→OA) (_n:Nat) (x0:UInt8) (s5:List (UInt8×(Int×Unit))) (s6:Int):OA :=
 bif (decide (s6 < (8:Int))) then
 bif ((decide (0≤s6))&&(decide (s6 < (8:Nat)))) then
 bif ((s5.getD s6.toNat ((0:UInt8),((0:Int),()))).1==x0) then
 ret (s5.getD s6.toNat ((0:UInt8),((0:Int),()))).2.1
 else
 next x0 s5 (IntKind.wrap .i64 (s6+1))
 else none
 else
 k0 x0
def qlK (ret:Int→OA) (k0:UInt8→OA):Nat→UInt8→List (UInt8×(Int×Unit))→Int→OA
 | 0=>fun _ _ _=>none
 | n+1=>qvK ret k0 (qlK ret k0 n) n
def qiv (_n:Nat) (x0:UInt8):OA :=
 qaV (IntKind.wrap .i32 ((UInt8.toNat x0:Nat):Int))
def qvL (n:Nat) (x0:UInt8):OA :=
 qlK qaV (qiv n) n x0 z161 (0:Int)
def qDw (s2:LI):OA:=some (.dat (.sl (.int .i32)) s2 (some (2,21)))
def qel (k0:LI→OA) (next:LI→LU→Int→Int→OA) (_n:Nat) (t3:LI) (s6:LU) (s7:Int) (s8:Int):OA :=
 bif (decide (s8 < s7)) then
 bif ((decide (0≤s8))&&(decide (s8 < s6.length))) then
 bif (decide (t3.length+List.length ([(z135 (s6.getD s8.toNat (0:UInt8)))]:LI)≤room)) then
 next (t3++([(z135 (s6.getD s8.toNat (0:UInt8)))]:LI)) s6 s7 (IntKind.wrap .i64 (s8+1))
 else none
 else none
 else
 k0 t3
def qka (k0:LI→OA):Nat→LI→LU→Int→Int→OA
 | 0=>fun _ _ _ _=>none
 | n+1=>qel k0 (qka k0 n) n
def qem (_n:Nat) (t3:LI):OA :=
 qDw t3
def qvM (n:Nat) (s0:LU):OA :=
 qka (qem n) n ([]:LI) s0 (s0.length:Int) (0:Int)
def qDx (s0:LI):OA:=some (.dat (.sl (.int .i32)) s0 none)
def qKs (_n:Nat):OA :=
 qDx (List.drop 0 (List.take 32 ([(8364:Int),(0:Int),(8218:Int),(402:Int),(8222:Int),(8230:Int),(8224:Int),(8225:Int),(710:Int),(8240:Int),(352:Int),(8249:Int),(338:Int),(0:Int),(381:Int),(0:Int),(0:Int),(8216:Int),(8217:Int),(8220:Int),(8221:Int),(8226:Int),(8211:Int),(8212:Int),(732:Int),(8482:Int),(353:Int),(8250:Int),(339:Int),(0:Int),(382:Int),(376:Int)]:LI)))
def qkb (s2:Int):OA:=some (di s2 none)
def qdK (x0:UInt8):=((UInt8.toNat (x0 - (128:UInt8)):Nat):Int)
def qDy (_n:Nat) (x0:UInt8):OA :=
 bif (decide (x0 < (128:UInt8))) then qkb (IntKind.wrap .i32 ((UInt8.toNat x0:Nat):Int)) else bif (decide ((160:UInt8)≤x0)) then qkb (IntKind.wrap .i32 ((UInt8.toNat x0:Nat):Int)) else bif ((decide (0≤(qdK x0)))&&(decide ((qdK x0) < z162.length))) then bif ((z162.getD (qdK x0).toNat 0) != (0:Int)) then qkb (z162.getD (qdK x0).toNat 0) else qkb (65533:Int) else none
def qDz (s2:LI):OA:=some (.dat (.sl (.int .i32)) s2 (some (2,21)))
def qen (k0:LI→OA) (next:LI→LU→Int→Int→OA) (_n:Nat) (t3:LI) (s9:LU) (s10:Int) (s11:Int):OA :=
 bif (decide (s11 < s10)) then
 bif ((decide (0≤s11))&&(decide (s11 < s9.length))) then
 bif (decide (t3.length+List.length ([(z136 (s9.getD s11.toNat (0:UInt8)))]:LI)≤room)) then
 next (t3++([(z136 (s9.getD s11.toNat (0:UInt8)))]:LI)) s9 s10 (IntKind.wrap .i64 (s11+1))
 else none
 else none
 else
 k0 t3
def qkc (k0:LI→OA):Nat→LI→LU→Int→Int→OA
 | 0=>fun _ _ _ _=>none
 | n+1=>qen k0 (qkc k0 n) n
def qeo (_n:Nat) (t3:LI):OA :=
 qDz t3
def qvN (n:Nat) (s0:LU):OA :=
 bif (((decide (0≤(0:Int)))&&(decide (0≤(s0.length:Int))))&&(decide ((s0.length:Int)≤(room:Int)))) then
 qkc (qeo n) n (List.replicate (0:Int).toNat 0) s0 (s0.length:Int) (0:Int)
 else none
def qlL (s4:LI):OA:=some (.dat (.sl (.int .i32)) s4 none)
def qMF (_n:Nat) (charset0:Int) (s1:LU):OA :=
 bif (charset0==(1:Int)) then
 bif ((qul s1)&&true) then
 qlL (z103 s1)
 else none
 else
 bif (charset0==(3:Int)) then
 bif ((quj s1)&&true) then
 qlL (z104 s1)
 else none
 else
 bif (charset0==(4:Int)) then
 bif ((quk s1)&&true) then
 qlL (z105 s1)
 else none
 else
 bif (charset0==(5:Int)) then
 bif ((qhT s1)&&true) then
 qlL (z38 s1)
 else none
 else
 bif ((qlx s1)&&true) then
 qlL (z106 s1)
 else none
def qbU (V:Sigma Inv) (xv:Den V.1) (s29:LU):OA:=some (.tup [(.tup []),(.abs V.1 V.2 xv),(.pbox (.leaf (.sl .byte)) s29 none)])
def qx (s7:LU) (s9:Int):=(s7.getD s9.toNat (0:UInt8))
def qep (V:Sigma Inv) (ret:Den V.1→LU→OA) (k0:Den V.1→LU→OA) (next:LU→Int→Int→Den V.1→LU→OA) (_n:Nat) (s7:LU) (s8:Int) (s9:Int) (xv:Den V.1) (s29:LU):OA :=
 bif (decide (s9 < s8)) then bif ((decide (0≤s9))&&(decide (s9 < s7.length))) then bif ((qx s7 s9)==(61:UInt8)) then ret xv s29 else bif (!((z121 (qx s7 s9)).2)) then bif (V.2.spec xv [⟨.byte,(qx s7 s9)⟩,⟨(.int .i64),(-1:Int)⟩]).1 then bif (!(V.2.spec xv [⟨.byte,(qx s7 s9)⟩,⟨(.int .i64),(-1:Int)⟩]).2.1) then ret (V.2.spec xv [⟨.byte,(qx s7 s9)⟩,⟨(.int .i64),(-1:Int)⟩]).2.2 s29 else next s7 s8 (IntKind.wrap .i64 (s9+1)) (V.2.spec xv [⟨.byte,(qx s7 s9)⟩,⟨(.int .i64),(-1:Int)⟩]).2.2 s29 else none else bif (V.2.spec xv [⟨.byte,(qx s7 s9)⟩,⟨(.int .i64),((z121 (qx s7 s9)).1)⟩]).1 then bif (!(V.2.spec xv [⟨.byte,(qx s7 s9)⟩,⟨(.int .i64),((z121 (qx s7 s9)).1)⟩]).2.1) then ret (V.2.spec xv [⟨.byte,(qx s7 s9)⟩,⟨(.int .i64),((z121 (qx s7 s9)).1)⟩]).2.2 s29 else next s7 s8 (IntKind.wrap .i64 (s9+1)) (V.2.spec xv [⟨.byte,(qx s7 s9)⟩,⟨(.int .i64),((z121 (qx s7 s9)).1)⟩]).2.2 s29 else none else none else k0 xv s29
def qfW (V:Sigma Inv) (ret:Den V.1→LU→OA) (k0:Den V.1→LU→OA):Nat→LU→Int→Int→Den V.1→LU→OA
 | 0=>fun _ _ _ _ _=>none
 | n+1=>(qep V) ret k0 ((qfW V) ret k0 n) n
def qda (V:Sigma Inv) (_n:Nat) (xv:Den V.1) (s29:LU):OA :=
 (qbU V) xv s29
def qvO (V:Sigma Inv) (n:Nat) (x0:Den V.1) (x1:LU):OA :=
 (qfW V) (qbU V) ((qda V) n) n x1 (x1.length:Int) (0:Int) x0 x1
def qSM (_n:Nat) (s0:LU):OA :=
 some (.abs (qeR [.leaf (.sl .byte)]) (clInv 173 [.leaf (.sl .byte)]) (s0,()))
def qta (s2:LU) (s3:Int):OA:=some (.tup [(da s2),(dc s3)])
def qhD (n:Nat) (x:Bool×LU×Int×Int×Unit) (y0:UInt8) (y1:Int):Bool×Bool×(Bool×LU×Int×Int×Unit) :=
 bif x.1 then (false,false,x) else yfin (.pair (.sl .byte) (.pair (.int .i64) (.pair (.int .i64) .unit))) x (
 bif (decide (y1 < (0:Int))) then
 some (.dat (.pair .bool (.pair (.sl .byte) (.pair (.int .i64) (.pair (.int .i64) .unit)))) (false,(x.2.1,(x.2.2.1,(x.2.2.2.1,())))) none)
 else
 bif (decide ((8:Int)≤(IntKind.wrap .i64 (x.2.2.2.1+(6:Int))))) then
 bif (decide (0≤(IntKind.wrap .i64 ((IntKind.wrap .i64 (x.2.2.2.1+(6:Int))) - (8:Int))))) then
 bif (decide (List.length x.2.1+List.length ([(UInt8.ofNat (IntKind.wrap .u8 (Int.fdiv (bits .or .i64 (IntKind.wrap .i64 (x.2.2.1*2 ^ (min (6:Int).toNat (IntKind.bits .i64)))) y1) (2 ^ (min (IntKind.wrap .i64 ((IntKind.wrap .i64 (x.2.2.2.1+(6:Int))) - (8:Int))).toNat (IntKind.bits .i64))))).toNat)]:LU)≤room)) then
 bif (decide (0≤(IntKind.wrap .i64 ((IntKind.wrap .i64 (x.2.2.2.1+(6:Int))) - (8:Int))))) then
 some (.dat (.pair .bool (.pair (.sl .byte) (.pair (.int .i64) (.pair (.int .i64) .unit)))) (false,((x.2.1++([(UInt8.ofNat (IntKind.wrap .u8 (Int.fdiv (bits .or .i64 (IntKind.wrap .i64 (x.2.2.1*2 ^ (min (6:Int).toNat (IntKind.bits .i64)))) y1) (2 ^ (min (IntKind.wrap .i64 ((IntKind.wrap .i64 (x.2.2.2.1+(6:Int))) - (8:Int))).toNat (IntKind.bits .i64))))).toNat)]:LU)),((bits .and .i64 (bits .or .i64 (IntKind.wrap .i64 (x.2.2.1*2 ^ (min (6:Int).toNat (IntKind.bits .i64)))) y1) (IntKind.wrap .i64 ((IntKind.wrap .i64 ((1:Int)*2 ^ (min (IntKind.wrap .i64 ((IntKind.wrap .i64 (x.2.2.2.1+(6:Int))) - (8:Int))).toNat (IntKind.bits .i64)))) - (1:Int)))),((IntKind.wrap .i64 ((IntKind.wrap .i64 (x.2.2.2.1+(6:Int))) - (8:Int))),())))) none)
 else none
 else none
 else none
 else
 some (.dat (.pair .bool (.pair (.sl .byte) (.pair (.int .i64) (.pair (.int .i64) .unit)))) (false,(x.2.1,((bits .or .i64 (IntKind.wrap .i64 (x.2.2.1*2 ^ (min (6:Int).toNat (IntKind.bits .i64)))) y1),((IntKind.wrap .i64 (x.2.2.2.1+(6:Int))),())))) none))
def qdL (n:Nat) (s0:LU):=(z173 (qhD n) (false,(([]:LU),((0:Int),((0:Int),())))) s0)
def qfX (n:Nat) (s0:LU):=( qta (qdL n s0).2.1.2.1 (qdL n s0).2.1.2.2.2.1)
def qDA (n:Nat) (s0:LU):OA :=
 bif (qdL n s0).1 then bif (qdL n s0).2.1.1 then qta ([]:LU) (0:Int) else both ( both (qfX n s0) (qfX n s0)) (qfX n s0) else none
def qDB (s2:LU):OA:=some (da s2)
def qDC (_n:Nat) (s0:LU):OA :=
 bif ((qun s0)&&true) then
 qDB ((z137 s0).1)
 else none
def qDD (s2:LU):OA:=some (da s2)
def qDE (_n:Nat) (s0:LU):OA :=
 bif ((qly s0)&&true) then
 qDD ((z124 s0).1)
 else none
def qDF (s2:LU):OA:=some (da s2)
def qMG (_n:Nat) (w0:LU×(Int×(LU×Unit))):OA :=
 bif (w0.2.1==(1:Int)) then
 bif ((qup w0.2.2.1)&&true) then
 qDF (z107 w0.2.2.1)
 else none
 else
 bif ((quq w0.2.2.1)&&true) then
 qDF (z108 w0.2.2.1)
 else none
def qDG (s2:LI) (s3:Bool):OA:=some (.tup [(.dat (.sl (.int .i32)) s2 none),(dg s3)])
def qiw (s0:LU):=( bif ((qxg ((z51 s0).1))&&true) then bif ((qFO ((z51 s0).1))&&true) then bif ((qFw (z52 ((z51 s0).1)) (z64 ((z51 s0).1)))&&true) then qDG (z63 (z52 ((z51 s0).1)) (z64 ((z51 s0).1))) true else none else none else none)
def qMH (_n:Nat) (s0:LU):OA :=
 bif ((qlj s0)&&true) then bif (((z51 s0).2) != (0:Int)) then qDG ([]:LI) false else both ( both (qiw s0) (qiw s0)) (qiw s0) else none
def qkd (s14:Int):OA:=some (.tup [(.tup []),.bad,.bad,(.pbox (.leaf (.int .i64)) s14 none)])
def qon (_n:Nat) (p0:Int×(LU×Unit)) (_x1:LI) (x2:Int):OA :=
 bif (p0.1==(3:Int)) then
 bif (qsL p0.2.1 x2) then
 qkd (z32 p0.2.1 x2)
 else none
 else
 qkd x2
def qke (s14:LI):OA:=some (.tup [(.tup []),.bad,.bad,(.pbox (.osl 3 (.int .i64)) s14 none)])
def qoo (_n:Nat) (p0:Int×(LU×Unit)) (_x1:LI) (x2:LI):OA :=
 bif (p0.1==(3:Int)) then
 bif (qsM p0.2.1 x2) then
 qke (z30 p0.2.1 x2)
 else none
 else
 qke x2
def qkf (s36:LI):OA:=some (.tup [(.tup []),.bad,(.pbox (.osl 21 (.int .i32)) s36 none)])
def qt (s9:List (Int×(LU×Unit))) (s11:Int):=(s9.getD s11.toNat ((0:Int),(([]:LU),())))
def qaH (next:List (Int×(LU×Unit))→Int→Int→LI→OA) (s9:List (Int×(LU×Unit))) (s10:Int) (s11:Int) (s36:LI):=( bif ((qhT (qt s9 s11).2.1)&&true) then bif (qCw (qt s9 s11) (z38 (qt s9 s11).2.1) s36) then next s9 s10 (IntKind.wrap .i64 (s11+1)) (z21 (qt s9 s11) (z38 (qt s9 s11).2.1) s36) else none else none)
def qby (k0:LI→OA) (next:List (Int×(LU×Unit))→Int→Int→LI→OA) (_n:Nat) (s9:List (Int×(LU×Unit))) (s10:Int) (s11:Int) (s36:LI):OA :=
 bif (decide (s11 < s10)) then bif ((decide (0≤s11))&&(decide (s11 < s9.length))) then bif ((qt s9 s11).1 != (3:Int)) then both (qaH next s9 s10 s11 s36) ( both (qaH next s9 s10 s11 s36) (qaH next s9 s10 s11 s36)) else bif ((qkZ (qt s9 s11).2.1)&&true) then bif (qCw (qt s9 s11) ((z39 (qt s9 s11).2.1).1) s36) then next s9 s10 (IntKind.wrap .i64 (s11+1)) (z21 (qt s9 s11) ((z39 (qt s9 s11).2.1).1) s36) else none else none else none else k0 s36
def qdb (k0:LI→OA):Nat→List (Int×(LU×Unit))→Int→Int→LI→OA
 | 0=>fun _ _ _ _=>none
 | n+1=>qby k0 (qdb k0 n) n
def qcH (_n:Nat) (s36:LI):OA :=
 qkf s36
def qix (n:Nat) (s0:LU) (f1:LI):OA :=
 bif ((qll s0)&&true) then
 qdb (qcH n) n (z37 s0) ((z37 s0).length:Int) (0:Int) f1
 else none
def qkg (s36:List LI):OA:=some (.tup [(.tup []),.bad,(.pbox (.osl 25 (.sl (.int .i32))) s36 none)])
def qu (s9:List (Int×(LU×Unit))) (s11:Int):=(s9.getD s11.toNat ((0:Int),(([]:LU),())))
def qaI (next:List (Int×(LU×Unit))→Int→Int→List LI→OA) (s9:List (Int×(LU×Unit))) (s10:Int) (s11:Int) (s36:List LI):=( bif ((qhT (qu s9 s11).2.1)&&true) then bif (qCx (qu s9 s11) (z38 (qu s9 s11).2.1) s36) then next s9 s10 (IntKind.wrap .i64 (s11+1)) (z28 (qu s9 s11) (z38 (qu s9 s11).2.1) s36) else none else none)
def qbz (k0:List LI→OA) (next:List (Int×(LU×Unit))→Int→Int→List LI→OA) (_n:Nat) (s9:List (Int×(LU×Unit))) (s10:Int) (s11:Int) (s36:List LI):OA :=
 bif (decide (s11 < s10)) then bif ((decide (0≤s11))&&(decide (s11 < s9.length))) then bif ((qu s9 s11).1 != (3:Int)) then both (qaI next s9 s10 s11 s36) ( both (qaI next s9 s10 s11 s36) (qaI next s9 s10 s11 s36)) else bif ((qkZ (qu s9 s11).2.1)&&true) then bif (qCx (qu s9 s11) ((z39 (qu s9 s11).2.1).1) s36) then next s9 s10 (IntKind.wrap .i64 (s11+1)) (z28 (qu s9 s11) ((z39 (qu s9 s11).2.1).1) s36) else none else none else none else k0 s36
def qdc (k0:List LI→OA):Nat→List (Int×(LU×Unit))→Int→Int→List LI→OA
 | 0=>fun _ _ _ _=>none
 | n+1=>qbz k0 (qdc k0 n) n
def qcI (_n:Nat) (s36:List LI):OA :=
 qkg s36
def qiy (n:Nat) (s0:LU) (f1:List LI):OA :=
 bif ((qll s0)&&true) then
 qdc (qcI n) n (z37 s0) ((z37 s0).length:Int) (0:Int) f1
 else none
def qkh (s36:Int):OA:=some (.tup [(.tup []),.bad,(.pbox (.leaf (.int .i64)) s36 none)])
def qv (s9:List (Int×(LU×Unit))) (s11:Int):=(s9.getD s11.toNat ((0:Int),(([]:LU),())))
def qaJ (next:List (Int×(LU×Unit))→Int→Int→Int→OA) (s9:List (Int×(LU×Unit))) (s10:Int) (s11:Int) (s36:Int):=( bif ((qhT (qv s9 s11).2.1)&&true) then bif (qcS (qv s9 s11) (z38 (qv s9 s11).2.1) s36) then next s9 s10 (IntKind.wrap .i64 (s11+1)) (qlb (qv s9 s11) (z38 (qv s9 s11).2.1) s36) else none else none)
def qbA (k0:Int→OA) (next:List (Int×(LU×Unit))→Int→Int→Int→OA) (_n:Nat) (s9:List (Int×(LU×Unit))) (s10:Int) (s11:Int) (s36:Int):OA :=
 bif (decide (s11 < s10)) then bif ((decide (0≤s11))&&(decide (s11 < s9.length))) then bif ((qv s9 s11).1 != (3:Int)) then both (qaJ next s9 s10 s11 s36) ( both (qaJ next s9 s10 s11 s36) (qaJ next s9 s10 s11 s36)) else bif ((qkZ (qv s9 s11).2.1)&&true) then bif (qcS (qv s9 s11) ((z39 (qv s9 s11).2.1).1) s36) then next s9 s10 (IntKind.wrap .i64 (s11+1)) (qlb (qv s9 s11) ((z39 (qv s9 s11).2.1).1) s36) else none else none else none else k0 s36
def qdd (k0:Int→OA):Nat→List (Int×(LU×Unit))→Int→Int→Int→OA
 | 0=>fun _ _ _ _=>none
 | n+1=>qbA k0 (qdd k0 n) n
def qcJ (_n:Nat) (s36:Int):OA :=
 qkh s36
def qiz (n:Nat) (s0:LU) (f1:Int):OA :=
 bif ((qll s0)&&true) then
 qdd (qcJ n) n (z37 s0) ((z37 s0).length:Int) (0:Int) f1
 else none
def qki (s36:LI):OA:=some (.tup [(.tup []),.bad,(.pbox (.osl 3 (.int .i64)) s36 none)])
def qw (s9:List (Int×(LU×Unit))) (s11:Int):=(s9.getD s11.toNat ((0:Int),(([]:LU),())))
def qaK (next:List (Int×(LU×Unit))→Int→Int→LI→OA) (s9:List (Int×(LU×Unit))) (s10:Int) (s11:Int) (s36:LI):=( bif ((qhT (qw s9 s11).2.1)&&true) then bif (qcT (qw s9 s11) (z38 (qw s9 s11).2.1) s36) then next s9 s10 (IntKind.wrap .i64 (s11+1)) (qlc (qw s9 s11) (z38 (qw s9 s11).2.1) s36) else none else none)
def qbB (k0:LI→OA) (next:List (Int×(LU×Unit))→Int→Int→LI→OA) (_n:Nat) (s9:List (Int×(LU×Unit))) (s10:Int) (s11:Int) (s36:LI):OA :=
 bif (decide (s11 < s10)) then bif ((decide (0≤s11))&&(decide (s11 < s9.length))) then bif ((qw s9 s11).1 != (3:Int)) then both (qaK next s9 s10 s11 s36) ( both (qaK next s9 s10 s11 s36) (qaK next s9 s10 s11 s36)) else bif ((qkZ (qw s9 s11).2.1)&&true) then bif (qcT (qw s9 s11) ((z39 (qw s9 s11).2.1).1) s36) then next s9 s10 (IntKind.wrap .i64 (s11+1)) (qlc (qw s9 s11) ((z39 (qw s9 s11).2.1).1) s36) else none else none else none else k0 s36
def qde (k0:LI→OA):Nat→List (Int×(LU×Unit))→Int→Int→LI→OA
 | 0=>fun _ _ _ _=>none
 | n+1=>qbB k0 (qde k0 n) n
def qcK (_n:Nat) (s36:LI):OA :=
 qki s36
def qiA (n:Nat) (s0:LU) (f1:LI):OA :=
 bif ((qll s0)&&true) then
 qde (qcK n) n (z37 s0) ((z37 s0).length:Int) (0:Int) f1
 else none
def qDH (s2:LI):OA:=some (.dat (.sl (.int .i32)) s2 none)
def qMI (_n:Nat) (s0:LU):OA :=
 bif (qdW s0 ([]:LI)) then
 qDH (qyo s0 ([]:LI))
 else none
def qDI (before4:LU) (after5:LU) (found6:Bool):OA:=some (.tup [(da before4),(da after5),(dg found6)])
def qMJ (_n:Nat) (s0:LU) (sep1:LU):OA :=
 bif ((qrf s0 sep1)&&true) then
 bif (decide (0≤(z57 s0 sep1))) then
 bif (((decide (0≤((0:Nat):Int)))&&(decide (((0:Nat):Int)≤(z57 s0 sep1))))&&(decide ((z57 s0 sep1)≤(s0.length:Int)))) then
 bif (((decide (0≤(IntKind.wrap .i64 ((z57 s0 sep1)+(sep1.length:Int)))))&&(decide ((IntKind.wrap .i64 ((z57 s0 sep1)+(sep1.length:Int)))≤(s0.length:Int))))&&(decide ((s0.length:Int)≤(s0.length:Int)))) then
 qDI (List.drop ((0:Nat):Int).toNat (List.take (z57 s0 sep1).toNat s0)) (List.drop (IntKind.wrap .i64 ((z57 s0 sep1)+(sep1.length:Int))).toNat (List.take (s0.length:Int).toNat s0)) true
 else none
 else none
 else
 qDI s0 ([]:LU) false
 else none
def qvP (s2:LU):OA:=some (db s2 (some (2,5)))
def qH (s0:LU):=(z35 s0 ([(13:UInt8),(10:UInt8)]:LU))
def qop (ret:LU→OA) (next:LU→LU→OA) (_n:Nat) (s0:LU) (out3:LU):OA :=
 bif ((qyR s0 ([(13:UInt8),(10:UInt8)]:LU))&&true) then bif (decide (out3.length+List.length ((qH s0).1)≤room)) then bif (!((qH s0).2.2)) then ret (out3++((qH s0).1)) else bif ((((qH s0).2.1).length:Int)==(0:Int)) then bif (decide (List.length (out3++((qH s0).1))+List.length ([13,10]:LU)≤room)) then next ((qH s0).2.1) ((out3++((qH s0).1))++([13,10]:LU)) else none else bif ((decide (0≤(0:Int)))&&(decide ((0:Int) < ((qH s0).2.1).length))) then bif (!(z36 (((qH s0).2.1).getD (0:Int).toNat (0:UInt8)) (2:Int))) then bif (decide (List.length (out3++((qH s0).1))+List.length ([13,10]:LU)≤room)) then next ((qH s0).2.1) ((out3++((qH s0).1))++([13,10]:LU)) else none else next ((qH s0).2.1) (out3++((qH s0).1)) else none else none else none
def qoq (ret:LU→OA):Nat→LU→LU→OA
 | 0=>fun _ _=>none
 | n+1=>qop ret (qoq ret n) n
def qMK (n:Nat) (s0:LU):OA :=
 qoq qvP n s0 ([]:LU)
def qSN (s2:LI):OA:=some (.dat (.sl (.int .i32)) s2 none)
def z9_sh (_n:Nat) (s0:LU):OA :=
 bif ((qlm s0)&&true) then
 bif ((qHP (z19 s0))&&true) then
 qSN (z11 (z19 s0))
 else none
 else none
def qDJ (s2:List LI):OA:=some (.dat (.sl (.sl (.int .i32))) s2 none)
def qML (_n:Nat) (s0:LU):OA :=
 bif ((qlm s0)&&true) then
 bif (qdX (z19 s0) ([]:List LI)) then
 qDJ (qyp (z19 s0) ([]:List LI))
 else none
 else none
def qqw (s9:Int):OA:=some (.tup [(.tup []),.bad,(.pbox (.leaf (.int .i64)) s9 none)])
def qor (_n:Nat) (s0:LU) (f1:Int):OA :=
 bif ((qlm s0)&&true) then
 bif (qdY (z19 s0) f1) then
 qqw (qyq (z19 s0) f1)
 else none
 else none
def qqx (s9:LI):OA:=some (.tup [(.tup []),.bad,(.pbox (.osl 3 (.int .i64)) s9 none)])
def qos (_n:Nat) (s0:LU) (f1:LI):OA :=
 bif ((qlm s0)&&true) then
 bif (qdZ (z19 s0) f1) then
 qqx (qyr (z19 s0) f1)
 else none
 else none
def qDK (s2:LI):OA:=some (.dat (.sl (.int .i64)) s2 none)
def qMM (_n:Nat) (s0:LU):OA :=
 bif (qeb s0 ([]:LI)) then
 qDK (qCz s0 ([]:LI))
 else none
def qDL (s2:Int):OA:=some (dc s2)
def qMN (_n:Nat) (s0:LU):OA :=
 bif (qea s0 (0:Int)) then
 qDL (qCy s0 (0:Int))
 else none
def qDM (s0:Bool):OA:=some (dg s0)
def qcu:=([(97:UInt8),(32:UInt8),(61:UInt8),(63:UInt8),(117:UInt8),(116:UInt8),(102:UInt8),(45:UInt8),(56:UInt8),(63:UInt8),(81:UInt8),(63:UInt8),(98:UInt8),(63:UInt8),(61:UInt8),(13:UInt8),(10:UInt8),(32:UInt8),(61:UInt8),(63:UInt8),(117:UInt8),(116:UInt8),(102:UInt8),(45:UInt8),(56:UInt8),(63:UInt8),(81:UInt8),(63:UInt8),(99:UInt8),(63:UInt8),(61:UInt8)]:LU)
def z7_sh (_n:Nat):OA :=
 bif ((z9_ok (qcu))&&true) then bif ((z8_ok (z9 (qcu)) ([(97:Int),(32:Int),(98:Int),(99:Int)]:LI))&&true) then bif (z8 (z9 (qcu)) ([(97:Int),(32:Int),(98:Int),(99:Int)]:LI)) then bif ((qCt (qcu))&&true) then bif ((z17 (qcu))==(0:Int)) then bif ((qCu (qcu))&&true) then bif (((z16 (qcu)).length:Int)==(2:Int)) then bif ((qCv (qcu))&&true) then qDM (((z15 (qcu)).length:Int)==(4:Int)) else none else qDM false else none else qDM false else none else qDM false else none else none
def qkj (s4:Bool):OA:=some (dg s4)
def qMO (_n:Nat) (s0:LU) (i1:Int):OA :=
 bif (decide ((IntKind.wrap .i64 (i1+(2:Int))) < (s0.length:Int))) then
 bif ((decide (0≤i1))&&(decide (i1 < s0.length))) then
 bif ((s0.getD i1.toNat (0:UInt8))==(13:UInt8)) then
 bif ((decide (0≤(IntKind.wrap .i64 (i1+1))))&&(decide ((IntKind.wrap .i64 (i1+1)) < s0.length))) then
 bif ((s0.getD (IntKind.wrap .i64 (i1+1)).toNat (0:UInt8))==(10:UInt8)) then
 bif ((decide (0≤(IntKind.wrap .i64 (i1+(2:Int)))))&&(decide ((IntKind.wrap .i64 (i1+(2:Int))) < s0.length))) then
 bif ((s0.getD (IntKind.wrap .i64 (i1+(2:Int))).toNat (0:UInt8))==(32:UInt8)) then
 qkj true
 else
 bif ((decide (0≤(IntKind.wrap .i64 (i1+(2:Int)))))&&(decide ((IntKind.wrap .i64 (i1+(2:Int))) < s0.length))) then
 qkj ((s0.getD (IntKind.wrap .i64 (i1+(2:Int))).toNat (0:UInt8))==(9:UInt8))
 else none
 else none
 else
 qkj false
 else none
 else
 qkj false
 else none
 else
 qkj false
def qKt (s2:LU) (s3:Int):OA:=some (.tup [(da s2),(dc s3)])
def qgL (k0:LU→Int→OA) (next:LU→LU→Int→Int→OA) (_n:Nat) (s0:LU) (out4:LU) (n5:Int) (i6:Int):OA :=
 bif (decide (i6 < (s0.length:Int))) then
 bif ((qyS s0 i6)&&true) then
 bif (z22 s0 i6) then
 next s0 out4 (IntKind.wrap .i64 (n5+1)) (IntKind.wrap .i64 ((IntKind.wrap .i64 (i6+1))+1))
 else
 bif ((decide (0≤i6))&&(decide (i6 < s0.length))) then
 bif (decide (out4.length+List.length ([(s0.getD i6.toNat (0:UInt8))]:LU)≤room)) then
 next s0 (out4++([(s0.getD i6.toNat (0:UInt8))]:LU)) n5 (IntKind.wrap .i64 (i6+1))
 else none
 else none
 else none
 else
 k0 out4 n5
def qot (k0:LU→Int→OA):Nat→LU→LU→Int→Int→OA
 | 0=>fun _ _ _ _=>none
 | n+1=>qgL k0 (qot k0 n) n
def qgM (_n:Nat) (out4:LU) (n5:Int):OA :=
 qKt out4 n5
def qMP (n:Nat) (s0:LU):OA :=
 qot (qgM n) n s0 ([]:LU) (0:Int) (0:Int)
def qqy (s2:Bool):OA:=some (dg s2)
def qMQ (_n:Nat) (c0:UInt8):OA :=
 bif (c0==(32:UInt8)) then
 qqy true
 else
 bif (c0==(9:UInt8)) then
 qqy true
 else
 bif (c0==(13:UInt8)) then
 qqy true
 else
 qqy (c0==(10:UInt8))
def qKu (s2:List LU):OA:=some (.dat (.sl (.sl .byte)) s2 none)
def qaa (out3:List LU):=(IntKind.wrap .i64 ((out3.length:Int) - (1:Int)))
def qgN (k0:List LU→OA) (next:LU→List LU→Int→OA) (_n:Nat) (s0:LU) (out3:List LU) (i4:Int):OA :=
 bif (decide (i4 < (s0.length:Int))) then bif ((decide (0≤i4))&&(decide (i4 < s0.length))) then bif ((s0.getD i4.toNat (0:UInt8))==(63:UInt8)) then bif (decide (out3.length+List.length ([([]:LU)]:List LU)≤room)) then next s0 (out3++([([]:LU)]:List LU)) (IntKind.wrap .i64 (i4+1)) else none else bif ((decide (0≤(qaa out3)))&&(decide ((qaa out3) < out3.length))) then bif ((decide (0≤i4))&&(decide (i4 < s0.length))) then bif (decide (List.length (out3.getD (qaa out3).toNat ([]:LU))+List.length ([(s0.getD i4.toNat (0:UInt8))]:LU)≤room)) then bif ((decide (0≤(qaa out3)))&&(decide ((qaa out3) < out3.length))) then bif (((qaa out3).toNat==(qaa out3).toNat)&&true) then next s0 (List.set out3 (qaa out3).toNat ((out3.getD (qaa out3).toNat ([]:LU))++([(s0.getD i4.toNat (0:UInt8))]:LU))) (IntKind.wrap .i64 (i4+1)) else none else none else none else none else none else none else k0 out3
def qou (k0:List LU→OA):Nat→LU→List LU→Int→OA
 | 0=>fun _ _ _=>none
 | n+1=>qgN k0 (qou k0 n) n
def qkk (_n:Nat) (out3:List LU):OA :=
 qKu out3
def qHX (n:Nat) (s0:LU):OA :=
 qou (qkk n) n s0 ([([]:LU)]:List LU) (0:Int)
def qov (s2:UInt8):OA:=some (dm s2)
def qDN (_n:Nat) (c0:UInt8):OA :=
 bif (decide ((65:UInt8)≤c0)) then
 bif (decide (c0≤(90:UInt8))) then
 qov (c0+(32:UInt8))
 else
 qov c0
 else
 qov c0
def qvQ (s2:Int):OA:=some (dc s2)
def qMR (_n:Nat) (c0:UInt8):OA :=
 bif ((z109 c0)==(98:UInt8)) then
 qvQ (1:Int)
 else
 bif ((z109 c0)==(113:UInt8)) then
 qvQ (2:Int)
 else
 qvQ (0:Int)
def qgO (s4:Bool):OA:=some (dg s4)
def qeq (ret:Bool→OA) (k0:OA) (next:LU→UInt8→Int→OA) (_n:Nat) (s0:LU) (c1:UInt8) (i5:Int):OA :=
 bif (decide (i5 < (s0.length:Int))) then
 bif ((decide (0≤i5))&&(decide (i5 < s0.length))) then
 bif ((s0.getD i5.toNat (0:UInt8))==c1) then
 ret true
 else
 next s0 c1 (IntKind.wrap .i64 (i5+1))
 else none
 else
 k0
def qfY (ret:Bool→OA) (k0:OA):Nat→LU→UInt8→Int→OA
 | 0=>fun _ _ _=>none
 | n+1=>qeq ret k0 (qfY ret k0 n) n
def qfZ (_n:Nat):OA :=
 qgO false
def qqz (n:Nat) (s0:LU) (c1:UInt8):OA :=
 qfY qgO (qfZ n) n s0 c1 (0:Int)
def qKv (s4:Bool):OA:=some (dg s4)
def qSO (_n:Nat) (c0:UInt8) (kinds1:Int):OA :=
 qKv ((bits .and .i64 (z114 c0) kinds1) != (0:Int))
def qKw (s4:Int):OA:=some (dc s4)
def qgP (k0:Int→OA) (next:LU→Int→Int→Int→OA) (_n:Nat) (s0:LU) (kinds1:Int) (n5:Int) (i6:Int):OA :=
 bif (decide (i6 < (s0.length:Int))) then
 bif ((decide (0≤i6))&&(decide (i6 < s0.length))) then
 bif (z79 (s0.getD i6.toNat (0:UInt8)) kinds1) then
 next s0 kinds1 (IntKind.wrap .i64 (n5+1)) (IntKind.wrap .i64 (i6+1))
 else
 next s0 kinds1 n5 (IntKind.wrap .i64 (i6+1))
 else none
 else
 k0 n5
def qow (k0:Int→OA):Nat→LU→Int→Int→Int→OA
 | 0=>fun _ _ _ _=>none
 | n+1=>qgP k0 (qow k0 n) n
def qkl (_n:Nat) (n5:Int):OA :=
 qKw n5
def qHY (n:Nat) (s0:LU) (kinds1:Int):OA :=
 qow (qkl n) n s0 kinds1 (0:Int) (0:Int)
def qck (s2:LU×(Int×(LU×Unit))) (s3:Int):OA:=some (.tup [(.dat (.pair (.sl .byte) (.pair (.int .i64) (.pair (.sl .byte) .unit))) s2 none),(dc s3)])
def qaL:=(([]:LU),((0:Int),(([]:LU),())))
def qga (s0:LU):=((decide (0≤(1:Int)))&&(decide ((1:Int) < (z67 s0).length)))
def qgb (s0:LU):=((decide (0≤(3:Int)))&&(decide ((3:Int) < (z67 s0).length)))
def qer (s0:LU):=((z67 s0).getD (2:Int).toNat ([]:LU))
def qes (s0:LU):=((z67 s0).getD (1:Int).toNat ([]:LU))
def qet (s0:LU):=((z67 s0).getD (3:Int).toNat ([]:LU))
def qiB (s0:LU):=((decide (0≤(2:Int)))&&(decide ((2:Int) < (z67 s0).length)))
def qMS (_n:Nat) (s0:LU):OA :=
 bif ((qJD s0)&&true) then bif (((z67 s0).length:Int) != (5:Int)) then qck (qaL) (3:Int) else bif ((decide (0≤(0:Int)))&&(decide ((0:Int) < (z67 s0).length))) then bif (((z67 s0).getD (0:Int).toNat ([]:LU)) != ([61]:LU)) then qck (qaL) (3:Int) else bif ((decide (0≤(4:Int)))&&(decide ((4:Int) < (z67 s0).length))) then bif (((z67 s0).getD (4:Int).toNat ([]:LU)) != ([61]:LU)) then qck (qaL) (3:Int) else bif (qiB s0) then bif (((qer s0).length:Int) != (1:Int)) then qck (qaL) (3:Int) else bif (qiB s0) then bif ((decide (0≤(0:Int)))&&(decide ((0:Int) < (qer s0).length))) then bif ((z68 ((qer s0).getD (0:Int).toNat (0:UInt8)))==(0:Int)) then qck (qaL) (3:Int) else bif (qga s0) then bif (((qes s0).length:Int)==(0:Int)) then qck (qaL) (3:Int) else bif (qga s0) then bif (qga s0) then bif ((qyV (qes s0) (64:Int))&&true) then bif ((z69 (qes s0) (64:Int)) != ((qes s0).length:Int)) then qck (qaL) (3:Int) else bif (qgb s0) then bif (((qet s0).length:Int)==(0:Int)) then qck (qaL) (3:Int) else bif (qgb s0) then bif (qgb s0) then bif ((qyV (qet s0) (4:Int))&&true) then bif ((z69 (qet s0) (4:Int)) != ((qet s0).length:Int)) then qck (qaL) (3:Int) else bif (decide ((75:Int) < (s0.length:Int))) then qck (qaL) (12:Int) else bif (qga s0) then bif (qiB s0) then bif ((decide (0≤(0:Int)))&&(decide ((0:Int) < (qer s0).length))) then bif (qgb s0) then qck ((qes s0),((z68 ((qer s0).getD (0:Int).toNat (0:UInt8))),((qet s0),()))) (0:Int) else none else none else none else none else none else none else none else none else none else none else none else none else none else none else none else none else none else none
def qvR (s2:Int):OA:=some (dc s2)
def qgQ (k0:LU→Bool→OA) (next:LU→Bool→Int→OA) (_n:Nat) (run0:LU) (all3:Bool) (i4:Int):OA :=
 bif (decide (i4 < (run0.length:Int))) then
 bif all3 then
 bif ((decide (0≤i4))&&(decide (i4 < run0.length))) then
 next run0 (z65 (run0.getD i4.toNat (0:UInt8))) (IntKind.wrap .i64 (i4+1))
 else none
 else
 next run0 false (IntKind.wrap .i64 (i4+1))
 else
 k0 run0 all3
def qox (k0:LU→Bool→OA):Nat→LU→Bool→Int→OA
 | 0=>fun _ _ _=>none
 | n+1=>qgQ k0 (qox k0 n) n
def qgR (_n:Nat) (run0:LU) (all3:Bool):OA :=
 bif all3 then
 qvR (1:Int)
 else
 bif ((qlk run0)&&true) then
 bif (((z42 run0).2)==(0:Int)) then
 qvR (3:Int)
 else
 qvR (2:Int)
 else none
def qHZ (n:Nat) (run0:LU):OA :=
 qox (qgR n) n run0 (decide ((0:Int) < (run0.length:Int))) (0:Int)
def qKx (s2:List (Int×(LU×Unit))):OA:=some (.dat (.sl (.pair (.int .i64) (.pair (.sl .byte) .unit))) s2 (some (2,46)))
def qgS (k2:LU→List (Int×(LU×Unit))→Int→Int→OA) (next:LU→List (Int×(LU×Unit))→Int→Int→OA) (_n:Nat) (s0:LU) (out3:List (Int×(LU×Unit))) (i4:Int) (k5:Int):OA :=
 bif (decide (k5 < (s0.length:Int))) then
 bif ((decide (0≤k5))&&(decide (k5 < s0.length))) then
 bif ((decide (0≤i4))&&(decide (i4 < s0.length))) then
 bif ((z65 (s0.getD k5.toNat (0:UInt8)))==(z65 (s0.getD i4.toNat (0:UInt8)))) then
 next s0 out3 i4 (IntKind.wrap .i64 (k5+1))
 else
 k2 s0 out3 i4 k5
 else none
 else none
 else
 k2 s0 out3 i4 k5
def qoy (k2:LU→List (Int×(LU×Unit))→Int→Int→OA):Nat→LU→List (Int×(LU×Unit))→Int→Int→OA
 | 0=>fun _ _ _ _=>none
 | n+1=>qgS k2 (qoy k2 n) n
def qbC (s0:LU) (i4:Int) (k5:Int):=(List.drop i4.toNat (List.take k5.toNat s0))
def qkm (_k0:List (Int×(LU×Unit))→OA) (next:LU→List (Int×(LU×Unit))→Int→OA) (_n:Nat) (s0:LU) (out3:List (Int×(LU×Unit))) (i4:Int) (k5:Int):OA :=
 bif (((decide (0≤i4))&&(decide (i4≤k5)))&&(decide (k5≤(s0.length:Int)))) then bif (((decide (0≤i4))&&(decide (i4≤k5)))&&(decide (k5≤(s0.length:Int)))) then bif ((qJE (qbC s0 i4 k5))&&true) then bif (decide (out3.length+List.length ([((z66 (qbC s0 i4 k5)),((qbC s0 i4 k5),()))]:List (Int×(LU×Unit)))≤room)) then next s0 (out3++([((z66 (qbC s0 i4 k5)),((qbC s0 i4 k5),()))]:List (Int×(LU×Unit)))) k5 else none else none else none else none
def qkn (k0:List (Int×(LU×Unit))→OA) (next:LU→List (Int×(LU×Unit))→Int→OA) (n:Nat) (s0:LU) (out3:List (Int×(LU×Unit))) (i4:Int):OA :=
 bif (decide (i4 < (s0.length:Int))) then
 qoy (qkm k0 next n) n s0 out3 i4 i4
 else
 k0 out3
def qqA (k0:List (Int×(LU×Unit))→OA):Nat→LU→List (Int×(LU×Unit))→Int→OA
 | 0=>fun _ _ _=>none
 | n+1=>qkn k0 (qqA k0 n) n
def qko (_n:Nat) (out3:List (Int×(LU×Unit))):OA :=
 qKx out3
def qIa (n:Nat) (s0:LU):OA :=
 qqA (qko n) n s0 ([]:List (Int×(LU×Unit))) (0:Int)
def qlM (s4:Bool):OA:=some (dg s4)
def qMT (_n:Nat) (l0:List (Int×(LU×Unit))) (i1:Int):OA :=
 bif ((decide (0≤i1))&&(decide (i1 < l0.length))) then
 bif ((l0.getD i1.toNat ((0:Int),(([]:LU),()))).1==(1:Int)) then
 bif (decide ((0:Int) < i1)) then
 bif (decide ((IntKind.wrap .i64 (i1+1)) < (l0.length:Int))) then
 bif ((decide (0≤(IntKind.wrap .i64 (i1 - (1:Int)))))&&(decide ((IntKind.wrap .i64 (i1 - (1:Int))) < l0.length))) then
 bif ((l0.getD (IntKind.wrap .i64 (i1 - (1:Int))).toNat ((0:Int),(([]:LU),()))).1==(3:Int)) then
 bif ((decide (0≤(IntKind.wrap .i64 (i1+1))))&&(decide ((IntKind.wrap .i64 (i1+1)) < l0.length))) then
 qlM ((l0.getD (IntKind.wrap .i64 (i1+1)).toNat ((0:Int),(([]:LU),()))).1==(3:Int))
 else none
 else
 qlM false
 else none
 else
 qlM false
 else
 qlM false
 else
 qlM false
 else none
def qKy (s2:List (Int×(LU×Unit))):OA:=some (.dat (.sl (.pair (.int .i64) (.pair (.sl .byte) .unit))) s2 (some (2,46)))
def qgT (k0:List (Int×(LU×Unit))→OA) (next:List (Int×(LU×Unit))→List (Int×(LU×Unit))→Int→OA) (_n:Nat) (l3:List (Int×(LU×Unit))) (out4:List (Int×(LU×Unit))) (i5:Int):OA :=
 bif (decide (i5 < (l3.length:Int))) then
 bif ((qyL l3 i5)&&true) then
 bif (!(z41 l3 i5)) then
 bif ((decide (0≤i5))&&(decide (i5 < l3.length))) then
 bif (decide (out4.length+List.length ([(l3.getD i5.toNat ((0:Int),(([]:LU),())))]:List (Int×(LU×Unit)))≤room)) then
 next l3 (out4++([(l3.getD i5.toNat ((0:Int),(([]:LU),())))]:List (Int×(LU×Unit)))) (IntKind.wrap .i64 (i5+1))
 else none
 else none
 else
 next l3 out4 (IntKind.wrap .i64 (i5+1))
 else none
 else
 k0 out4
def qoz (k0:List (Int×(LU×Unit))→OA):Nat→List (Int×(LU×Unit))→List (Int×(LU×Unit))→Int→OA
 | 0=>fun _ _ _=>none
 | n+1=>qgT k0 (qoz k0 n) n
def qkp (_n:Nat) (out4:List (Int×(LU×Unit))):OA :=
 qKy out4
def qIb (n:Nat) (s0:LU):OA :=
 bif ((qJH s0)&&true) then
 qoz (qkp n) n (z40 s0) ([]:List (Int×(LU×Unit))) (0:Int)
 else none
def qKz (s2:LU):OA:=some (db s2 (some (2,5)))
def qgU (k0:LU→OA) (next:LU→LU→Int→OA) (_n:Nat) (s0:LU) (out3:LU) (i4:Int):OA :=
 bif (decide (i4 < (s0.length:Int))) then
 bif ((decide (0≤i4))&&(decide (i4 < s0.length))) then
 bif (decide (out3.length+List.length ([(z109 (s0.getD i4.toNat (0:UInt8)))]:LU)≤room)) then
 next s0 (out3++([(z109 (s0.getD i4.toNat (0:UInt8)))]:LU)) (IntKind.wrap .i64 (i4+1))
 else none
 else none
 else
 k0 out3
def qtb (k0:LU→OA):Nat→LU→LU→Int→OA
 | 0=>fun _ _ _=>none
 | n+1=>qgU k0 (qtb k0 n) n
def qgV (_n:Nat) (out3:LU):OA :=
 qKz out3
def qIc (n:Nat) (s0:LU):OA :=
 qtb (qgV n) n s0 ([]:LU) (0:Int)
def qDO (s2:LU):OA:=some (da s2)
def qeu (k0:LU→Int→Int→OA) (next:LU→Int→Int→OA) (_n:Nat) (s0:LU) (a3:Int) (b4:Int):OA :=
 bif (decide (a3 < b4)) then
 bif ((decide (0≤a3))&&(decide (a3 < s0.length))) then
 bif (z79 (s0.getD a3.toNat (0:UInt8)) (2:Int)) then
 next s0 (IntKind.wrap .i64 (a3+1)) b4
 else
 k0 s0 a3 b4
 else none
 else
 k0 s0 a3 b4
def qgc (k0:LU→Int→Int→OA):Nat→LU→Int→Int→OA
 | 0=>fun _ _ _=>none
 | n+1=>qeu k0 (qgc k0 n) n
def qev (k2:LU→Int→Int→OA) (next:LU→Int→Int→OA) (_n:Nat) (s0:LU) (a3:Int) (b4:Int):OA :=
 bif (decide (a3 < b4)) then
 bif ((decide (0≤(IntKind.wrap .i64 (b4 - (1:Int)))))&&(decide ((IntKind.wrap .i64 (b4 - (1:Int))) < s0.length))) then
 bif (z79 (s0.getD (IntKind.wrap .i64 (b4 - (1:Int))).toNat (0:UInt8)) (2:Int)) then
 next s0 a3 (IntKind.wrap .i64 (b4 - (1:Int)))
 else
 k2 s0 a3 b4
 else none
 else
 k2 s0 a3 b4
def qgd (k2:LU→Int→Int→OA):Nat→LU→Int→Int→OA
 | 0=>fun _ _ _=>none
 | n+1=>qev k2 (qgd k2 n) n
def qew (_n:Nat) (s0:LU) (a3:Int) (b4:Int):OA :=
 bif (((decide (0≤a3))&&(decide (a3≤b4)))&&(decide (b4≤(s0.length:Int)))) then
 qDO (List.drop a3.toNat (List.take b4.toNat s0))
 else none
def qdf (n:Nat) (s0:LU) (a3:Int) (b4:Int):OA :=
 qgd (qew n) n s0 a3 b4
def qvS (n:Nat) (s0:LU):OA :=
 qgc (qdf n) n s0 (0:Int) (s0.length:Int)
def qKA (s2:LU):OA:=some (da s2)
def qgW (k0:LU→Int→OA) (next:LU→Int→Int→OA) (_n:Nat) (s0:LU) (end3:Int) (i4:Int):OA :=
 bif (decide (0≤i4)) then
 bif ((decide (0≤i4))&&(decide (i4 < s0.length))) then
 bif ((s0.getD i4.toNat (0:UInt8))==(42:UInt8)) then
 next s0 i4 (IntKind.wrap .i64 (i4 - (1:Int)))
 else
 next s0 end3 (IntKind.wrap .i64 (i4 - (1:Int)))
 else none
 else
 k0 s0 end3
def qtc (k0:LU→Int→OA):Nat→LU→Int→Int→OA
 | 0=>fun _ _ _=>none
 | n+1=>qgW k0 (qtc k0 n) n
def qeW (_n:Nat) (s0:LU) (end3:Int):OA :=
 bif (((decide (0≤((0:Nat):Int)))&&(decide (((0:Nat):Int)≤end3)))&&(decide (end3≤(s0.length:Int)))) then
 bif ((qwv (List.drop ((0:Nat):Int).toNat (List.take end3.toNat s0)))&&true) then
 qKA (z113 (List.drop ((0:Nat):Int).toNat (List.take end3.toNat s0)))
 else none
 else none
def qId (n:Nat) (s0:LU):OA :=
 qtc (qeW n) n s0 (s0.length:Int) (IntKind.wrap .i64 ((s0.length:Int) - (1:Int)))
def qkq (s2:List LU):OA:=some (.dat (.sl .str) s2 (some (2,9)))
def qMU (_n:Nat) (n0:Int):OA :=
 bif (n0==(1:Int)) then
 qkq ([([117,115,45,97,115,99,105,105]:LU),([97,115,99,105,105]:LU),([97,110,115,105,95,120,51,46,52,45,49,57,54,56]:LU),([105,115,111,54,52,54,45,117,115]:LU)]:List LU)
 else
 bif (n0==(2:Int)) then
 qkq ([([105,115,111,45,56,56,53,57,45,49]:LU),([105,115,111,95,56,56,53,57,45,49]:LU),([108,97,116,105,110,49]:LU),([108,49]:LU)]:List LU)
 else
 bif (n0==(3:Int)) then
 qkq ([([105,115,111,45,56,56,53,57,45,49,53]:LU),([105,115,111,95,56,56,53,57,45,49,53]:LU),([108,97,116,105,110,45,57]:LU)]:List LU)
 else
 bif (n0==(4:Int)) then
 qkq ([([119,105,110,100,111,119,115,45,49,50,53,50]:LU),([99,112,49,50,53,50]:LU)]:List LU)
 else
 bif (n0==(5:Int)) then
 qkq ([([117,116,102,45,56]:LU),([117,116,102,56]:LU)]:List LU)
 else
 qkq ([]:List LU)
def qaO (s2:Int) (s3:Int):OA:=some (.tup [(dc s2),(dc s3)])
def qgX (ret:Int→Int→OA) (k2:LU→Int→OA) (next:LU→Int→List LU→Int→OA) (_n:Nat) (b4:LU) (n5:Int) (l6:List LU) (i7:Int):OA :=
 bif (decide (i7 < (l6.length:Int))) then
 bif ((decide (0≤i7))&&(decide (i7 < l6.length))) then
 bif ((l6.getD i7.toNat ([]:LU))==b4) then
 ret n5 (0:Int)
 else
 next b4 n5 l6 (IntKind.wrap .i64 (i7+1))
 else none
 else
 k2 b4 n5
def qtd (ret:Int→Int→OA) (k2:LU→Int→OA):Nat→LU→Int→List LU→Int→OA
 | 0=>fun _ _ _ _=>none
 | n+1=>qgX ret k2 (qtd ret k2 n) n
def qkr (_ret:Int→Int→OA) (_k0:OA) (next:LU→Int→OA) (_n:Nat) (b4:LU) (n5:Int):OA :=
 next b4 (IntKind.wrap .i64 (n5+1))
def qks (ret:Int→Int→OA) (k0:OA) (next:LU→Int→OA) (n:Nat) (b4:LU) (n5:Int):OA :=
 bif (decide (n5≤(5:Int))) then
 qtd ret (qkr ret k0 next n) n b4 n5 (z78 n5) (0:Int)
 else
 k0
def qkt (ret:Int→Int→OA) (k0:OA):Nat→LU→Int→OA
 | 0=>fun _ _=>none
 | n+1=>qks ret k0 (qkt ret k0 n) n
def qdg (_n:Nat):OA :=
 qaO (0:Int) (10:Int)
def qIe (n:Nat) (s0:LU):OA :=
 bif ((qFA s0)&&true) then
 bif ((qFP (z77 s0))&&true) then
 qkt qaO (qdg n) n (z76 (z77 s0)) (1:Int)
 else none
 else none
def qvT (s2:Int):OA:=some (dc s2)
def qMV (_n:Nat) (s0:LU):OA :=
 bif ((qlk s0)&&true) then
 bif (((z42 s0).2) != (0:Int)) then
 qvT (0:Int)
 else
 bif ((qxc ((z42 s0).1).1)&&true) then
 bif (((z46 ((z42 s0).1).1).2) != (0:Int)) then
 qvT (2:Int)
 else
 qvT ((z46 ((z42 s0).1).1).1)
 else none
 else none
def qeX (s2:UInt8):OA:=some (dm s2)
def qbg (n0:Int):=(Int.tmod (IntKind.wrap .i64 ((Int.tmod n0 (64:Int))+(64:Int))) (64:Int))
def qDP (_n:Nat) (n0:Int):OA :=
 bif (decide ((qbg n0) < (26:Int))) then qeX (UInt8.ofNat (IntKind.wrap .u8 (IntKind.wrap .i64 ((65:Int)+(qbg n0)))).toNat) else bif (decide ((qbg n0) < (52:Int))) then qeX (UInt8.ofNat (IntKind.wrap .u8 (IntKind.wrap .i64 ((IntKind.wrap .i64 ((97:Int)+(qbg n0))) - (26:Int)))).toNat) else bif (decide ((qbg n0) < (62:Int))) then qeX (UInt8.ofNat (IntKind.wrap .u8 (IntKind.wrap .i64 ((IntKind.wrap .i64 ((48:Int)+(qbg n0))) - (52:Int)))).toNat) else bif ((qbg n0)==(62:Int)) then qeX (43:UInt8) else qeX (47:UInt8)
def qeY (s2:Int) (s3:Bool):OA:=some (.tup [(dc s2),(dg s3)])
def qex (ret:Int→Bool→OA) (k0:OA) (next:UInt8→Int→OA) (_n:Nat) (c0:UInt8) (n4:Int):OA :=
 bif (decide (n4 < (64:Int))) then
 bif ((z138 n4)==c0) then
 ret n4 true
 else
 next c0 (IntKind.wrap .i64 (n4+1))
 else
 k0
def qku (ret:Int→Bool→OA) (k0:OA):Nat→UInt8→Int→OA
 | 0=>fun _ _=>none
 | n+1=>qex ret k0 (qku ret k0 n) n
def qge (_n:Nat):OA :=
 qeY (0:Int) false
def qvU (n:Nat) (c0:UInt8):OA :=
 qku qeY (qge n) n c0 (0:Int)
def qkv (s2:LU) (s3:Int):OA:=some (.tup [(da s2),(dc s3)])
def qgY (k0:LU→Int→OA) (next:LU→LU→Int→Int→OA) (_n:Nat) (s0:LU) (out4:LU) (strange5:Int) (i6:Int):OA :=
 bif (decide (i6 < (s0.length:Int))) then
 bif ((decide (0≤i6))&&(decide (i6 < s0.length))) then
 bif ((s0.getD i6.toNat (0:UInt8)) != (61:UInt8)) then
 bif ((decide (0≤i6))&&(decide (i6 < s0.length))) then
 bif ((z110 (s0.getD i6.toNat (0:UInt8))).2) then
 bif ((decide (0≤i6))&&(decide (i6 < s0.length))) then
 bif (decide (out4.length+List.length ([(s0.getD i6.toNat (0:UInt8))]:LU)≤room)) then
 next s0 (out4++([(s0.getD i6.toNat (0:UInt8))]:LU)) strange5 (IntKind.wrap .i64 (i6+1))
 else none
 else none
 else
 next s0 out4 (IntKind.wrap .i64 (strange5+1)) (IntKind.wrap .i64 (i6+1))
 else none
 else
 k0 out4 strange5
 else none
 else
 k0 out4 strange5
def qte (k0:LU→Int→OA):Nat→LU→LU→Int→Int→OA
 | 0=>fun _ _ _ _=>none
 | n+1=>qgY k0 (qte k0 n) n
def qkw (_n:Nat) (out4:LU) (strange5:Int):OA :=
 qkv out4 strange5
def qMW (n:Nat) (s0:LU):OA :=
 qte (qkw n) n s0 ([]:LU) (0:Int) (0:Int)
def qdM (s2:LI) (s3:Bool):OA:=some (.tup [(.dat (.sl (.int .i64)) s2 none),(dg s3)])
def qoA (k2:LU→LI→Int→OA) (next:LU→LI→Int→Int→Int→OA) (_n:Nat) (s0:LU) (out4:LI) (i5:Int) (n6:Int) (k8:Int):OA :=
 bif (decide (0≤k8)) then
 bif (decide (0≤k8)) then
 bif (decide (out4.length+List.length ([(Int.tmod (Int.fdiv n6 (2 ^ (min k8.toNat (IntKind.bits .i64)))) (2:Int))]:LI)≤room)) then
 next s0 (out4++([(Int.tmod (Int.fdiv n6 (2 ^ (min k8.toNat (IntKind.bits .i64)))) (2:Int))]:LI)) i5 n6 (IntKind.wrap .i64 (k8 - (1:Int)))
 else none
 else none
 else
 k2 s0 out4 i5
def qlf (k2:LU→LI→Int→OA):Nat→LU→LI→Int→Int→Int→OA
 | 0=>fun _ _ _ _ _=>none
 | n+1=>qoA k2 (qlf k2 n) n
def qoB (_ret:LI→Bool→OA) (_k0:LI→OA) (next:LU→LI→Int→OA) (_n:Nat) (s0:LU) (out4:LI) (i5:Int):OA :=
 next s0 out4 (IntKind.wrap .i64 (i5+1))
def qeZ (ret:LI→Bool→OA) (k0:LI→OA) (next:LU→LI→Int→OA) (n:Nat) (s0:LU) (out4:LI) (i5:Int):OA :=
 bif (decide (i5 < (s0.length:Int))) then
 bif ((decide (0≤i5))&&(decide (i5 < s0.length))) then
 bif (!((z110 (s0.getD i5.toNat (0:UInt8))).2)) then
 ret ([]:LI) false
 else
 qlf (qoB ret k0 next n) n s0 out4 i5 ((z110 (s0.getD i5.toNat (0:UInt8))).1) (5:Int)
 else none
 else
 k0 out4
def qoC (ret:LI→Bool→OA) (k0:LI→OA):Nat→LU→LI→Int→OA
 | 0=>fun _ _ _=>none
 | n+1=>qeZ ret k0 (qoC ret k0 n) n
def qfa (_n:Nat) (out4:LI):OA :=
 qdM out4 true
def qMX (n:Nat) (s0:LU):OA :=
 qoC qdM (qfa n) n s0 ([]:LI) (0:Int)
def qDQ (s2:Int):OA:=some (dc s2)
def qey (k0:Int→OA) (next:LI→Int→Int→OA) (_n:Nat) (l0:LI) (n3:Int) (i4:Int):OA :=
 bif (decide (i4 < (l0.length:Int))) then
 bif ((decide (0≤i4))&&(decide (i4 < l0.length))) then
 next l0 (IntKind.wrap .i64 ((IntKind.wrap .i64 ((2:Int)*n3))+(l0.getD i4.toNat 0))) (IntKind.wrap .i64 (i4+1))
 else none
 else
 k0 n3
def qkx (k0:Int→OA):Nat→LI→Int→Int→OA
 | 0=>fun _ _ _=>none
 | n+1=>qey k0 (qkx k0 n) n
def qgf (_n:Nat) (n3:Int):OA :=
 qDQ n3
def qvV (n:Nat) (l0:LI):OA :=
 qkx (qgf n) n l0 (0:Int) (0:Int)
def qDR (s2:LU) (s3:Bool):OA:=some (.tup [(da s2),(dg s3)])
def qcL (l0:LI) (i5:Int):=(List.drop i5.toNat (List.take (IntKind.wrap .i64 (i5+(8:Int))).toNat l0))
def qgZ (k0:LI→LU→Int→OA) (next:LI→LU→Int→OA) (_n:Nat) (l0:LI) (out4:LU) (i5:Int):OA :=
 bif (decide ((IntKind.wrap .i64 (i5+(8:Int)))≤(l0.length:Int))) then bif (((decide (0≤i5))&&(decide (i5≤(IntKind.wrap .i64 (i5+(8:Int))))))&&(decide ((IntKind.wrap .i64 (i5+(8:Int)))≤(l0.length:Int)))) then bif ((qfE (qcL l0 i5))&&true) then bif (decide (out4.length+List.length ([(UInt8.ofNat (IntKind.wrap .u8 (z111 (qcL l0 i5))).toNat)]:LU)≤room)) then next l0 (out4++([(UInt8.ofNat (IntKind.wrap .u8 (z111 (qcL l0 i5))).toNat)]:LU)) (IntKind.wrap .i64 (i5+(8:Int))) else none else none else none else k0 l0 out4 i5
def qtf (k0:LI→LU→Int→OA):Nat→LI→LU→Int→OA
 | 0=>fun _ _ _=>none
 | n+1=>qgZ k0 (qtf k0 n) n
def qha (_n:Nat) (l0:LI) (out4:LU) (i5:Int):OA :=
 bif (((decide (0≤i5))&&(decide (i5≤(l0.length:Int))))&&(decide ((l0.length:Int)≤(l0.length:Int)))) then
 bif ((qfE (List.drop i5.toNat (List.take (l0.length:Int).toNat l0)))&&true) then
 qDR out4 ((z111 (List.drop i5.toNat (List.take (l0.length:Int).toNat l0)))==(0:Int))
 else none
 else none
def qMY (n:Nat) (l0:LI):OA :=
 qtf (qha n) n l0 ([]:LU) (0:Int)
def qKB (s2:LU) (s3:Int):OA:=some (.tup [(da s2),(dc s3)])
def qMZ (_n:Nat) (s0:LU):OA :=
 bif ((qFE s0)&&true) then
 bif ((qxd ((z70 s0).1))&&true) then
 bif ((qxe ((z71 ((z70 s0).1)).1))&&true) then
 qKB ((z72 ((z71 ((z70 s0).1)).1)).1) (Int.tmod (((z71 ((z70 s0).1)).1).length:Int) (8:Int))
 else none
 else none
 else none
def qtg (s2:UInt8):OA:=some (dm s2)
def qgg (n0:Int):=(Int.tmod (IntKind.wrap .i64 ((Int.tmod n0 (16:Int))+(16:Int))) (16:Int))
def qDS (_n:Nat) (n0:Int):OA :=
 bif (decide ((qgg n0) < (10:Int))) then qtg (UInt8.ofNat (IntKind.wrap .u8 (IntKind.wrap .i64 ((48:Int)+(qgg n0)))).toNat) else qtg (UInt8.ofNat (IntKind.wrap .u8 (IntKind.wrap .i64 ((IntKind.wrap .i64 ((65:Int)+(qgg n0))) - (10:Int)))).toNat)
def qky (s2:Int) (s3:Bool):OA:=some (.tup [(dc s2),(dg s3)])
def qez (ret:Int→Bool→OA) (k0:OA) (next:UInt8→Int→OA) (_n:Nat) (c0:UInt8) (n4:Int):OA :=
 bif (decide (n4 < (16:Int))) then
 bif ((qlv n4)&&true) then
 bif ((z139 n4)==c0) then
 ret n4 true
 else
 bif (decide ((10:Int)≤n4)) then
 bif ((qlv n4)&&true) then
 bif (((z139 n4)+(32:UInt8))==c0) then
 ret n4 true
 else
 next c0 (IntKind.wrap .i64 (n4+1))
 else none
 else
 next c0 (IntKind.wrap .i64 (n4+1))
 else none
 else
 k0
def qgh (ret:Int→Bool→OA) (k0:OA):Nat→UInt8→Int→OA
 | 0=>fun _ _=>none
 | n+1=>qez ret k0 (qgh ret k0 n) n
def qgi (_n:Nat):OA :=
 qky (0:Int) false
def qDT (n:Nat) (c0:UInt8):OA :=
 qgh qky (qgi n) n c0 (0:Int)
def qkz (s6:UInt8) (s7:Bool):OA:=some (.tup [(dm s6),(dg s7)])
def qNa (_n:Nat) (s0:LU) (at1:Int) (sign2:UInt8):OA :=
 bif (decide (at1 < (0:Int))) then
 qkz (0:UInt8) false
 else
 bif (decide ((IntKind.wrap .i64 ((s0.length:Int) - (3:Int))) < at1)) then
 qkz (0:UInt8) false
 else
 bif ((decide (0≤at1))&&(decide (at1 < s0.length))) then
 bif ((s0.getD at1.toNat (0:UInt8)) != sign2) then
 qkz (0:UInt8) false
 else
 bif ((decide (0≤(IntKind.wrap .i64 (at1+1))))&&(decide ((IntKind.wrap .i64 (at1+1)) < s0.length))) then
 bif ((decide (0≤(IntKind.wrap .i64 (at1+(2:Int)))))&&(decide ((IntKind.wrap .i64 (at1+(2:Int))) < s0.length))) then
 bif (!((z112 (s0.getD (IntKind.wrap .i64 (at1+1)).toNat (0:UInt8))).2)) then
 qkz (0:UInt8) false
 else
 bif (!((z112 (s0.getD (IntKind.wrap .i64 (at1+(2:Int))).toNat (0:UInt8))).2)) then
 qkz (0:UInt8) false
 else
 qkz (UInt8.ofNat (IntKind.wrap .u8 (IntKind.wrap .i64 ((IntKind.wrap .i64 ((16:Int)*((z112 (s0.getD (IntKind.wrap .i64 (at1+1)).toNat (0:UInt8))).1)))+((z112 (s0.getD (IntKind.wrap .i64 (at1+(2:Int))).toNat (0:UInt8))).1)))).toNat) true
 else none
 else none
 else none
def qqB (s2:LU) (s3:Int):OA:=some (.tup [(da s2),(dc s3)])
def qoD (k0:LU→Int→OA) (next:LU→LU→Int→Int→OA) (_n:Nat) (s0:LU) (out4:LU) (strange5:Int) (i6:Int):OA :=
 bif (decide (i6 < (s0.length:Int))) then
 bif ((qFv s0 i6 (61:UInt8))&&true) then
 bif ((z73 s0 i6 (61:UInt8)).2) then
 bif (decide (out4.length+List.length ([((z73 s0 i6 (61:UInt8)).1)]:LU)≤room)) then
 next s0 (out4++([((z73 s0 i6 (61:UInt8)).1)]:LU)) strange5 (IntKind.wrap .i64 ((IntKind.wrap .i64 (i6+(2:Int)))+1))
 else none
 else
 bif ((decide (0≤i6))&&(decide (i6 < s0.length))) then
 bif ((s0.getD i6.toNat (0:UInt8))==(95:UInt8)) then
 bif (decide (out4.length+List.length ([(32:UInt8)]:LU)≤room)) then
 next s0 (out4++([(32:UInt8)]:LU)) strange5 (IntKind.wrap .i64 (i6+1))
 else none
 else
 bif ((decide (0≤i6))&&(decide (i6 < s0.length))) then
 bif ((s0.getD i6.toNat (0:UInt8))==(61:UInt8)) then
 bif (decide (out4.length+List.length ([(61:UInt8)]:LU)≤room)) then
 next s0 (out4++([(61:UInt8)]:LU)) (IntKind.wrap .i64 (strange5+1)) (IntKind.wrap .i64 (i6+1))
 else none
 else
 bif ((decide (0≤i6))&&(decide (i6 < s0.length))) then
 bif (decide (out4.length+List.length ([(s0.getD i6.toNat (0:UInt8))]:LU)≤room)) then
 next s0 (out4++([(s0.getD i6.toNat (0:UInt8))]:LU)) strange5 (IntKind.wrap .i64 (i6+1))
 else none
 else none
 else none
 else none
 else none
 else
 k0 out4 strange5
def qth (k0:LU→Int→OA):Nat→LU→LU→Int→Int→OA
 | 0=>fun _ _ _ _=>none
 | n+1=>qoD k0 (qth k0 n) n
def qkA (_n:Nat) (out4:LU) (strange5:Int):OA :=
 qqB out4 strange5
def qNb (n:Nat) (s0:LU):OA :=
 qth (qkA n) n s0 ([]:LU) (0:Int) (0:Int)
def qbh (s2:Int):OA:=some (dc s2)
def qNc (_n:Nat) (c0:UInt8):OA :=
 bif (decide (c0 < (128:UInt8))) then
 qbh (1:Int)
 else
 bif (decide ((194:UInt8)≤c0)) then
 bif (decide (c0≤(223:UInt8))) then
 qbh (2:Int)
 else
 bif (decide ((224:UInt8)≤c0)) then
 bif (decide (c0≤(239:UInt8))) then
 qbh (3:Int)
 else
 bif (decide ((240:UInt8)≤c0)) then
 bif (decide (c0≤(244:UInt8))) then
 qbh (4:Int)
 else
 qbh (0:Int)
 else
 qbh (0:Int)
 else
 bif (decide ((240:UInt8)≤c0)) then
 bif (decide (c0≤(244:UInt8))) then
 qbh (4:Int)
 else
 qbh (0:Int)
 else
 qbh (0:Int)
 else
 bif (decide ((224:UInt8)≤c0)) then
 bif (decide (c0≤(239:UInt8))) then
 qbh (3:Int)
 else
 bif (decide ((240:UInt8)≤c0)) then
 bif (decide (c0≤(244:UInt8))) then
 qbh (4:Int)
 else
 qbh (0:Int)
 else
 qbh (0:Int)
 else
 bif (decide ((240:UInt8)≤c0)) then
 bif (decide (c0≤(244:UInt8))) then
 qbh (4:Int)
 else
 qbh (0:Int)
 else
 qbh (0:Int)
def qhb (s2:UInt8) (s3:UInt8):OA:=some (.tup [(dm s2),(dm s3)])
def qDU (_n:Nat) (c0:UInt8):OA :=
 bif (c0==(224:UInt8)) then
 qhb (160:UInt8) (191:UInt8)
 else
 bif (c0==(237:UInt8)) then
 qhb (128:UInt8) (159:UInt8)
 else
 bif (c0==(240:UInt8)) then
 qhb (144:UInt8) (191:UInt8)
 else
 bif (c0==(244:UInt8)) then
 qhb (128:UInt8) (143:UInt8)
 else
 qhb (128:UInt8) (191:UInt8)
def qeH (s2:Int):OA:=some (dc s2)
def qbD (s0:LU) (n3:Int):=((decide (0≤n3))&&(decide (n3 < s0.length)))
def qhc (ret:Int→OA) (k0:Int→OA) (next:LU→Int→OA) (_n:Nat) (s0:LU) (n3:Int):OA :=
 bif ((decide (0≤(0:Int)))&&(decide ((0:Int) < s0.length))) then bif (decide (n3 < (z81 (s0.getD (0:Int).toNat (0:UInt8))))) then bif (decide (n3 < (s0.length:Int))) then bif (n3==(1:Int)) then bif ((decide (0≤(0:Int)))&&(decide ((0:Int) < s0.length))) then bif (qbD s0 n3) then bif (decide ((s0.getD n3.toNat (0:UInt8)) < ((z115 (s0.getD (0:Int).toNat (0:UInt8))).1))) then ret n3 else bif (qbD s0 n3) then bif (decide (((z115 (s0.getD (0:Int).toNat (0:UInt8))).2) < (s0.getD n3.toNat (0:UInt8)))) then ret n3 else next s0 (IntKind.wrap .i64 (n3+1)) else none else none else none else bif (qbD s0 n3) then bif (decide ((s0.getD n3.toNat (0:UInt8)) < (128:UInt8))) then ret n3 else bif (qbD s0 n3) then bif (decide ((191:UInt8) < (s0.getD n3.toNat (0:UInt8)))) then ret n3 else next s0 (IntKind.wrap .i64 (n3+1)) else none else none else k0 n3 else k0 n3 else none
def qqC (ret:Int→OA) (k0:Int→OA):Nat→LU→Int→OA
 | 0=>fun _ _=>none
 | n+1=>qhc ret k0 (qqC ret k0 n) n
def qhd (_n:Nat) (n3:Int):OA :=
 qeH n3
def qIf (n:Nat) (s0:LU):OA :=
 bif ((s0.length:Int)==(0:Int)) then
 qeH (0:Int)
 else
 bif ((decide (0≤(0:Int)))&&(decide ((0:Int) < s0.length))) then
 bif ((z81 (s0.getD (0:Int).toNat (0:UInt8)))==(0:Int)) then
 qeH (0:Int)
 else
 qqC qeH (qhd n) n s0 (1:Int)
 else none
def qeI (s2:Int) (s3:Int) (s4:Int):OA:=some (.tup [(di s2 none),(dc s3),(dc s4)])
def qhe (k0:Int→Int→OA) (next:LU→Int→Int→Int→OA) (_n:Nat) (s0:LU) (n5:Int) (c7:Int) (i8:Int):OA :=
 bif (decide (i8 < n5)) then
 bif ((decide (0≤i8))&&(decide (i8 < s0.length))) then
 next s0 n5 (IntKind.wrap .i64 ((IntKind.wrap .i64 ((IntKind.wrap .i64 ((64:Int)*c7))+(IntKind.wrap .i64 ((UInt8.toNat (s0.getD i8.toNat (0:UInt8)):Nat):Int)))) - (128:Int))) (IntKind.wrap .i64 (i8+1))
 else none
 else
 k0 n5 c7
def qti (k0:Int→Int→OA):Nat→LU→Int→Int→Int→OA
 | 0=>fun _ _ _ _=>none
 | n+1=>qhe k0 (qti k0 n) n
def qkB (_n:Nat) (n5:Int) (c7:Int):OA :=
 qeI (IntKind.wrap .i32 c7) n5 (0:Int)
def qIg (n:Nat) (s0:LU):OA :=
 bif ((s0.length:Int)==(0:Int)) then
 qeI (0:Int) (0:Int) (4:Int)
 else
 bif ((qFx s0)&&true) then
 bif (decide ((0:Int) < (z80 s0))) then
 bif ((decide (0≤(0:Int)))&&(decide ((0:Int) < s0.length))) then
 bif ((z80 s0)==(z81 (s0.getD (0:Int).toNat (0:UInt8)))) then
 bif ((decide (0≤(0:Int)))&&(decide ((0:Int) < s0.length))) then
 bif ((decide (0≤(z80 s0)))&&(decide ((z80 s0) < ([(0:Int),(0:Int),(192:Int),(224:Int),(240:Int)]:LI).length))) then
 qti (qkB n) n s0 (z80 s0) (IntKind.wrap .i64 ((IntKind.wrap .i64 ((UInt8.toNat (s0.getD (0:Int).toNat (0:UInt8)):Nat):Int)) - (([(0:Int),(0:Int),(192:Int),(224:Int),(240:Int)]:LI).getD (z80 s0).toNat 0))) (1:Int)
 else none
 else none
 else
 bif ((z80 s0)==(s0.length:Int)) then
 qeI (0:Int) (z80 s0) (4:Int)
 else
 qeI (0:Int) (bif (decide ((1:Int) > (z80 s0))) then (1:Int) else (z80 s0)) (3:Int)
 else none
 else
 bif ((z80 s0)==(s0.length:Int)) then
 qeI (0:Int) (z80 s0) (4:Int)
 else
 qeI (0:Int) (bif (decide ((1:Int) > (z80 s0))) then (1:Int) else (z80 s0)) (3:Int)
 else none
def qqD (s2:LI) (s3:Int) (s4:Int):OA:=some (.tup [(.dat (.sl (.int .i32)) s2 none),(dc s3),(dc s4)])
def qaW (s0:LU) (at8:Int):=(z49 (List.drop at8.toNat (List.take (s0.length:Int).toNat s0)))
def qeA (s0:LU) (at8:Int):=(IntKind.wrap .i64 (at8+(bif (decide ((1:Int) > ((qaW s0 at8).2.1))) then (1:Int) else ((qaW s0 at8).2.1))))
def qoE (k0:LI→Int→Int→OA) (next:LU→LI→Int→Int→Int→OA) (_n:Nat) (s0:LU) (out5:LI) (broken6:Int) (first7:Int) (at8:Int):OA :=
 bif (decide (at8 < (s0.length:Int))) then bif (((decide (0≤at8))&&(decide (at8≤(s0.length:Int))))&&(decide ((s0.length:Int)≤(s0.length:Int)))) then bif ((qFy (List.drop at8.toNat (List.take (s0.length:Int).toNat s0)))&&true) then bif (((qaW s0 at8).2.2) != (0:Int)) then bif (first7==(0:Int)) then bif (decide (out5.length+List.length ([(65533:Int)]:LI)≤room)) then next s0 (out5++([(65533:Int)]:LI)) (IntKind.wrap .i64 (broken6+1)) ((qaW s0 at8).2.2) (qeA s0 at8) else none else bif (decide (out5.length+List.length ([(65533:Int)]:LI)≤room)) then next s0 (out5++([(65533:Int)]:LI)) (IntKind.wrap .i64 (broken6+1)) first7 (qeA s0 at8) else none else bif (decide (out5.length+List.length ([((qaW s0 at8).1)]:LI)≤room)) then next s0 (out5++([((qaW s0 at8).1)]:LI)) broken6 first7 (qeA s0 at8) else none else none else none else k0 out5 broken6 first7
def qqE (k0:LI→Int→Int→OA):Nat→LU→LI→Int→Int→Int→OA
 | 0=>fun _ _ _ _ _=>none
 | n+1=>qoE k0 (qqE k0 n) n
def qhf (_n:Nat) (out5:LI) (broken6:Int) (first7:Int):OA :=
 qqD out5 broken6 first7
def qNd (n:Nat) (s0:LU):OA :=
 qqE (qhf n) n s0 ([]:LI) (0:Int) (0:Int) (0:Int)
def qeJ (s2:Int):OA:=some (di s2 none)
def qNe (_n:Nat) (x0:UInt8):OA :=
 bif (x0==(164:UInt8)) then
 qeJ (8364:Int)
 else
 bif (x0==(166:UInt8)) then
 qeJ (352:Int)
 else
 bif (x0==(168:UInt8)) then
 qeJ (353:Int)
 else
 bif (x0==(180:UInt8)) then
 qeJ (381:Int)
 else
 bif (x0==(184:UInt8)) then
 qeJ (382:Int)
 else
 bif (x0==(188:UInt8)) then
 qeJ (338:Int)
 else
 bif (x0==(189:UInt8)) then
 qeJ (339:Int)
 else
 bif (x0==(190:UInt8)) then
 qeJ (376:Int)
 else
 qeJ (IntKind.wrap .i32 ((UInt8.toNat x0:Nat):Int))
def qvW (s2:Int):OA:=some (di s2 none)
def qoF:=([(8364:Int),(65533:Int),(8218:Int),(402:Int),(8222:Int),(8230:Int),(8224:Int),(8225:Int),(710:Int),(8240:Int),(352:Int),(8249:Int),(338:Int),(65533:Int),(381:Int),(65533:Int),(65533:Int),(8216:Int),(8217:Int),(8220:Int),(8221:Int),(8226:Int),(8211:Int),(8212:Int),(732:Int),(8482:Int),(353:Int),(8250:Int),(339:Int),(65533:Int),(382:Int),(376:Int)]:LI)
def qNf (_n:Nat) (x0:UInt8):OA :=
 bif (decide (x0 < (128:UInt8))) then qvW (IntKind.wrap .i32 ((UInt8.toNat x0:Nat):Int)) else bif (decide ((159:UInt8) < x0)) then qvW (IntKind.wrap .i32 ((UInt8.toNat x0:Nat):Int)) else bif ((decide (0≤((UInt8.toNat (x0 - (128:UInt8)):Nat):Int)))&&(decide (((UInt8.toNat (x0 - (128:UInt8)):Nat):Int) < (qoF).length))) then qvW ((qoF).getD ((UInt8.toNat (x0 - (128:UInt8)):Nat):Int).toNat 0) else none
def qqF (s4:LI):OA:=some (.dat (.sl (.int .i32)) s4 none)
def qap (s1:LU) (i9:Int):=((decide (0≤i9))&&(decide (i9 < s1.length)))
def qQ (s1:LU) (i9:Int):=(s1.getD i9.toNat (0:UInt8))
def qbE (s1:LU) (i9:Int):=([(IntKind.wrap .i32 ((UInt8.toNat (qQ s1 i9):Nat):Int))]:LI)
def qhg (k0:LI→OA) (next:Int→LU→LI→Int→OA) (_n:Nat) (charset0:Int) (s1:LU) (out8:LI) (i9:Int):OA :=
 bif (decide (i9 < (s1.length:Int))) then bif (charset0==(1:Int)) then bif (qap s1 i9) then bif (decide ((127:UInt8) < (qQ s1 i9))) then bif (decide (out8.length+List.length ([(65533:Int)]:LI)≤room)) then next charset0 s1 (out8++([(65533:Int)]:LI)) (IntKind.wrap .i64 (i9+1)) else none else bif (charset0==(3:Int)) then bif (qap s1 i9) then bif (decide (out8.length+List.length ([(z74 (qQ s1 i9))]:LI)≤room)) then next charset0 s1 (out8++([(z74 (qQ s1 i9))]:LI)) (IntKind.wrap .i64 (i9+1)) else none else none else bif (charset0==(4:Int)) then bif (qap s1 i9) then bif (decide (out8.length+List.length ([(z75 (qQ s1 i9))]:LI)≤room)) then next charset0 s1 (out8++([(z75 (qQ s1 i9))]:LI)) (IntKind.wrap .i64 (i9+1)) else none else none else bif (qap s1 i9) then bif (decide (out8.length+List.length (qbE s1 i9)≤room)) then next charset0 s1 (out8++(qbE s1 i9)) (IntKind.wrap .i64 (i9+1)) else none else none else none else bif (charset0==(3:Int)) then bif (qap s1 i9) then bif (decide (out8.length+List.length ([(z74 (qQ s1 i9))]:LI)≤room)) then next charset0 s1 (out8++([(z74 (qQ s1 i9))]:LI)) (IntKind.wrap .i64 (i9+1)) else none else none else bif (charset0==(4:Int)) then bif (qap s1 i9) then bif (decide (out8.length+List.length ([(z75 (qQ s1 i9))]:LI)≤room)) then next charset0 s1 (out8++([(z75 (qQ s1 i9))]:LI)) (IntKind.wrap .i64 (i9+1)) else none else none else bif (qap s1 i9) then bif (decide (out8.length+List.length (qbE s1 i9)≤room)) then next charset0 s1 (out8++(qbE s1 i9)) (IntKind.wrap .i64 (i9+1)) else none else none else k0 out8
def qtj (k0:LI→OA):Nat→Int→LU→LI→Int→OA
 | 0=>fun _ _ _ _=>none
 | n+1=>qhg k0 (qtj k0 n) n
def qhh (_n:Nat) (out8:LI):OA :=
 qqF out8
def qIh (n:Nat) (charset0:Int) (s1:LU):OA :=
 bif (charset0==(5:Int)) then
 bif ((qwZ s1)&&true) then
 qqF ((z27 s1).1)
 else none
 else
 qtj (qhh n) n charset0 s1 ([]:LI) (0:Int)
def qvX (s2:LI) (s3:Bool):OA:=some (.tup [(.dat (.sl (.int .i32)) s2 none),(dg s3)])
def qNg (_n:Nat) (s0:LU):OA :=
 bif ((qlk s0)&&true) then
 bif (((z42 s0).2) != (0:Int)) then
 qvX ([]:LI) false
 else
 bif (((z42 s0).1).2.1==(1:Int)) then
 bif ((qFF ((z42 s0).1).2.2.1)&&true) then
 bif ((qrL s0)&&true) then
 bif ((qxa (z25 s0) ((z43 ((z42 s0).1).2.2.1).1))&&true) then
 qvX (z45 (z25 s0) ((z43 ((z42 s0).1).2.2.1).1)) true
 else none
 else none
 else none
 else
 bif ((qxf ((z42 s0).1).2.2.1)&&true) then
 bif ((qrL s0)&&true) then
 bif ((qxa (z25 s0) ((z44 ((z42 s0).1).2.2.1).1))&&true) then
 qvX (z45 (z25 s0) ((z44 ((z42 s0).1).2.2.1).1)) true
 else none
 else none
 else none
 else none
def qlN (s2:LU) (s3:Int):OA:=some (.tup [(da s2),(dc s3)])
def qhi (k0:LU→Int→OA) (next:LU→Int→Int→OA) (_n:Nat) (s0:LU) (end4:Int) (k5:Int):OA :=
 bif (decide (k5 < (2:Int))) then
 bif (decide ((0:Int) < end4)) then
 bif ((decide (0≤(IntKind.wrap .i64 (end4 - (1:Int)))))&&(decide ((IntKind.wrap .i64 (end4 - (1:Int))) < s0.length))) then
 bif ((s0.getD (IntKind.wrap .i64 (end4 - (1:Int))).toNat (0:UInt8))==(61:UInt8)) then
 next s0 (IntKind.wrap .i64 (end4 - (1:Int))) (IntKind.wrap .i64 (k5+1))
 else
 k0 s0 end4
 else none
 else
 k0 s0 end4
 else
 k0 s0 end4
def qlg (k0:LU→Int→OA):Nat→LU→Int→Int→OA
 | 0=>fun _ _ _=>none
 | n+1=>qhi k0 (qlg k0 n) n
def qbF (s0:LU) (end4:Int):=(List.drop ((0:Nat):Int).toNat (List.take end4.toNat s0))
def qbV (_n:Nat) (s0:LU) (end4:Int):OA :=
 bif (((decide (0≤((0:Nat):Int)))&&(decide (((0:Nat):Int)≤end4)))&&(decide (end4≤(s0.length:Int)))) then bif ((qxd (qbF s0 end4))&&true) then bif (!((z71 (qbF s0 end4)).2)) then qlN ([]:LU) (3:Int) else bif ((Int.tmod (s0.length:Int) (4:Int)) != (0:Int)) then qlN ([]:LU) (4:Int) else bif ((qxe ((z71 (qbF s0 end4)).1))&&true) then bif (!((z72 ((z71 (qbF s0 end4)).1)).2)) then qlN ([]:LU) (3:Int) else qlN ((z72 ((z71 (qbF s0 end4)).1)).1) (0:Int) else none else none else none
def qNh (n:Nat) (s0:LU):OA :=
 qlg (qbV n) n s0 (s0.length:Int) (0:Int)
def qhE (s2:Int):OA:=some (dc s2)
def qhj (ret:Int→OA) (k0:LU→OA) (next:LU→Int→OA) (_n:Nat) (s0:LU) (i3:Int):OA :=
 bif (decide (i3 < (s0.length:Int))) then
 bif ((decide (0≤i3))&&(decide (i3 < s0.length))) then
 bif (!(z79 (s0.getD i3.toNat (0:UInt8)) (4:Int))) then
 ret (3:Int)
 else
 bif ((decide (0≤i3))&&(decide (i3 < s0.length))) then
 bif ((s0.getD i3.toNat (0:UInt8))==(63:UInt8)) then
 ret (3:Int)
 else
 next s0 (IntKind.wrap .i64 (i3+1))
 else none
 else none
 else
 k0 s0
def qtk (ret:Int→OA) (k0:LU→OA):Nat→LU→Int→OA
 | 0=>fun _ _=>none
 | n+1=>qhj ret k0 (qtk ret k0 n) n
def qfb (_n:Nat) (s0:LU):OA :=
 bif ((qxf s0)&&true) then
 bif (decide ((0:Int) < ((z44 s0).2))) then
 qhE (3:Int)
 else
 qhE (0:Int)
 else none
def qNi (n:Nat) (s0:LU):OA :=
 qtk qhE (qfb n) n s0 (0:Int)
def qqG (s2:Bool):OA:=some (dg s2)
def qNj (_n:Nat) (s0:LU):OA :=
 bif ((qlk s0)&&true) then
 bif (((z42 s0).2) != (0:Int)) then
 qqG false
 else
 bif ((qxc ((z42 s0).1).1)&&true) then
 bif (((z46 ((z42 s0).1).1).2) != (0:Int)) then
 qqG false
 else
 bif (((z42 s0).1).2.1==(1:Int)) then
 bif ((qFC ((z42 s0).1).2.2.1)&&true) then
 qqG (((z47 ((z42 s0).1).2.2.1).2)==(0:Int))
 else none
 else
 bif ((qFI ((z42 s0).1).2.2.1)&&true) then
 qqG ((z48 ((z42 s0).1).2.2.1)==(0:Int))
 else none
 else none
 else none
def qKC (s2:List LI) (s3:Int) (s4:LI):OA:=some (.tup [(.dat (.sl (.sl (.int .i32))) s2 none),(dc s3),(.dat (.sl (.int .i64)) s4 none)])
def qE (l8:List (Int×(LU×Unit))) (i9:Int):=(l8.getD i9.toNat ((0:Int),(([]:LU),())))
def qaX (l8:List (Int×(LU×Unit))) (i9:Int):=((decide (0≤i9))&&(decide (i9 < l8.length)))
def qhk (k0:List LI→LI→Int→OA) (next:List LI→LI→Int→List (Int×(LU×Unit))→Int→OA) (_n:Nat) (out5:List LI) (sets6:LI) (odd7:Int) (l8:List (Int×(LU×Unit))) (i9:Int):OA :=
 bif (decide (i9 < (l8.length:Int))) then bif (qaX l8 i9) then bif ((qE l8 i9).1==(3:Int)) then bif (qaX l8 i9) then bif ((qFM (qE l8 i9).2.1)&&true) then bif (decide (out5.length+List.length ([((z24 (qE l8 i9).2.1).1)]:List LI)≤room)) then bif (qaX l8 i9) then bif ((qrL (qE l8 i9).2.1)&&true) then bif (decide (sets6.length+List.length ([(z25 (qE l8 i9).2.1)]:LI)≤room)) then bif (qaX l8 i9) then bif ((qFK (qE l8 i9).2.1)&&true) then bif (!(z26 (qE l8 i9).2.1)) then next (out5++([((z24 (qE l8 i9).2.1).1)]:List LI)) (sets6++([(z25 (qE l8 i9).2.1)]:LI)) (IntKind.wrap .i64 (odd7+1)) l8 (IntKind.wrap .i64 (i9+1)) else next (out5++([((z24 (qE l8 i9).2.1).1)]:List LI)) (sets6++([(z25 (qE l8 i9).2.1)]:LI)) odd7 l8 (IntKind.wrap .i64 (i9+1)) else none else none else none else none else none else none else none else none else bif (qaX l8 i9) then bif ((qwZ (qE l8 i9).2.1)&&true) then bif (decide (out5.length+List.length ([((z27 (qE l8 i9).2.1).1)]:List LI)≤room)) then next (out5++([((z27 (qE l8 i9).2.1).1)]:List LI)) sets6 odd7 l8 (IntKind.wrap .i64 (i9+1)) else none else none else none else none else k0 out5 sets6 odd7
def qtl (k0:List LI→LI→Int→OA):Nat→List LI→LI→Int→List (Int×(LU×Unit))→Int→OA
 | 0=>fun _ _ _ _ _=>none
 | n+1=>qhk k0 (qtl k0 n) n
def qkC (_n:Nat) (out5:List LI) (sets6:LI) (odd7:Int):OA :=
 qKC out5 odd7 sets6
def qIi (n:Nat) (s0:LU):OA :=
 bif ((qJJ s0)&&true) then
 qtl (qkC n) n ([]:List LI) ([]:LI) (0:Int) (z23 s0) (0:Int)
 else none
def qlh (s2:Bool):OA:=some (dg s2)
def qlO (ret:Bool→OA) (k0:LI→LI→OA) (next:List LI→LI→List LI→LI→Int→Int→OA) (_n:Nat) (l5:List LI) (sets7:LI) (a8:List LI) (b9:LI) (s50:Int) (s51:Int):OA :=
 bif (decide (s51 < s50)) then
 bif ((decide (0≤s51))&&(decide (s51 < a8.length))) then
 bif ((decide (0≤s51))&&(decide (s51 < l5.length))) then
 bif ((z8_ok (a8.getD s51.toNat ([]:LI)) (l5.getD s51.toNat ([]:LI)))&&true) then
 bif (!(z8 (a8.getD s51.toNat ([]:LI)) (l5.getD s51.toNat ([]:LI)))) then
 ret false
 else
 next l5 sets7 a8 b9 s50 (IntKind.wrap .i64 (s51+1))
 else none
 else none
 else none
 else
 k0 sets7 b9
def z4_l9 (ret:Bool→OA) (k0:LI→LI→OA):Nat→List LI→LI→List LI→LI→Int→Int→OA
 | 0=>fun _ _ _ _ _ _=>none
 | n+1=>qlO ret k0 (z4_l9 ret k0 n) n
def qhl (ret:Bool→OA) (k2:OA) (next:LI→LI→Int→Int→OA) (_n:Nat) (sets7:LI) (b9:LI) (s66:Int) (s67:Int):OA :=
 bif (decide (s67 < s66)) then
 bif ((decide (0≤s67))&&(decide (s67 < b9.length))) then
 bif ((decide (0≤s67))&&(decide (s67 < sets7.length))) then
 bif ((b9.getD s67.toNat 0) != (sets7.getD s67.toNat 0)) then
 ret false
 else
 next sets7 b9 s66 (IntKind.wrap .i64 (s67+1))
 else none
 else none
 else
 k2
def qtm (ret:Bool→OA) (k2:OA):Nat→LI→LI→Int→Int→OA
 | 0=>fun _ _ _ _=>none
 | n+1=>qhl ret k2 (qtm ret k2 n) n
def qoG (_n:Nat):OA :=
 qlh z7
def qlP (n:Nat) (sets7:LI) (b9:LI):OA :=
 qtm qlh (qoG n) n sets7 b9 (sets7.length:Int) (0:Int)
def z4_sh (n:Nat) (s0:LU):OA :=
 bif (decide ((500:Int) < (s0.length:Int))) then
 qlh z7
 else
 bif ((qJL s0)&&true) then
 bif ((qHQ ((z13 s0).1))&&true) then
 bif ((qCv s0)&&true) then
 bif ((qCu s0)&&true) then
 bif (((z15 s0).length:Int) != (((z14 ((z13 s0).1)).1).length:Int)) then
 qlh false
 else
 bif (((z16 s0).length:Int) != (((z14 ((z13 s0).1)).2.2).length:Int)) then
 qlh false
 else
 bif ((qCt s0)&&true) then
 bif ((z17 s0) != ((z14 ((z13 s0).1)).2.1)) then
 qlh false
 else
 z4_l9 qlh (qlP n) n ((z14 ((z13 s0).1)).1) ((z14 ((z13 s0).1)).2.2) (z15 s0) (z16 s0) (((z14 ((z13 s0).1)).1).length:Int) (0:Int)
 else none
 else none
 else none
 else none
 else none
end
end Go.Av
