import Derived.Test.YtnfehbljinflbaaGreatDoorRRRRErM
import Derived.Test.YtnfehbljinflbaaGreatDoorRRRRAvE
namespace Go.Av
set_option linter.unusedVariables false
abbrev OA:=Option AV
noncomputable section
def qyA (s4:Bool):OA:=some (dg s4)
def qlC (ret:Bool→OA) (k0:OA) (next:LI→LI→Int→OA) (_n:Nat) (a0:LI) (b1:LI) (i5:Int):OA :=
 bif (decide (i5 < (a0.length:Int))) then
 bif ((decide (0≤i5))&&(decide (i5 < a0.length))) then
 bif ((decide (0≤i5))&&(decide (i5 < b1.length))) then
 bif ((a0.getD i5.toNat 0) != (b1.getD i5.toNat 0)) then
 ret false
 else
 next a0 b1 (IntKind.wrap .i64 (i5+1))
 else none
 else none
 else
 k0
def z8_l4 (ret:Bool→OA) (k0:OA):Nat→LI→LI→Int→OA
 | 0=>fun _ _ _=>none
 | n+1=>qlC ret k0 (z8_l4 ret k0 n) n
def qvs (_n:Nat):OA :=
 qyA true
def z8_sh (n:Nat) (a0:LI) (b1:LI):OA :=
 bif ((a0.length:Int) != (b1.length:Int)) then
 qyA false
 else
 z8_l4 qyA (qvs n) n a0 b1 (0:Int)
def qJT (s10:LI):OA:=some (.tup [(.tup []),.bad,.bad,(.pbox (.osl 21 (.int .i32)) s10 none)])
def qMk (_n:Nat) (_x0:Int×(LU×Unit)) (t1:LI) (x2:LI):OA :=
 bif (decide (x2.length+t1.length≤room)) then
 qJT (x2++t1)
 else none
def qJU (s11:List LI):OA:=some (.tup [(.tup []),.bad,.bad,(.pbox (.osl 25 (.sl (.int .i32))) s11 none)])
def qMl (_n:Nat) (_x0:Int×(LU×Unit)) (t1:LI) (x2:List LI):OA :=
 bif (decide (x2.length+List.length ([t1]:List LI)≤room)) then
 qJU (x2++([t1]:List LI))
 else none
def qJV (s4:Int):OA:=some (dc s4)
def qSM (_n:Nat) (b0:LU) (c1:UInt8):OA :=
 qJV (z123 b0 c1)
def qJW (s4:Bool):OA:=some (dg s4)
def qSN (_n:Nat) (a0:LU) (b1:LU):OA :=
 qJW (a0==b1)
def qjK (s4:Int):OA:=some (dc s4)
def qvt (ret:Int→OA) (next:LU→LU→Int→OA) (_n:Nat) (s0:LU) (sep1:LU) (n5:Int):OA :=
 bif ((qrd s0 sep1)&&true) then
 bif ((z57 s0 sep1)==(-1:Int)) then
 ret n5
 else
 bif (((decide (0≤(IntKind.wrap .i64 ((z57 s0 sep1)+(sep1.length:Int)))))&&(decide ((IntKind.wrap .i64 ((z57 s0 sep1)+(sep1.length:Int)))≤(s0.length:Int))))&&(decide ((s0.length:Int)≤(s0.length:Int)))) then
 next (List.drop (IntKind.wrap .i64 ((z57 s0 sep1)+(sep1.length:Int))).toNat (List.take (s0.length:Int).toNat s0)) sep1 (IntKind.wrap .i64 (n5+1))
 else none
 else none
def qlD (ret:Int→OA):Nat→LU→LU→Int→OA
 | 0=>fun _ _ _=>none
 | n+1=>qvt ret (qlD ret n) n
def qCz (n:Nat) (s0:LU) (sep1:LU):OA :=
 bif ((sep1.length:Int)==(0:Int)) then
 bif ((qKO s0)&&true) then
 qjK (IntKind.wrap .i64 ((z164 s0)+1))
 else none
 else
 bif ((sep1.length:Int)==(1:Int)) then
 bif ((decide (0≤(0:Int)))&&(decide ((0:Int) < sep1.length))) then
 qjK (z165 s0 (sep1.getD (0:Int).toNat (0:UInt8)))
 else none
 else
 qlD qjK n s0 sep1 (0:Int)
def qjL (s8:List LU):OA:=some (.dat (.sl (.sl .byte)) s8 none)
def qcz (k0:LU→List LU→Int→OA) (next:LU→LU→Int→Int→List LU→Int→OA) (_n:Nat) (s0:LU) (sep1:LU) (sepSave2:Int) (n3:Int) (a9:List LU) (i10:Int):OA :=
 bif (decide (i10 < n3)) then
 bif ((qrd s0 sep1)&&true) then
 bif (decide ((z57 s0 sep1) < (0:Int))) then
 k0 s0 a9 i10
 else
 bif ((((decide (0≤((0:Nat):Int)))&&(decide (((0:Nat):Int)≤(IntKind.wrap .i64 ((z57 s0 sep1)+sepSave2)))))&&(decide ((IntKind.wrap .i64 ((z57 s0 sep1)+sepSave2))≤(IntKind.wrap .i64 ((z57 s0 sep1)+sepSave2)))))&&(decide ((IntKind.wrap .i64 ((z57 s0 sep1)+sepSave2))≤(s0.length:Int)))) then
 bif ((decide (0≤i10))&&(decide (i10 < a9.length))) then
 bif (((decide (0≤(IntKind.wrap .i64 ((z57 s0 sep1)+(sep1.length:Int)))))&&(decide ((IntKind.wrap .i64 ((z57 s0 sep1)+(sep1.length:Int)))≤(s0.length:Int))))&&(decide ((s0.length:Int)≤(s0.length:Int)))) then
 next (List.drop (IntKind.wrap .i64 ((z57 s0 sep1)+(sep1.length:Int))).toNat (List.take (s0.length:Int).toNat s0)) sep1 sepSave2 n3 (List.set a9 i10.toNat (List.drop ((0:Nat):Int).toNat (List.take (IntKind.wrap .i64 ((z57 s0 sep1)+sepSave2)).toNat s0))) (IntKind.wrap .i64 (i10+1))
 else none
 else none
 else none
 else none
 else
 k0 s0 a9 i10
def qcs (k0:LU→List LU→Int→OA):Nat→LU→LU→Int→Int→List LU→Int→OA
 | 0=>fun _ _ _ _ _ _=>none
 | n+1=>qcz k0 (qcs k0 n) n
def qal (_n:Nat) (s0:LU) (a9:List LU) (i10:Int):OA :=
 bif ((decide (0≤i10))&&(decide (i10 < a9.length))) then
 bif (((decide (0≤((0:Nat):Int)))&&(decide (((0:Nat):Int)≤(IntKind.wrap .i64 (i10+1)))))&&(decide ((IntKind.wrap .i64 (i10+1))≤((List.set a9 i10.toNat s0).length:Int)))) then
 qjL (List.drop ((0:Nat):Int).toNat (List.take (IntKind.wrap .i64 (i10+1)).toNat (List.set a9 i10.toNat s0)))
 else none
 else none
def qbf (s0:LU) (sep1:LU):=(bif (decide ((IntKind.wrap .i64 ((s0.length:Int)+1)) < (IntKind.wrap .i64 ((z142 s0 sep1)+1)))) then (IntKind.wrap .i64 ((s0.length:Int)+1)) else (IntKind.wrap .i64 ((z142 s0 sep1)+1)))
def qbg (s0:LU) (n3:Int):=(bif (decide ((IntKind.wrap .i64 ((s0.length:Int)+1)) < n3)) then (IntKind.wrap .i64 ((s0.length:Int)+1)) else n3)
def qvu (n:Nat) (s0:LU) (sep1:LU) (sepSave2:Int) (n3:Int):OA :=
 bif (n3==(0:Int)) then qjL ([]:List LU) else bif ((sep1.length:Int)==(0:Int)) then bif ((qKP s0 n3)&&true) then qjL (z141 s0 n3) else none else bif (decide (n3 < (0:Int))) then bif ((qlY s0 sep1)&&true) then bif (((decide (0≤(qbf s0 sep1)))&&(decide ((qbf s0 sep1)≤(qbf s0 sep1))))&&(decide ((qbf s0 sep1)≤(room:Int)))) then qcs (qal n) n s0 sep1 sepSave2 (IntKind.wrap .i64 ((qbf s0 sep1) - (1:Int))) (List.replicate (qbf s0 sep1).toNat ([]:LU)) (0:Int) else none else none else bif (((decide (0≤(qbg s0 n3)))&&(decide ((qbg s0 n3)≤(qbg s0 n3))))&&(decide ((qbg s0 n3)≤(room:Int)))) then qcs (qal n) n s0 sep1 sepSave2 (IntKind.wrap .i64 ((qbg s0 n3) - (1:Int))) (List.replicate (qbg s0 n3).toNat ([]:LU)) (0:Int) else none
def qJX (s4:List LU):OA:=some (.dat (.sl (.sl .byte)) s4 none)
def qMm (_n:Nat) (s0:LU) (sep1:LU):OA :=
 bif ((qlZ s0 sep1 (0:Int) (-1:Int))&&true) then
 qJX (z116 s0 sep1 (0:Int) (-1:Int))
 else none
def qob (s2:UInt8):OA:=some (dm s2)
def qCA (_n:Nat) (c0:UInt8):OA :=
 bif (decide ((65:UInt8)≤c0)) then
 bif (decide (c0≤(90:UInt8))) then
 qob (c0 ||| (32:UInt8))
 else
 qob c0
 else
 qob c0
def qJY (s2:LU):OA:=some (db s2 (some (2,5)))
def qgG (k0:LU→OA) (next:LU→Int→Int→OA) (_n:Nat) (out3:LU) (s9:Int) (s10:Int):OA :=
 bif (decide (s10 < s9)) then
 bif ((decide (0≤s10))&&(decide (s10 < out3.length))) then
 bif ((decide (0≤s10))&&(decide (s10 < out3.length))) then
 next (List.set out3 s10.toNat (z118 (out3.getD s10.toNat (0:UInt8)))) s9 (IntKind.wrap .i64 (s10+1))
 else none
 else none
 else
 k0 out3
def qoc (k0:LU→OA):Nat→LU→Int→Int→OA
 | 0=>fun _ _ _=>none
 | n+1=>qgG k0 (qoc k0 n) n
def qjM (_n:Nat) (out3:LU):OA :=
 qJY out3
def qHP (n:Nat) (s0:LU):OA :=
 bif ((qhX s0)&&true) then
 qoc (qjM n) n (z83 s0) ((z83 s0).length:Int) (0:Int)
 else none
def qqs (s2:Int):OA:=some (dc s2)
def qMn (_n:Nat) (s0:LU):OA :=
 bif ((qyR s0)&&true) then
 bif ((z87 s0)==([98]:LU)) then
 qqs (1:Int)
 else
 bif ((z87 s0)==([113]:LU)) then
 qqs (2:Int)
 else
 qqs (0:Int)
 else none
def qn (s2:Int):OA:=some (dc s2)
def qan:=(bits .or .i64 (bits .or .i64 (0:Int) (1:Int)) (656:Int))
def qfI:=(bits .or .i64 (bits .or .i64 (0:Int) (1:Int)) (2:Int))
def qMo (_n:Nat) (c0:UInt8):OA :=
 bif (decide (c0 < (32:UInt8))) then bif (c0==(32:UInt8)) then qn (qfI) else bif (c0==(9:UInt8)) then qn (qfI) else bif (decide ((48:UInt8)≤c0)) then bif (decide (c0≤(57:UInt8))) then qn (bits .or .i64 (bits .or .i64 (0:Int) (1:Int)) (648:Int)) else bif (decide ((65:UInt8)≤c0)) then bif (decide (c0≤(90:UInt8))) then bif (decide (c0≤(90:UInt8))) then qn (qan) else qn (bits .or .i64 (0:Int) (1:Int)) else bif (decide ((97:UInt8)≤c0)) then bif (decide (c0≤(122:UInt8))) then qn (qan) else qn (bits .or .i64 (0:Int) (1:Int)) else qn (bits .or .i64 (0:Int) (1:Int)) else bif (decide ((97:UInt8)≤c0)) then bif (decide (c0≤(122:UInt8))) then qn (qan) else qn (bits .or .i64 (0:Int) (1:Int)) else qn (bits .or .i64 (0:Int) (1:Int)) else bif (decide ((65:UInt8)≤c0)) then bif (decide (c0≤(90:UInt8))) then bif (decide (c0≤(90:UInt8))) then qn (qan) else qn (bits .or .i64 (0:Int) (1:Int)) else bif (decide ((97:UInt8)≤c0)) then bif (decide (c0≤(122:UInt8))) then qn (qan) else qn (bits .or .i64 (0:Int) (1:Int)) else qn (bits .or .i64 (0:Int) (1:Int)) else bif (decide ((97:UInt8)≤c0)) then bif (decide (c0≤(122:UInt8))) then qn (qan) else qn (bits .or .i64 (0:Int) (1:Int)) else qn (bits .or .i64 (0:Int) (1:Int)) else bif (c0==(127:UInt8)) then bif (c0==(32:UInt8)) then qn (qfI) else bif (c0==(9:UInt8)) then qn (qfI) else bif (decide ((48:UInt8)≤c0)) then bif (decide (c0≤(57:UInt8))) then qn (bits .or .i64 (bits .or .i64 (0:Int) (1:Int)) (648:Int)) else bif (decide ((65:UInt8)≤c0)) then bif (decide (c0≤(90:UInt8))) then bif (decide (c0≤(90:UInt8))) then qn (qan) else qn (bits .or .i64 (0:Int) (1:Int)) else bif (decide ((97:UInt8)≤c0)) then bif (decide (c0≤(122:UInt8))) then qn (qan) else qn (bits .or .i64 (0:Int) (1:Int)) else qn (bits .or .i64 (0:Int) (1:Int)) else bif (decide ((97:UInt8)≤c0)) then bif (decide (c0≤(122:UInt8))) then qn (qan) else qn (bits .or .i64 (0:Int) (1:Int)) else qn (bits .or .i64 (0:Int) (1:Int)) else bif (decide ((65:UInt8)≤c0)) then bif (decide (c0≤(90:UInt8))) then bif (decide (c0≤(90:UInt8))) then qn (qan) else qn (bits .or .i64 (0:Int) (1:Int)) else bif (decide ((97:UInt8)≤c0)) then bif (decide (c0≤(122:UInt8))) then qn (qan) else qn (bits .or .i64 (0:Int) (1:Int)) else qn (bits .or .i64 (0:Int) (1:Int)) else bif (decide ((97:UInt8)≤c0)) then bif (decide (c0≤(122:UInt8))) then qn (qan) else qn (bits .or .i64 (0:Int) (1:Int)) else qn (bits .or .i64 (0:Int) (1:Int)) else bif (c0==(32:UInt8)) then qn (bits .or .i64 (0:Int) (2:Int)) else bif (c0==(9:UInt8)) then qn (bits .or .i64 (0:Int) (2:Int)) else bif (decide ((48:UInt8)≤c0)) then bif (decide (c0≤(57:UInt8))) then qn (bits .or .i64 (0:Int) (648:Int)) else bif (decide ((65:UInt8)≤c0)) then bif (decide (c0≤(90:UInt8))) then bif (decide (c0≤(90:UInt8))) then qn (bits .or .i64 (0:Int) (656:Int)) else qn (0:Int) else bif (decide ((97:UInt8)≤c0)) then bif (decide (c0≤(122:UInt8))) then qn (bits .or .i64 (0:Int) (656:Int)) else qn (0:Int) else qn (0:Int) else bif (decide ((97:UInt8)≤c0)) then bif (decide (c0≤(122:UInt8))) then qn (bits .or .i64 (0:Int) (656:Int)) else qn (0:Int) else qn (0:Int) else bif (decide ((65:UInt8)≤c0)) then bif (decide (c0≤(90:UInt8))) then bif (decide (c0≤(90:UInt8))) then qn (bits .or .i64 (0:Int) (656:Int)) else qn (0:Int) else bif (decide ((97:UInt8)≤c0)) then bif (decide (c0≤(122:UInt8))) then qn (bits .or .i64 (0:Int) (656:Int)) else qn (0:Int) else qn (0:Int) else bif (decide ((97:UInt8)≤c0)) then bif (decide (c0≤(122:UInt8))) then qn (bits .or .i64 (0:Int) (656:Int)) else qn (0:Int) else qn (0:Int)
def qCB (s4:Int):OA:=some (dc s4)
def qJZ (_n:Nat) (s0:LU) (c1:UInt8):OA :=
 qCB (z150 s0 c1)
def qCC (s4:Int):OA:=some (dc s4)
def qKa (_n:Nat) (s0:LU) (c1:UInt8):OA :=
 qCC (z145 s0 c1)
def qKb (s4:Bool):OA:=some (dg s4)
def qSO (_n:Nat) (s0:LU) (c1:UInt8):OA :=
 qKb (decide (0≤(z126 s0 c1)))
def qbO (s2:Int):OA:=some (dc s2)
def qcf (c0:UInt8):=(bits .or .i64 (z97 c0) (4:Int))
def qfJ (c0:UInt8):=(z98 ([40,41,60,62,64,44,59,58,92,34,47,91,93,63,61]:LU) c0)
def qcV (c0:UInt8):=(bits .or .i64 (qcf c0) (128:Int))
def qMp (_n:Nat) (c0:UInt8):OA :=
 bif (decide (c0 < (33:UInt8))) then qbO (z97 c0) else bif (decide ((126:UInt8) < c0)) then qbO (z97 c0) else bif (z98 ([33,42,43,45,47]:LU) c0) then bif (z98 ([43,47]:LU) c0) then bif (qfJ c0) then qbO (bits .or .i64 (bits .or .i64 (qcV c0) (512:Int)) (32:Int)) else bif (!(z98 ([42,39,37]:LU) c0)) then qbO (bits .or .i64 (bits .or .i64 (bits .or .i64 (qcV c0) (512:Int)) (64:Int)) (256:Int)) else qbO (bits .or .i64 (bits .or .i64 (qcV c0) (512:Int)) (64:Int)) else bif (qfJ c0) then qbO (bits .or .i64 (qcV c0) (32:Int)) else bif (!(z98 ([42,39,37]:LU) c0)) then qbO (bits .or .i64 (bits .or .i64 (qcV c0) (64:Int)) (256:Int)) else qbO (bits .or .i64 (qcV c0) (64:Int)) else bif (z98 ([43,47]:LU) c0) then bif (qfJ c0) then qbO (bits .or .i64 (bits .or .i64 (qcf c0) (512:Int)) (32:Int)) else bif (!(z98 ([42,39,37]:LU) c0)) then qbO (bits .or .i64 (bits .or .i64 (bits .or .i64 (qcf c0) (512:Int)) (64:Int)) (256:Int)) else qbO (bits .or .i64 (bits .or .i64 (qcf c0) (512:Int)) (64:Int)) else bif (qfJ c0) then qbO (bits .or .i64 (qcf c0) (32:Int)) else bif (!(z98 ([42,39,37]:LU) c0)) then qbO (bits .or .i64 (bits .or .i64 (qcf c0) (64:Int)) (256:Int)) else qbO (bits .or .i64 (qcf c0) (64:Int))
def qKc (s4:Bool):OA:=some (dg s4)
def qSP (_n:Nat) (c0:UInt8) (kinds1:Int):OA :=
 qKc ((bits .and .i64 (z58 c0) kinds1) != (0:Int))
def qCD (s4:Int):OA:=some (dc s4)
def qec (k0:Int→OA) (next:Int→Int→LU→Int→Int→OA) (_n:Nat) (kinds1:Int) (n5:Int) (s8:LU) (s9:Int) (s10:Int):OA :=
 bif (decide (s10 < s9)) then
 bif ((decide (0≤s10))&&(decide (s10 < s8.length))) then
 bif (z36 (s8.getD s10.toNat (0:UInt8)) kinds1) then
 next kinds1 (IntKind.wrap .i64 (n5+1)) s8 s9 (IntKind.wrap .i64 (s10+1))
 else
 next kinds1 n5 s8 s9 (IntKind.wrap .i64 (s10+1))
 else none
 else
 k0 n5
def qfK (k0:Int→OA):Nat→Int→Int→LU→Int→Int→OA
 | 0=>fun _ _ _ _ _=>none
 | n+1=>qec k0 (qfK k0 n) n
def qfL (_n:Nat) (n5:Int):OA :=
 qCD n5
def qvv (n:Nat) (s0:LU) (kinds1:Int):OA :=
 qfK (qfL n) n kinds1 (0:Int) s0 (s0.length:Int) (0:Int)
def qCE (s4:Bool):OA:=some (dg s4)
def qMq (_n:Nat) (s0:LU) (kinds1:Int):OA :=
 bif ((qwr s0 kinds1)&&true) then
 qCE ((z122 s0 kinds1)==(s0.length:Int))
 else none
def qCF (s4:Bool):OA:=some (dg s4)
def qMr (_n:Nat) (s0:LU) (kinds1:Int):OA :=
 bif (decide ((0:Int) < (s0.length:Int))) then
 bif ((qyS s0 kinds1)&&true) then
 qCF (z90 s0 kinds1)
 else none
 else
 qCF false
def qaf (s2:LU×(Int×(LU×Unit))) (s3:Int):OA:=some (.tup [(.dat (.pair (.sl .byte) (.pair (.int .i64) (.pair (.sl .byte) .unit))) s2 none),(dc s3)])
def qA (s0:LU):=((z83 ((z82 s0 ([(63:UInt8)]:LU)).getD (1:Int).toNat ([]:LU))),((z84 ((z82 s0 ([(63:UInt8)]:LU)).getD (2:Int).toNat ([]:LU))),((z83 ((z82 s0 ([(63:UInt8)]:LU)).getD (3:Int).toNat ([]:LU))),())))
def qI:=(([]:LU),((0:Int),(([]:LU),())))
def qod (s0:LU):=( bif ((qA s0).2.1==(0:Int)) then qaf (qI) (3:Int) else bif ((qhV (qA s0).1 (64:Int))&&true) then bif (!(z85 (qA s0).1 (64:Int))) then qaf (qI) (3:Int) else bif ((qhV (qA s0).2.2.1 (4:Int))&&true) then bif (!(z85 (qA s0).2.2.1 (4:Int))) then qaf (qI) (3:Int) else bif (decide ((75:Int) < (s0.length:Int))) then qaf (qI) (12:Int) else qaf (qA s0) (0:Int) else none else none)
def qcg (s0:LU):=(z82 s0 ([(63:UInt8)]:LU))
def qfM (s0:LU):=((qhX ((qcg s0).getD (3:Int).toNat ([]:LU)))&&true)
def qim (s0:LU):=((qJA ((qcg s0).getD (2:Int).toNat ([]:LU)))&&true)
def qcW (s0:LU):=(qcg s0).length
def qMs (_n:Nat) (s0:LU):OA :=
 bif ((qEw s0 ([(63:UInt8)]:LU))&&true) then bif (((qcW s0):Int) != (5:Int)) then qaf (qI) (3:Int) else bif ((decide (0≤(0:Int)))&&(decide ((0:Int) < (qcW s0)))) then bif (((qcg s0).getD (0:Int).toNat ([]:LU)) != ([61]:LU)) then qaf (qI) (3:Int) else bif ((decide (0≤(4:Int)))&&(decide ((4:Int) < (qcW s0)))) then bif (((qcg s0).getD (4:Int).toNat ([]:LU)) != ([61]:LU)) then qaf (qI) (3:Int) else bif ((decide (0≤(1:Int)))&&(decide ((1:Int) < (qcW s0)))) then bif ((decide (0≤(2:Int)))&&(decide ((2:Int) < (qcW s0)))) then bif ((decide (0≤(3:Int)))&&(decide ((3:Int) < (qcW s0)))) then both ( bif ((qhX ((qcg s0).getD (1:Int).toNat ([]:LU)))&&true) then both ( bif (qim s0) then both ( bif (qfM s0) then both (qod s0) (qod s0) else none) ( bif (qfM s0) then bif ((qA s0).2.1==(0:Int)) then qaf (qI) (3:Int) else bif ((qhV (qA s0).1 (64:Int))&&true) then bif (!(z85 (qA s0).1 (64:Int))) then qaf (qI) (3:Int) else bif ((qhV (qA s0).2.2.1 (4:Int))&&true) then bif (!(z85 (qA s0).2.2.1 (4:Int))) then qaf (qI) (3:Int) else bif (decide ((75:Int) < (s0.length:Int))) then qaf (qI) (12:Int) else qaf (qA s0) (0:Int) else none else none else none) else none) ( bif (qim s0) then bif (qfM s0) then bif ((qA s0).2.1==(0:Int)) then qaf (qI) (3:Int) else bif ((qhV (qA s0).1 (64:Int))&&true) then bif (!(z85 (qA s0).1 (64:Int))) then qaf (qI) (3:Int) else bif ((qhV (qA s0).2.2.1 (4:Int))&&true) then bif (!(z85 (qA s0).2.2.1 (4:Int))) then qaf (qI) (3:Int) else bif (decide ((75:Int) < (s0.length:Int))) then qaf (qI) (12:Int) else qaf (qA s0) (0:Int) else none else none else none else none) else none) ( bif ((qhX ((qcg s0).getD (1:Int).toNat ([]:LU)))&&true) then bif (qim s0) then bif (qfM s0) then bif ((qA s0).2.1==(0:Int)) then qaf (qI) (3:Int) else bif ((qhV (qA s0).1 (64:Int))&&true) then bif (!(z85 (qA s0).1 (64:Int))) then qaf (qI) (3:Int) else bif ((qhV (qA s0).2.2.1 (4:Int))&&true) then bif (!(z85 (qA s0).2.2.1 (4:Int))) then qaf (qI) (3:Int) else bif (decide ((75:Int) < (s0.length:Int))) then qaf (qI) (12:Int) else qaf (qA s0) (0:Int) else none else none else none else none else none) else none else none else none else none else none else none
def qeT (s2:List LU):OA:=some (.dat (.sl .str) s2 (some (2,9)))
def qCG (_n:Nat) (charset0:Int):OA :=
 bif (charset0==(1:Int)) then
 qeT ([([117,115,45,97,115,99,105,105]:LU),([97,115,99,105,105]:LU),([97,110,115,105,95,120,51,46,52,45,49,57,54,56]:LU),([105,115,111,54,52,54,45,117,115]:LU)]:List LU)
 else
 bif (charset0==(2:Int)) then
 qeT ([([105,115,111,45,56,56,53,57,45,49]:LU),([105,115,111,95,56,56,53,57,45,49]:LU),([108,97,116,105,110,49]:LU),([108,49]:LU)]:List LU)
 else
 bif (charset0==(3:Int)) then
 qeT ([([105,115,111,45,56,56,53,57,45,49,53]:LU),([105,115,111,95,56,56,53,57,45,49,53]:LU),([108,97,116,105,110,45,57]:LU)]:List LU)
 else
 bif (charset0==(4:Int)) then
 qeT ([([119,105,110,100,111,119,115,45,49,50,53,50]:LU),([99,112,49,50,53,50]:LU)]:List LU)
 else
 bif (charset0==(5:Int)) then
 qeT ([([117,116,102,45,56]:LU),([117,116,102,56]:LU)]:List LU)
 else
 qeT ([]:List LU)
def qKd (s0:List (LU×Int)):OA:=some (.abs (.sl (.pair .str (.int .i64))) (qmB .str (.int .i64)) s0)
def qCH (k2:List (LU×Int)→Int→OA) (next:List (LU×Int)→Int→List LU→Int→Int→OA) (_n:Nat) (m1:List (LU×Int)) (n2:Int) (s11:List LU) (s12:Int) (s13:Int):OA :=
 bif (decide (s13 < s12)) then
 bif ((decide (0≤s13))&&(decide (s13 < s11.length))) then
 next (@putM .str (.int .i64) (s11.getD s13.toNat ([]:LU)) n2 m1) n2 s11 s12 (IntKind.wrap .i64 (s13+1))
 else none
 else
 k2 m1 n2
def qyB (k2:List (LU×Int)→Int→OA):Nat→List (LU×Int)→Int→List LU→Int→Int→OA
 | 0=>fun _ _ _ _ _=>none
 | n+1=>qCH k2 (qyB k2 n) n
def qoe (_k0:List (LU×Int)→OA) (next:List (LU×Int)→Int→OA) (_n:Nat) (m1:List (LU×Int)) (n2:Int):OA :=
 next m1 (IntKind.wrap .i64 (n2+1))
def qsN (k0:List (LU×Int)→OA) (next:List (LU×Int)→Int→OA) (n:Nat) (m1:List (LU×Int)) (n2:Int):OA :=
 bif (decide (n2≤(5:Int))) then
 qyB (qoe k0 next n) n m1 n2 (z117 n2) ((z117 n2).length:Int) (0:Int)
 else
 k0 m1
def qyC (k0:List (LU×Int)→OA):Nat→List (LU×Int)→Int→OA
 | 0=>fun _ _=>none
 | n+1=>qsN k0 (qyC k0 n) n
def qof (_n:Nat) (m1:List (LU×Int)):OA :=
 qKd m1
def qMt (n:Nat):OA :=
 qyC (qof n) n ([]:List (LU×Int)) (1:Int)
def qsO (s4:LU):OA:=some (da s4)
def qvw (k0:LU→OA) (next:LU→UInt8→OA) (_n:Nat) (s0:LU) (c1:UInt8):OA :=
 bif (decide ((0:Int) < (s0.length:Int))) then
 bif ((decide (0≤(0:Int)))&&(decide ((0:Int) < s0.length))) then
 bif ((s0.getD (0:Int).toNat (0:UInt8))==c1) then
 bif (((decide (0≤(1:Int)))&&(decide ((1:Int)≤(s0.length:Int))))&&(decide ((s0.length:Int)≤(s0.length:Int)))) then
 next (List.drop (1:Int).toNat (List.take (s0.length:Int).toNat s0)) c1
 else none
 else
 k0 s0
 else none
 else
 k0 s0
def qlE (k0:LU→OA):Nat→LU→UInt8→OA
 | 0=>fun _ _=>none
 | n+1=>qvw k0 (qlE k0 n) n
def qin (_n:Nat) (s0:LU):OA :=
 bif ((s0.length:Int)==(0:Int)) then
 qsO ([]:LU)
 else
 qsO s0
def qCI (n:Nat) (s0:LU) (c1:UInt8):OA :=
 qlE (qin n) n s0 c1
def qjN (as2:List Bool) (ok3:Bool):OA:=some (.tup [(.dat (.arr 256 .bool) as2 none),(dg ok3)])
def qed (ret:List Bool→Bool→OA) (k0:List Bool→OA) (next:LU→List Bool→Int→OA) (_n:Nat) (chars0:LU) (as2:List Bool) (i4:Int):OA :=
 bif (decide (i4 < (chars0.length:Int))) then
 bif ((decide (0≤i4))&&(decide (i4 < chars0.length))) then
 bif (decide ((128:UInt8)≤(chars0.getD i4.toNat (0:UInt8)))) then
 ret as2 false
 else
 bif ((decide (0≤((UInt8.toNat (chars0.getD i4.toNat (0:UInt8)):Nat):Int)))&&(decide (((UInt8.toNat (chars0.getD i4.toNat (0:UInt8)):Nat):Int) < (256:Nat)))) then
 next chars0 (List.set as2 ((UInt8.toNat (chars0.getD i4.toNat (0:UInt8)):Nat):Int).toNat true) (IntKind.wrap .i64 (i4+1))
 else none
 else none
 else
 k0 as2
def qfN (ret:List Bool→Bool→OA) (k0:List Bool→OA):Nat→LU→List Bool→Int→OA
 | 0=>fun _ _ _=>none
 | n+1=>qed ret k0 (qfN ret k0 n) n
def qfO (_n:Nat) (as2:List Bool):OA :=
 qjN as2 true
def qCJ (n:Nat) (chars0:LU):OA :=
 qfN qjN (qfO n) n chars0 (List.replicate 256 false) (0:Int)
def qCK (s4:Bool):OA:=some (dg s4)
def qCL (_n:Nat) (as0:List Bool) (c1:UInt8):OA :=
 bif ((decide (0≤((UInt8.toNat c1:Nat):Int)))&&(decide (((UInt8.toNat c1:Nat):Int) < (256:Nat)))) then
 qCK (as0.getD ((UInt8.toNat c1:Nat):Int).toNat false)
 else none
def qsP (s4:LU):OA:=some (da s4)
def qio (k0:LU→OA) (next:LU→List Bool→OA) (_n:Nat) (s0:LU) (as1:List Bool):OA :=
 bif (decide ((0:Int) < (s0.length:Int))) then
 bif ((decide (0≤(0:Int)))&&(decide ((0:Int) < s0.length))) then
 bif (!(z153 as1 (s0.getD (0:Int).toNat (0:UInt8)))) then
 k0 s0
 else
 bif (((decide (0≤(1:Int)))&&(decide ((1:Int)≤(s0.length:Int))))&&(decide ((s0.length:Int)≤(s0.length:Int)))) then
 next (List.drop (1:Int).toNat (List.take (s0.length:Int).toNat s0)) as1
 else none
 else none
 else
 k0 s0
def qhB (k0:LU→OA):Nat→LU→List Bool→OA
 | 0=>fun _ _=>none
 | n+1=>qio k0 (qhB k0 n) n
def qfP (_n:Nat) (s0:LU):OA :=
 bif ((s0.length:Int)==(0:Int)) then
 qsP ([]:LU)
 else
 qsP s0
def qvx (n:Nat) (s0:LU) (as1:List Bool):OA :=
 qhB (qfP n) n s0 as1
def qCM (s4:LU):OA:=some (da s4)
def qaT (s0:LU):=(IntKind.wrap .i64 ((s0.length:Int) - (1:Int)))
def qvy (k0:LU→OA) (next:LU→UInt8→OA) (_n:Nat) (s0:LU) (c1:UInt8):OA :=
 bif (decide ((0:Int) < (s0.length:Int))) then bif ((decide (0≤(qaT s0)))&&(decide ((qaT s0) < s0.length))) then bif ((s0.getD (qaT s0).toNat (0:UInt8))==c1) then bif (((decide (0≤((0:Nat):Int)))&&(decide (((0:Nat):Int)≤(qaT s0))))&&(decide ((qaT s0)≤(s0.length:Int)))) then next (List.drop ((0:Nat):Int).toNat (List.take (qaT s0).toNat s0)) c1 else none else k0 s0 else none else k0 s0
def qlF (k0:LU→OA):Nat→LU→UInt8→OA
 | 0=>fun _ _=>none
 | n+1=>qvy k0 (qlF k0 n) n
def qip (_n:Nat) (s0:LU):OA :=
 qCM s0
def qCN (n:Nat) (s0:LU) (c1:UInt8):OA :=
 qlF (qip n) n s0 c1
def qCO (s4:LU):OA:=some (da s4)
def qaw (s0:LU):=(IntKind.wrap .i64 ((s0.length:Int) - (1:Int)))
def qiq (k0:LU→OA) (next:LU→List Bool→OA) (_n:Nat) (s0:LU) (as1:List Bool):OA :=
 bif (decide ((0:Int) < (s0.length:Int))) then bif ((decide (0≤(qaw s0)))&&(decide ((qaw s0) < s0.length))) then bif (!(z153 as1 (s0.getD (qaw s0).toNat (0:UInt8)))) then k0 s0 else bif (((decide (0≤((0:Nat):Int)))&&(decide (((0:Nat):Int)≤(qaw s0))))&&(decide ((qaw s0)≤(s0.length:Int)))) then next (List.drop ((0:Nat):Int).toNat (List.take (qaw s0).toNat s0)) as1 else none else none else k0 s0
def qhC (k0:LU→OA):Nat→LU→List Bool→OA
 | 0=>fun _ _=>none
 | n+1=>qiq k0 (qhC k0 n) n
def qir (_n:Nat) (s0:LU):OA :=
 qCO s0
def qvz (n:Nat) (s0:LU) (as1:List Bool):OA :=
 qhC (qir n) n s0 as1
def qdD (s4:LU):OA:=some (da s4)
def qbP (cutset1:LU):=(cutset1.getD (0:Int).toNat (0:UInt8))
def qfQ (cutset1:LU):=((decide (0≤(0:Int)))&&(decide ((0:Int) < cutset1.length)))
def qCP (_n:Nat) (s0:LU) (cutset1:LU):OA :=
 bif ((s0.length:Int)==(0:Int)) then qdD ([]:LU) else bif (cutset1==([]:LU)) then qdD s0 else bif ((cutset1.length:Int)==(1:Int)) then bif (qfQ cutset1) then bif (decide ((qbP cutset1) < (128:UInt8))) then bif (qfQ cutset1) then bif (qfQ cutset1) then bif ((qEB s0 (qbP cutset1))&&true) then bif ((qwq (z156 s0 (qbP cutset1)) (qbP cutset1))&&true) then qdD (z146 (z156 s0 (qbP cutset1)) (qbP cutset1)) else none else none else none else none else bif ((qcn cutset1)&&true) then bif ((z147 cutset1).2) then bif ((qrf s0 ((z147 cutset1).1))&&true) then bif ((qhL (z157 s0 ((z147 cutset1).1)) ((z147 cutset1).1))&&true) then qdD (z148 (z157 s0 ((z147 cutset1).1)) ((z147 cutset1).1)) else none else none else bif ((qEC s0 cutset1)&&true) then bif ((qre (z158 s0 cutset1) cutset1)&&true) then qdD (z149 (z158 s0 cutset1) cutset1) else none else none else none else none else bif ((qcn cutset1)&&true) then bif ((z147 cutset1).2) then bif ((qrf s0 ((z147 cutset1).1))&&true) then bif ((qhL (z157 s0 ((z147 cutset1).1)) ((z147 cutset1).1))&&true) then qdD (z148 (z157 s0 ((z147 cutset1).1)) ((z147 cutset1).1)) else none else none else bif ((qEC s0 cutset1)&&true) then bif ((qre (z158 s0 cutset1) cutset1)&&true) then qdD (z149 (z158 s0 cutset1) cutset1) else none else none else none
def qCQ (s2:LU):OA:=some (db s2 (some (2,5)))
def qCR (_n:Nat) (s0:LU):OA :=
 bif ((qgl s0 ([32,9]:LU))&&true) then
 bif ((qhX (z129 s0 ([32,9]:LU)))&&true) then
 qCQ (z83 (z129 s0 ([32,9]:LU)))
 else none
 else none
def qCS (s2:LU):OA:=some (db s2 (some (2,5)))
def qMu (_n:Nat) (s0:LU):OA :=
 bif (decide (0≤(z91 s0 (42:UInt8)))) then
 bif (((decide (0≤((0:Nat):Int)))&&(decide (((0:Nat):Int)≤(z91 s0 (42:UInt8)))))&&(decide ((z91 s0 (42:UInt8))≤(s0.length:Int)))) then
 bif ((qmb (List.drop ((0:Nat):Int).toNat (List.take (z91 s0 (42:UInt8)).toNat s0)))&&true) then
 qCS (z119 (List.drop ((0:Nat):Int).toNat (List.take (z91 s0 (42:UInt8)).toNat s0)))
 else none
 else none
 else
 bif ((qmb s0)&&true) then
 qCS (z119 s0)
 else none
def qCT (s2:Int) (s3:Int):OA:=some (.tup [(dc s2),(dc s3)])
def qMv (_n:Nat) (s0:LU):OA :=
 bif ((qFv s0)&&true) then
 bif ((qyR (z88 s0))&&true) then
 bif (!(Option.isSome (@findM .str (.int .i64) (z87 (z88 s0)) z86))) then
 qCT (0:Int) (10:Int)
 else
 qCT (Option.getD (@findM .str (.int .i64) (z87 (z88 s0)) z86) (0:Int)) (0:Int)
 else none
 else none
def qCU (s2:Int):OA:=some (dc s2)
def qMw (_n:Nat) (w0:LU×(Int×(LU×Unit))):OA :=
 bif ((qwY w0.1)&&true) then
 bif (((z53 w0.1).2) != (0:Int)) then
 qCU (2:Int)
 else
 qCU ((z53 w0.1).1)
 else none
def qCV (s2:Int):OA:=some (dc s2)
def qMx (_n:Nat) (s0:LU):OA :=
 bif ((qlj s0)&&true) then
 bif (((z51 s0).2) != (0:Int)) then
 qCV (0:Int)
 else
 bif ((qxd ((z51 s0).1))&&true) then
 qCV (z52 ((z51 s0).1))
 else none
 else none
def qKe (s9:LI):OA:=some (.tup [(.tup []),.bad,(.pbox (.osl 3 (.int .i64)) s9 none)])
def qMy (_n:Nat) (w0:LU) (x1:LI):OA :=
 bif ((qFH w0)&&true) then
 bif (decide (x1.length+List.length ([(z31 w0)]:LI)≤room)) then
 qKe (x1++([(z31 w0)]:LI))
 else none
 else none
def qsQ (s4:Bool):OA:=some (dg s4)
def qCW (_n:Nat) (s0:LU) (suffix1:LU):OA :=
 bif (decide ((suffix1.length:Int)≤(s0.length:Int))) then
 bif (((decide (0≤(IntKind.wrap .i64 ((s0.length:Int) - (suffix1.length:Int)))))&&(decide ((IntKind.wrap .i64 ((s0.length:Int) - (suffix1.length:Int)))≤(s0.length:Int))))&&(decide ((s0.length:Int)≤(s0.length:Int)))) then
 qsQ (z93 (List.drop (IntKind.wrap .i64 ((s0.length:Int) - (suffix1.length:Int))).toNat (List.take (s0.length:Int).toNat s0)) suffix1)
 else none
 else
 qsQ false
def qsR (s4:LU):OA:=some (da s4)
def qCX (_n:Nat) (s0:LU) (suffix1:LU):OA :=
 bif ((qup s0 suffix1)&&true) then
 bif (z166 s0 suffix1) then
 bif (((decide (0≤((0:Nat):Int)))&&(decide (((0:Nat):Int)≤(IntKind.wrap .i64 ((s0.length:Int) - (suffix1.length:Int))))))&&(decide ((IntKind.wrap .i64 ((s0.length:Int) - (suffix1.length:Int)))≤(s0.length:Int)))) then
 qsR (List.drop ((0:Nat):Int).toNat (List.take (IntKind.wrap .i64 ((s0.length:Int) - (suffix1.length:Int))).toNat s0))
 else none
 else
 qsR s0
 else none
def qsS (s2:LU):OA:=some (da s2)
def qvA (k0:LU→OA) (next:LU→Int→OA) (_n:Nat) (s0:LU) (s3:Int):OA :=
 bif (decide (s3 < (2:Int))) then
 bif ((qjj s0 ([(61:UInt8)]:LU))&&true) then
 next (z143 s0 ([(61:UInt8)]:LU)) (IntKind.wrap .i64 (s3+1))
 else none
 else
 k0 s0
def qlG (k0:LU→OA):Nat→LU→Int→OA
 | 0=>fun _ _=>none
 | n+1=>qvA k0 (qlG k0 n) n
def qis (_n:Nat) (s0:LU):OA :=
 qsS s0
def qvB (n:Nat) (s0:LU):OA :=
 qlG (qis n) n s0 (0:Int)
def qsT (s2:Int) (s3:Bool):OA:=some (.tup [(dc s2),(dg s3)])
def qjO (c0:UInt8):=(z126 ([65,66,67,68,69,70,71,72,73,74,75,76,77,78,79,80,81,82,83,84,85,86,87,88,89,90,97,98,99,100,101,102,103,104,105,106,107,108,109,110,111,112,113,114,115,116,117,118,119,120,121,122,48,49,50,51,52,53,54,55,56,57,43,47]:LU) c0)
def qKf (_n:Nat) (c0:UInt8):OA :=
 qsT (bif (decide ((0:Int) > (qjO c0))) then (0:Int) else (qjO c0)) (decide (0≤(qjO c0)))
def qch (s2:LU) (s3:Int):OA:=some (.tup [(da s2),(dc s3)])
def qbv (held5:Int) (s12:LU) (s14:Int):=(bits .or .i64 (IntKind.wrap .i64 (held5*2 ^ (min (6:Int).toNat (IntKind.bits .i64)))) ((z121 (s12.getD s14.toNat (0:UInt8))).1))
def qaz (many6:Int):=(IntKind.wrap .i64 ((IntKind.wrap .i64 (many6+(6:Int))) - (8:Int)))
def qgH (ret:LU→Int→OA) (k0:LU→LU→Int→OA) (next:LU→LU→Int→Int→LU→Int→Int→OA) (_n:Nat) (s0:LU) (out4:LU) (held5:Int) (many6:Int) (s12:LU) (s13:Int) (s14:Int):OA :=
 bif (decide (s14 < s13)) then bif ((decide (0≤s14))&&(decide (s14 < s12.length))) then bif (!((z121 (s12.getD s14.toNat (0:UInt8))).2)) then ret ([]:LU) (3:Int) else bif (decide ((8:Int)≤(IntKind.wrap .i64 (many6+(6:Int))))) then bif (decide (0≤(qaz many6))) then bif (decide (out4.length+List.length ([(UInt8.ofNat (IntKind.wrap .u8 (Int.fdiv (qbv held5 s12 s14) (2 ^ (min (qaz many6).toNat (IntKind.bits .i64))))).toNat)]:LU)≤room)) then bif (decide (0≤(qaz many6))) then next s0 (out4++([(UInt8.ofNat (IntKind.wrap .u8 (Int.fdiv (qbv held5 s12 s14) (2 ^ (min (qaz many6).toNat (IntKind.bits .i64))))).toNat)]:LU)) (bits .and .i64 (qbv held5 s12 s14) (IntKind.wrap .i64 ((IntKind.wrap .i64 ((1:Int)*2 ^ (min (qaz many6).toNat (IntKind.bits .i64)))) - (1:Int)))) (qaz many6) s12 s13 (IntKind.wrap .i64 (s14+1)) else none else none else none else next s0 out4 (qbv held5 s12 s14) (IntKind.wrap .i64 (many6+(6:Int))) s12 s13 (IntKind.wrap .i64 (s14+1)) else none else k0 s0 out4 held5
def qle (ret:LU→Int→OA) (k0:LU→LU→Int→OA):Nat→LU→LU→Int→Int→LU→Int→Int→OA
 | 0=>fun _ _ _ _ _ _ _=>none
 | n+1=>qgH ret k0 (qle ret k0 n) n
def qcX (_n:Nat) (s0:LU) (out4:LU) (held5:Int):OA :=
 bif ((Int.tmod (s0.length:Int) (4:Int)) != (0:Int)) then
 qch ([]:LU) (4:Int)
 else
 bif (held5 != (0:Int)) then
 qch ([]:LU) (3:Int)
 else
 qch out4 (0:Int)
def qHQ (n:Nat) (s0:LU):OA :=
 bif ((quk s0)&&true) then
 qle qch (qcX n) n s0 ([]:LU) (0:Int) (0:Int) (z120 s0) ((z120 s0).length:Int) (0:Int)
 else none
def qKg (s2:Bool):OA:=some (dg s2)
def qMz (_n:Nat) (s0:LU):OA :=
 bif ((qFx s0)&&true) then
 qKg (((z89 s0).2)==(0:Int))
 else none
def qjP (s2:Int) (s3:Bool):OA:=some (.tup [(dc s2),(dg s3)])
def qCY (_n:Nat) (c0:UInt8):OA :=
 bif (z36 (z118 c0) (8:Int)) then
 qjP (IntKind.wrap .i64 ((UInt8.toNat ((z118 c0) - (48:UInt8)):Nat):Int)) true
 else
 bif (decide ((97:UInt8)≤(z118 c0))) then
 bif (decide ((z118 c0)≤(102:UInt8))) then
 qjP (IntKind.wrap .i64 ((IntKind.wrap .i64 ((UInt8.toNat ((z118 c0) - (97:UInt8)):Nat):Int))+(10:Int))) true
 else
 qjP (0:Int) false
 else
 qjP (0:Int) false
def qog (s4:UInt8) (s5:Bool):OA:=some (.tup [(dm s4),(dg s5)])
def qCZ (_n:Nat) (a0:UInt8) (b1:UInt8):OA :=
 bif (!((z175 a0).2)) then
 qog (0:UInt8) false
 else
 bif (!((z175 b1).2)) then
 qog (0:UInt8) false
 else
 qog (UInt8.ofNat (IntKind.wrap .u8 (bits .or .i64 (IntKind.wrap .i64 (((z175 a0).1)*2 ^ (min (4:Int).toNat (IntKind.bits .i64)))) ((z175 b1).1))).toNat) true
def qjQ (s6:UInt8) (s7:Bool):OA:=some (.tup [(dm s6),(dg s7)])
def qjR (s0:LU) (at1:Int):=(z167 (s0.getD (IntKind.wrap .i64 (at1+1)).toNat (0:UInt8)) (s0.getD (IntKind.wrap .i64 (at1+(2:Int))).toNat (0:UInt8)))
def qDa (_n:Nat) (s0:LU) (at1:Int) (sign2:UInt8):OA :=
 bif (decide (at1 < (0:Int))) then qjQ (0:UInt8) false else bif (decide ((IntKind.wrap .i64 ((s0.length:Int) - (3:Int))) < at1)) then qjQ (0:UInt8) false else bif ((decide (0≤at1))&&(decide (at1 < s0.length))) then bif ((s0.getD at1.toNat (0:UInt8)) != sign2) then qjQ (0:UInt8) false else bif ((decide (0≤(IntKind.wrap .i64 (at1+1))))&&(decide ((IntKind.wrap .i64 (at1+1)) < s0.length))) then bif ((decide (0≤(IntKind.wrap .i64 (at1+(2:Int)))))&&(decide ((IntKind.wrap .i64 (at1+(2:Int))) < s0.length))) then qjQ ((qjR s0 at1).1) ((qjR s0 at1).2) else none else none else none
def qjS (s2:LU) (s3:Int):OA:=some (.tup [(da s2),(dc s3)])
def qax (s0:LU) (at6:Int):=(s0.getD at6.toNat (0:UInt8))
def qit (k0:LU→Int→OA) (next:LU→LU→Int→Int→OA) (_n:Nat) (s0:LU) (out4:LU) (strange5:Int) (at6:Int):OA :=
 bif (decide (at6 < (s0.length:Int))) then bif ((decide (0≤at6))&&(decide (at6 < s0.length))) then bif ((qax s0 at6)==(95:UInt8)) then bif (decide (out4.length+List.length ([(32:UInt8)]:LU)≤room)) then next s0 (out4++([(32:UInt8)]:LU)) strange5 (IntKind.wrap .i64 (at6+1)) else none else bif ((qax s0 at6)==(61:UInt8)) then bif ((quf s0 at6 (61:UInt8))&&true) then bif ((z144 s0 at6 (61:UInt8)).2) then bif (decide (out4.length+List.length ([((z144 s0 at6 (61:UInt8)).1)]:LU)≤room)) then next s0 (out4++([((z144 s0 at6 (61:UInt8)).1)]:LU)) strange5 (IntKind.wrap .i64 (at6+(3:Int))) else none else bif (decide (out4.length+List.length ([(qax s0 at6)]:LU)≤room)) then next s0 (out4++([(qax s0 at6)]:LU)) (IntKind.wrap .i64 (strange5+1)) (IntKind.wrap .i64 (at6+1)) else none else none else bif (decide (out4.length+List.length ([(qax s0 at6)]:LU)≤room)) then next s0 (out4++([(qax s0 at6)]:LU)) strange5 (IntKind.wrap .i64 (at6+1)) else none else none else k0 out4 strange5
def qjT (k0:LU→Int→OA):Nat→LU→LU→Int→Int→OA
 | 0=>fun _ _ _ _=>none
 | n+1=>qit k0 (qjT k0 n) n
def qfR (_n:Nat) (out4:LU) (strange5:Int):OA :=
 qjS out4 strange5
def qDb (n:Nat) (s0:LU):OA :=
 qjT (qfR n) n s0 ([]:LU) (0:Int) (0:Int)
def qKh (s2:Int):OA:=some (dc s2)
def qMA (_n:Nat) (s0:LU):OA :=
 bif ((qly s0)&&true) then
 qKh ((z124 s0).2)
 else none
def qqt (s2:Int):OA:=some (dc s2)
def qMB (_n:Nat) (s0:LU):OA :=
 bif ((qyS s0 (4:Int))&&true) then
 bif (!(z90 s0 (4:Int))) then
 qqt (3:Int)
 else
 bif (decide (0≤(z91 s0 (63:UInt8)))) then
 qqt (3:Int)
 else
 bif ((qFC s0)&&true) then
 bif (decide ((0:Int) < (z92 s0))) then
 qqt (3:Int)
 else
 qqt (0:Int)
 else none
 else none
def qlH (s2:Bool):OA:=some (dg s2)
def qMC (_n:Nat) (s0:LU):OA :=
 bif ((qlj s0)&&true) then
 bif (((z51 s0).2) != (0:Int)) then
 qlH false
 else
 bif ((qwY ((z51 s0).1).1)&&true) then
 bif (((z51 s0).1).2.1==(1:Int)) then
 bif (((z53 ((z51 s0).1).1).2)==(0:Int)) then
 bif ((qFz ((z51 s0).1).2.2.1)&&true) then
 qlH (z54 ((z51 s0).1).2.2.1)
 else none
 else
 qlH false
 else
 bif (((z53 ((z51 s0).1).1).2)==(0:Int)) then
 bif ((qFD ((z51 s0).1).2.2.1)&&true) then
 qlH ((z55 ((z51 s0).1).2.2.1)==(0:Int))
 else none
 else
 qlH false
 else none
 else none
def qDc (s9:Int):OA:=some (.tup [(.tup []),.bad,(.pbox (.leaf (.int .i64)) s9 none)])
def qMD (_n:Nat) (w0:LU) (x1:Int):OA :=
 bif ((qFF w0)&&true) then
 bif (!(z33 w0)) then
 qDc (IntKind.wrap .i64 (x1+1))
 else
 qDc x1
 else none
def qdE (s4:LU):OA:=some (da s4)
def qDd (_n:Nat) (s0:LU) (cutset1:LU):OA :=
 bif ((s0.length:Int)==(0:Int)) then
 qdE ([]:LU)
 else
 bif (cutset1==([]:LU)) then
 qdE s0
 else
 bif ((cutset1.length:Int)==(1:Int)) then
 bif ((decide (0≤(0:Int)))&&(decide ((0:Int) < cutset1.length))) then
 bif (decide ((cutset1.getD (0:Int).toNat (0:UInt8)) < (128:UInt8))) then
 bif ((decide (0≤(0:Int)))&&(decide ((0:Int) < cutset1.length))) then
 bif ((qwq s0 (cutset1.getD (0:Int).toNat (0:UInt8)))&&true) then
 qdE (z146 s0 (cutset1.getD (0:Int).toNat (0:UInt8)))
 else none
 else none
 else
 bif ((qcn cutset1)&&true) then
 bif ((z147 cutset1).2) then
 bif ((qhL s0 ((z147 cutset1).1))&&true) then
 qdE (z148 s0 ((z147 cutset1).1))
 else none
 else
 bif ((qre s0 cutset1)&&true) then
 qdE (z149 s0 cutset1)
 else none
 else none
 else none
 else
 bif ((qcn cutset1)&&true) then
 bif ((z147 cutset1).2) then
 bif ((qhL s0 ((z147 cutset1).1))&&true) then
 qdE (z148 s0 ((z147 cutset1).1))
 else none
 else
 bif ((qre s0 cutset1)&&true) then
 qdE (z149 s0 cutset1)
 else none
 else none
def qKi (s2:Int):OA:=some (dc s2)
def qME (_n:Nat) (s0:LU):OA :=
 bif ((qqW s0 ([32,9,13,10]:LU))&&true) then
 qKi (IntKind.wrap .i64 ((s0.length:Int) - ((z127 s0 ([32,9,13,10]:LU)).length:Int)))
 else none
def qDe (s2:Bool):OA:=some (dg s2)
def qKj (_n:Nat) (bufLen0:Int):OA :=
 qDe (decide ((8:Int) < bufLen0))
def qL (s4:Int):OA:=some (dc s4)
def qee (m0:Int) (ret:Int→OA) (k0:OA) (next:LU→Nat→OA) (_n:Nat) (s28:LU) (s28p:Nat):OA :=
 bif (decide (s28p < s28.length)) then
 bif (decide (s28p < s28.length)) then
 bif ((decL s28 s28p).1==(65533:Int)) then
 ret (0:Int)
 else
 next s28 (bif (decide (s28p < s28.length)) then s28p+(decL s28 s28p).2 else s28p)
 else none
 else
 k0
def qfS (m0:Int) (ret:Int→OA) (k0:OA):Nat→LU→Nat→OA
 | 0=>fun _ _=>none
 | n+1=>(qee m0) ret k0 ((qfS m0) ret k0 n) n
def qiu (m0:Int) (_n:Nat):OA :=
 qL (-1:Int)
def qcA (m0:Int) (ret:Int→OA) (k2:OA) (next:List Bool→LU→Int→Int→OA) (_n:Nat) (as7:List Bool) (s60:LU) (s61:Int) (s62:Int):OA :=
 bif (decide (s62 < s61)) then
 bif ((decide (0≤s62))&&(decide (s62 < s60.length))) then
 bif (z153 as7 (s60.getD s62.toNat (0:UInt8))) then
 ret s62
 else
 next as7 s60 s61 (IntKind.wrap .i64 (s62+1))
 else none
 else
 k2
def qcY (m0:Int) (ret:Int→OA) (k2:OA):Nat→List Bool→LU→Int→Int→OA
 | 0=>fun _ _ _ _=>none
 | n+1=>(qcA m0) ret k2 ((qcY m0) ret k2 n) n
def qdF (m0:Int) (_n:Nat):OA :=
 qL (-1:Int)
def qcB (m0:Int) (ret:Int→OA) (k6:LU→LU→Int→Int→OA) (next:LU→LU→Int→Int→Int→LU→Nat→OA) (_n:Nat) (s0:LU) (chars1:LU) (width11:Int) (i12:Int) (r13:Int) (s121:LU) (s121p:Nat):OA :=
 bif (decide (s121p < s121.length)) then
 bif (decide (s121p < s121.length)) then
 bif (r13==(decL s121 s121p).1) then
 ret i12
 else
 next s0 chars1 width11 i12 r13 s121 (bif (decide (s121p < s121.length)) then s121p+(decL s121 s121p).2 else s121p)
 else none
 else
 k6 s0 chars1 width11 i12
def qbQ (m0:Int) (ret:Int→OA) (k6:LU→LU→Int→Int→OA):Nat→LU→LU→Int→Int→Int→LU→Nat→OA
 | 0=>fun _ _ _ _ _ _ _=>none
 | n+1=>(qcB m0) ret k6 ((qbQ m0) ret k6 n) n
def qcC (m0:Int) (_ret:Int→OA) (_k4:OA) (next:LU→LU→Int→OA) (_n:Nat) (s0:LU) (chars1:LU) (width11:Int) (i12:Int):OA :=
 next s0 chars1 (IntKind.wrap .i64 (i12+width11))
def qy (s0:LU) (i12:Int):=(z154 (List.drop i12.toNat (List.take (s0.length:Int).toNat s0)))
def qdG (m0:Int) (ret:Int→OA) (k4:OA) (next:LU→LU→Int→OA) (n:Nat) (s0:LU) (chars1:LU) (i12:Int):OA :=
 bif (decide (i12 < (s0.length:Int))) then bif ((decide (0≤i12))&&(decide (i12 < s0.length))) then bif (decide ((IntKind.wrap .i32 ((UInt8.toNat (s0.getD i12.toNat (0:UInt8)):Nat):Int)) < (128:Int))) then bif ((decide (0≤i12))&&(decide (i12 < s0.length))) then bif (decide (0≤(z150 chars1 (s0.getD i12.toNat (0:UInt8))))) then ret i12 else next s0 chars1 (IntKind.wrap .i64 (i12+1)) else none else bif (((decide (0≤i12))&&(decide (i12≤(s0.length:Int))))&&(decide ((s0.length:Int)≤(s0.length:Int)))) then bif ((qrc (List.drop i12.toNat (List.take (s0.length:Int).toNat s0)))&&true) then bif (((qy s0 i12).1) != (65533:Int)) then bif ((chars1.length:Int)==((qy s0 i12).2)) then bif (chars1==(Utf8.encode ((qy s0 i12).1)).data.toList) then ret i12 else next s0 chars1 (IntKind.wrap .i64 (i12+((qy s0 i12).2))) else bif (decide (((qy s0 i12).2)≤m0)) then bif ((qrb m0 chars1 (Utf8.encode ((qy s0 i12).1)).data.toList)&&true) then bif (decide (0≤(z155 chars1 (Utf8.encode ((qy s0 i12).1)).data.toList))) then ret i12 else next s0 chars1 (IntKind.wrap .i64 (i12+((qy s0 i12).2))) else none else (qbQ m0) ret ((qcC m0) ret k4 next n) n s0 chars1 ((qy s0 i12).2) i12 ((qy s0 i12).1) chars1 0 else (qbQ m0) ret ((qcC m0) ret k4 next n) n s0 chars1 ((qy s0 i12).2) i12 ((qy s0 i12).1) chars1 0 else none else none else none else k4
def qbR (m0:Int) (ret:Int→OA) (k4:OA):Nat→LU→LU→Int→OA
 | 0=>fun _ _ _=>none
 | n+1=>(qdG m0) ret k4 ((qbR m0) ret k4 n) n
def qcD (m0:Int) (_n:Nat):OA :=
 qL (-1:Int)
def qdH (chars1:LU):=(IntKind.wrap .i32 ((UInt8.toNat (chars1.getD (0:Int).toNat (0:UInt8)):Nat):Int))
def qvC (m0:Int) (n:Nat) (s0:LU) (chars1:LU):OA :=
 bif (chars1==([]:LU)) then qL (-1:Int) else bif ((s0.length:Int)==(1:Int)) then bif ((decide (0≤(0:Int)))&&(decide ((0:Int) < s0.length))) then bif (decide ((128:Int)≤(IntKind.wrap .i32 ((UInt8.toNat (s0.getD (0:Int).toNat (0:UInt8)):Nat):Int)))) then (qfS m0) qL ((qiu m0) n) n chars1 0 else bif ((decide (0≤(0:Int)))&&(decide ((0:Int) < s0.length))) then bif (decide (0≤(z150 chars1 (s0.getD (0:Int).toNat (0:UInt8))))) then qL (0:Int) else qL (-1:Int) else none else none else bif ((chars1.length:Int)==(1:Int)) then bif ((decide (0≤(0:Int)))&&(decide ((0:Int) < chars1.length))) then bif (decide ((128:Int)≤(qdH chars1))) then bif ((qEA s0 (65533:Int))&&true) then qL (z151 s0 (65533:Int)) else none else bif ((qEA s0 (qdH chars1))&&true) then qL (z151 s0 (qdH chars1)) else none else none else bif (z152 (s0.length:Int)) then bif ((qcn chars1)&&true) then bif ((z147 chars1).2) then (qcY m0) qL ((qdF m0) n) n ((z147 chars1).1) s0 (s0.length:Int) (0:Int) else (qbR m0) qL ((qcD m0) n) n s0 chars1 (0:Int) else none else (qbR m0) qL ((qcD m0) n) n s0 chars1 (0:Int)
def qsU (s2:Int):OA:=some (dc s2)
def qDf (_n:Nat) (s0:LU):OA :=
 bif ((qma s0 ([32,9,13,10]:LU))&&true) then
 bif (decide ((z128 s0 ([32,9,13,10]:LU)) < (0:Int))) then
 qsU (s0.length:Int)
 else
 qsU (z128 s0 ([32,9,13,10]:LU))
 else none
def qDg (s2:Bool):OA:=some (dg s2)
def qDh (_n:Nat) (s0:LU):OA :=
 bif ((qlj s0)&&true) then
 qDg (((z51 s0).2)==(0:Int))
 else none
def qgI (s2:Int):OA:=some (dc s2)
def qDi (_n:Nat) (run0:LU):OA :=
 bif (decide ((0:Int) < (run0.length:Int))) then
 bif ((qgl run0 ([32,9,13,10]:LU))&&true) then
 bif (((z129 run0 ([32,9,13,10]:LU)).length:Int)==(0:Int)) then
 qgI (1:Int)
 else
 bif ((qqY run0)&&true) then
 bif (z130 run0) then
 qgI (3:Int)
 else
 qgI (2:Int)
 else none
 else none
 else
 bif ((qqY run0)&&true) then
 bif (z130 run0) then
 qgI (3:Int)
 else
 qgI (2:Int)
 else none
def qKk (s2:List (Int×(LU×Unit))):OA:=some (.dat (.sl (.pair (.int .i64) (.pair (.sl .byte) .unit))) s2 (some (2,41)))
def qaA (s0:LU):=(bif (decide ((z100 s0) > (z99 s0))) then (z100 s0) else (z99 s0))
def qbw (s0:LU):=(List.drop ((0:Nat):Int).toNat (List.take (qaA s0).toNat s0))
def qef (s0:LU):=(((decide (0≤((0:Nat):Int)))&&(decide (((0:Nat):Int)≤(qaA s0))))&&(decide ((qaA s0)≤(s0.length:Int))))
def qeg (s0:LU):=([((z101 (qbw s0)),((z83 (qbw s0)),()))]:List (Int×(LU×Unit)))
def qgJ (k0:List (Int×(LU×Unit))→OA) (next:LU→List (Int×(LU×Unit))→OA) (_n:Nat) (s0:LU) (l3:List (Int×(LU×Unit))):OA :=
 bif (decide ((0:Int) < (s0.length:Int))) then bif ((qJD s0)&&true) then bif ((qwo s0)&&true) then bif (qef s0) then bif (qef s0) then bif ((qwn (qbw s0))&&true) then bif ((qhX (qbw s0))&&true) then bif (decide (l3.length+List.length (qeg s0)≤room)) then bif (((decide (0≤(qaA s0)))&&(decide ((qaA s0)≤(s0.length:Int))))&&(decide ((s0.length:Int)≤(s0.length:Int)))) then next (List.drop (qaA s0).toNat (List.take (s0.length:Int).toNat s0)) (l3++(qeg s0)) else none else none else none else none else none else none else none else none else k0 l3
def qoh (k0:List (Int×(LU×Unit))→OA):Nat→LU→List (Int×(LU×Unit))→OA
 | 0=>fun _ _=>none
 | n+1=>qgJ k0 (qoh k0 n) n
def qjU (_n:Nat) (l3:List (Int×(LU×Unit))):OA :=
 qKk l3
def qHR (n:Nat) (s0:LU):OA :=
 qoh (qjU n) n s0 ([]:List (Int×(LU×Unit)))
def qKl (s2:List Bool):OA:=some (.dat (.sl .bool) s2 (some (2,4)))
def qgK (k0:List Bool→OA) (next:List (Int×(LU×Unit))→List Bool→List (Int×(LU×Unit))→Int→Int→OA) (_n:Nat) (l0:List (Int×(LU×Unit))) (out3:List Bool) (s9:List (Int×(LU×Unit))) (s10:Int) (s11:Int):OA :=
 bif (decide (s11 < s10)) then
 bif ((decide (0≤s11))&&(decide (s11 < s9.length))) then
 bif (decide ((0:Int) < s11)) then
 bif (decide ((IntKind.wrap .i64 (s11+1)) < (l0.length:Int))) then
 bif ((s9.getD s11.toNat ((0:Int),(([]:LU),()))).1==(1:Int)) then
 bif ((decide (0≤(IntKind.wrap .i64 (s11 - (1:Int)))))&&(decide ((IntKind.wrap .i64 (s11 - (1:Int))) < l0.length))) then
 bif ((l0.getD (IntKind.wrap .i64 (s11 - (1:Int))).toNat ((0:Int),(([]:LU),()))).1==(3:Int)) then
 bif ((decide (0≤(IntKind.wrap .i64 (s11+1))))&&(decide ((IntKind.wrap .i64 (s11+1)) < l0.length))) then
 bif ((decide (0≤s11))&&(decide (s11 < out3.length))) then
 next l0 (List.set out3 s11.toNat ((l0.getD (IntKind.wrap .i64 (s11+1)).toNat ((0:Int),(([]:LU),()))).1==(3:Int))) s9 s10 (IntKind.wrap .i64 (s11+1))
 else none
 else none
 else
 bif ((decide (0≤s11))&&(decide (s11 < out3.length))) then
 next l0 (List.set out3 s11.toNat false) s9 s10 (IntKind.wrap .i64 (s11+1))
 else none
 else none
 else
 next l0 out3 s9 s10 (IntKind.wrap .i64 (s11+1))
 else
 next l0 out3 s9 s10 (IntKind.wrap .i64 (s11+1))
 else
 next l0 out3 s9 s10 (IntKind.wrap .i64 (s11+1))
 else none
 else
 k0 out3
def qlf (k0:List Bool→OA):Nat→List (Int×(LU×Unit))→List Bool→List (Int×(LU×Unit))→Int→Int→OA
 | 0=>fun _ _ _ _ _=>none
 | n+1=>qgK k0 (qlf k0 n) n
def qjV (_n:Nat) (out3:List Bool):OA :=
 qKl out3
def qHS (n:Nat) (l0:List (Int×(LU×Unit))):OA :=
 bif (((decide (0≤(l0.length:Int)))&&(decide ((l0.length:Int)≤(l0.length:Int))))&&(decide ((l0.length:Int)≤(room:Int)))) then
 qlf (qjV n) n l0 (List.replicate (l0.length:Int).toNat false) l0 (l0.length:Int) (0:Int)
 else none
def qKm (s2:List (Int×(LU×Unit))):OA:=some (.dat (.sl (.pair (.int .i64) (.pair (.sl .byte) .unit))) s2 (some (2,41)))
def qgL (k0:List (Int×(LU×Unit))→OA) (next:List (Int×(LU×Unit))→List (Int×(LU×Unit))→List Bool→Int→Int→OA) (_n:Nat) (out3:List (Int×(LU×Unit))) (l4:List (Int×(LU×Unit))) (s10:List Bool) (s11:Int) (s12:Int):OA :=
 bif (decide (s12 < s11)) then
 bif ((decide (0≤s12))&&(decide (s12 < s10.length))) then
 bif (!(s10.getD s12.toNat false)) then
 bif ((decide (0≤s12))&&(decide (s12 < l4.length))) then
 bif (decide (out3.length+List.length ([(l4.getD s12.toNat ((0:Int),(([]:LU),())))]:List (Int×(LU×Unit)))≤room)) then
 next (out3++([(l4.getD s12.toNat ((0:Int),(([]:LU),())))]:List (Int×(LU×Unit)))) l4 s10 s11 (IntKind.wrap .i64 (s12+1))
 else none
 else none
 else
 next out3 l4 s10 s11 (IntKind.wrap .i64 (s12+1))
 else none
 else
 k0 out3
def qoi (k0:List (Int×(LU×Unit))→OA):Nat→List (Int×(LU×Unit))→List (Int×(LU×Unit))→List Bool→Int→Int→OA
 | 0=>fun _ _ _ _ _=>none
 | n+1=>qgL k0 (qoi k0 n) n
def qjW (_n:Nat) (out3:List (Int×(LU×Unit))):OA :=
 qKm out3
def qHT (n:Nat) (s0:LU):OA :=
 bif ((qJE s0)&&true) then
 bif ((qJG (z59 s0))&&true) then
 qoi (qjW n) n ([]:List (Int×(LU×Unit))) (z59 s0) (z60 (z59 s0)) ((z60 (z59 s0)).length:Int) (0:Int)
 else none
 else none
def qDj (s13:LI):OA:=some (.tup [(.tup []),.bad,.bad,(.pbox (.osl 21 (.int .i32)) s13 none)])
def qMF (_n:Nat) (c0:Int) (e1:Int) (x2:LI):OA :=
 bif (e1 != (0:Int)) then
 bif (decide (x2.length+List.length ([(65533:Int)]:LI)≤room)) then
 qDj (x2++([(65533:Int)]:LI))
 else none
 else
 bif (decide (x2.length+List.length ([c0]:LI)≤room)) then
 qDj (x2++([c0]:LI))
 else none
def qeU (s2:Int):OA:=some (dc s2)
def qDk (_n:Nat) (c0:UInt8):OA :=
 bif (decide (c0 < (128:UInt8))) then
 qeU (1:Int)
 else
 bif (decide (c0 < (194:UInt8))) then
 qeU (0:Int)
 else
 bif (decide ((244:UInt8) < c0)) then
 qeU (0:Int)
 else
 bif (decide (c0 < (224:UInt8))) then
 qeU (2:Int)
 else
 bif (decide (c0 < (240:UInt8))) then
 qeU (3:Int)
 else
 qeU (4:Int)
def qDl (s2:Bool):OA:=some (dg s2)
def qDm (_n:Nat) (c0:UInt8):OA :=
 qDl ((c0 &&& ~~~ (63:UInt8))==(128:UInt8))
def qct (s4:Bool):OA:=some (dg s4)
def qDn (_n:Nat) (first0:UInt8) (c1:UInt8):OA :=
 bif (first0==(224:UInt8)) then
 bif (decide ((160:UInt8)≤c1)) then
 qct (z159 c1)
 else
 qct false
 else
 bif (first0==(237:UInt8)) then
 bif (decide (c1 < (160:UInt8))) then
 qct (z159 c1)
 else
 qct false
 else
 bif (first0==(240:UInt8)) then
 bif (decide ((144:UInt8)≤c1)) then
 qct (z159 c1)
 else
 qct false
 else
 bif (first0==(244:UInt8)) then
 bif (decide (c1 < (144:UInt8))) then
 qct (z159 c1)
 else
 qct false
 else
 qct (z159 c1)
def qaU (s2:Int):OA:=some (dc s2)
def qci (ret:Int→OA) (k0:LU→Int→OA) (next:LU→Int→OA) (_n:Nat) (s0:LU) (n3:Int):OA :=
 bif ((decide (0≤(0:Int)))&&(decide ((0:Int) < s0.length))) then
 bif (decide (n3 < (z132 (s0.getD (0:Int).toNat (0:UInt8))))) then
 bif (decide (n3 < (s0.length:Int))) then
 bif ((decide (0≤n3))&&(decide (n3 < s0.length))) then
 bif (!(z159 (s0.getD n3.toNat (0:UInt8)))) then
 ret n3
 else
 bif (n3==(1:Int)) then
 bif ((decide (0≤(0:Int)))&&(decide ((0:Int) < s0.length))) then
 bif ((decide (0≤(1:Int)))&&(decide ((1:Int) < s0.length))) then
 bif (!(z160 (s0.getD (0:Int).toNat (0:UInt8)) (s0.getD (1:Int).toNat (0:UInt8)))) then
 ret n3
 else
 next s0 (IntKind.wrap .i64 (n3+1))
 else none
 else none
 else
 next s0 (IntKind.wrap .i64 (n3+1))
 else none
 else
 k0 s0 n3
 else
 k0 s0 n3
 else none
def qhD (ret:Int→OA) (k0:LU→Int→OA):Nat→LU→Int→OA
 | 0=>fun _ _=>none
 | n+1=>qci ret k0 (qhD ret k0 n) n
def qao (_n:Nat) (s0:LU) (n3:Int):OA :=
 bif ((decide (0≤(0:Int)))&&(decide ((0:Int) < s0.length))) then
 qaU (bif (decide ((z132 (s0.getD (0:Int).toNat (0:UInt8))) < n3)) then (z132 (s0.getD (0:Int).toNat (0:UInt8))) else n3)
 else none
def qvD (n:Nat) (s0:LU):OA :=
 qhD qaU (qao n) n s0 (1:Int)
def qjX (s2:UInt8):OA:=some (dm s2)
def qDo (_n:Nat) (n0:Int):OA :=
 bif (n0==(2:Int)) then
 qjX (192:UInt8)
 else
 bif (n0==(3:Int)) then
 qjX (224:UInt8)
 else
 bif (n0==(4:Int)) then
 qjX (240:UInt8)
 else
 qjX (0:UInt8)
def qcZ (s2:Int) (s3:Int) (s4:Int):OA:=some (.tup [(di s2 none),(dc s3),(dc s4)])
def qcE (k1:Int→Int→OA) (next:Int→Int→LU→Int→Int→OA) (_n:Nat) (n5:Int) (c6:Int) (s48:LU) (s49:Int) (s50:Int):OA :=
 bif (decide (s50 < s49)) then
 bif ((decide (0≤s50))&&(decide (s50 < s48.length))) then
 next n5 (bits .or .i32 (IntKind.wrap .i32 (c6*2 ^ (min (6:Int).toNat (IntKind.bits .i32)))) (IntKind.wrap .i32 ((UInt8.toNat ((s48.getD s50.toNat (0:UInt8)) &&& (63:UInt8)):Nat):Int))) s48 s49 (IntKind.wrap .i64 (s50+1))
 else none
 else
 k1 n5 c6
def qdI (k1:Int→Int→OA):Nat→Int→Int→LU→Int→Int→OA
 | 0=>fun _ _ _ _ _=>none
 | n+1=>qcE k1 (qdI k1 n) n
def qcF (_n:Nat) (n5:Int) (c6:Int):OA :=
 qcZ c6 n5 (0:Int)
def qbS (s0:LU):=((decide (0≤(0:Int)))&&(decide ((0:Int) < s0.length)))
def qcG (s0:LU):=(List.drop (1:Int).toNat (List.take (z131 s0).toNat s0))
def qdJ (s0:LU):=(decide ((z131 s0) < (z132 (s0.getD (0:Int).toNat (0:UInt8)))))
def qfT (s0:LU):=(((decide (0≤(1:Int)))&&(decide ((1:Int)≤(z131 s0))))&&(decide ((z131 s0)≤(s0.length:Int))))
def qfU (s0:LU):=(IntKind.wrap .i32 ((UInt8.toNat ((s0.getD (0:Int).toNat (0:UInt8)) &&& ~~~ (z133 (z131 s0))):Nat):Int))
def qvE (n:Nat) (s0:LU):OA :=
 bif ((s0.length:Int)==(0:Int)) then qcZ (0:Int) (0:Int) (4:Int) else bif ((qlw s0)&&true) then bif ((z131 s0)==(0:Int)) then qcZ (0:Int) (1:Int) (3:Int) else bif (qbS s0) then bif (qdJ s0) then bif ((z131 s0)==(s0.length:Int)) then qcZ (0:Int) (z131 s0) (4:Int) else bif (qbS s0) then bif (qdJ s0) then qcZ (0:Int) (z131 s0) (3:Int) else bif (qbS s0) then bif (qfT s0) then qdI (qcF n) n (z131 s0) (qfU s0) (qcG s0) ((qcG s0).length:Int) (0:Int) else none else none else none else bif (qbS s0) then bif (qdJ s0) then qcZ (0:Int) (z131 s0) (3:Int) else bif (qbS s0) then bif (qfT s0) then qdI (qcF n) n (z131 s0) (qfU s0) (qcG s0) ((qcG s0).length:Int) (0:Int) else none else none else none else none else none
def qbT (s24:LI):OA:=some (.tup [(.tup []),.bad,(.pbox (.osl 21 (.int .i32)) s24 none)])
def qeh (k0:LI→OA) (next:LU→LI→OA) (_n:Nat) (s0:LU) (s24:LI):OA :=
 bif (decide ((0:Int) < (s0.length:Int))) then
 bif ((qug s0)&&true) then
 bif (qFJ ((z102 s0).1) ((z102 s0).2.2) s24) then
 bif (((decide (0≤((z102 s0).2.1)))&&(decide (((z102 s0).2.1)≤(s0.length:Int))))&&(decide ((s0.length:Int)≤(s0.length:Int)))) then
 next (List.drop ((z102 s0).2.1).toNat (List.take (s0.length:Int).toNat s0)) (z62 ((z102 s0).1) ((z102 s0).2.2) s24)
 else none
 else none
 else none
 else
 k0 s24
def qcj (k0:LI→OA):Nat→LU→LI→OA
 | 0=>fun _ _=>none
 | n+1=>qeh k0 (qcj k0 n) n
def qbx (_n:Nat) (s24:LI):OA :=
 qbT s24
def qoj (n:Nat) (s0:LU) (f1:LI):OA :=
 qcj (qbx n) n s0 f1
def qKn (s2:LI):OA:=some (.dat (.sl (.int .i32)) s2 none)
def qMG (_n:Nat) (s0:LU):OA :=
 bif (qdV s0 ([]:LI)) then
 qKn (qLJ s0 ([]:LI))
 else none
def qsV (s2:LI):OA:=some (.dat (.sl (.int .i32)) s2 (some (2,21)))
def qei (k0:LI→OA) (next:LI→LU→Int→Int→OA) (_n:Nat) (t3:LI) (s9:LU) (s10:Int) (s11:Int):OA :=
 bif (decide (s11 < s10)) then
 bif ((decide (0≤s11))&&(decide (s11 < s9.length))) then
 bif ((decide (0≤s11))&&(decide (s11 < t3.length))) then
 next (List.set t3 s11.toNat (IntKind.wrap .i32 ((UInt8.toNat (s9.getD s11.toNat (0:UInt8)):Nat):Int))) s9 s10 (IntKind.wrap .i64 (s11+1))
 else none
 else none
 else
 k0 t3
def qjY (k0:LI→OA):Nat→LI→LU→Int→Int→OA
 | 0=>fun _ _ _ _=>none
 | n+1=>qei k0 (qjY k0 n) n
def qfV (_n:Nat) (t3:LI):OA :=
 qsV t3
def qvF (n:Nat) (s0:LU):OA :=
 bif (((decide (0≤(s0.length:Int)))&&(decide ((s0.length:Int)≤(s0.length:Int))))&&(decide ((s0.length:Int)≤(room:Int)))) then
 qjY (qfV n) n (List.replicate (s0.length:Int).toNat 0) s0 (s0.length:Int) (0:Int)
 else none
def qsW (s2:Int):OA:=some (di s2 none)
def qDp (_n:Nat) (c0:Int):OA :=
 bif (decide ((128:Int)≤c0)) then
 qsW (65533:Int)
 else
 qsW c0
def qsX (s2:LI):OA:=some (.dat (.sl (.int .i32)) s2 (some (2,21)))
def qej (k0:LI→OA) (next:LI→Int→Int→OA) (_n:Nat) (t3:LI) (s10:Int) (s11:Int):OA :=
 bif (decide (s11 < s10)) then
 bif ((decide (0≤s11))&&(decide (s11 < t3.length))) then
 bif ((decide (0≤s11))&&(decide (s11 < t3.length))) then
 next (List.set t3 s11.toNat (z134 (t3.getD s11.toNat 0))) s10 (IntKind.wrap .i64 (s11+1))
 else none
 else none
 else
 k0 t3
def qjZ (k0:LI→OA):Nat→LI→Int→Int→OA
 | 0=>fun _ _ _=>none
 | n+1=>qej k0 (qjZ k0 n) n
def qfW (_n:Nat) (t3:LI):OA :=
 qsX t3
def qvG (n:Nat) (s0:LU):OA :=
 bif ((qlx s0)&&true) then
 qjZ (qfW n) n (z106 s0) ((z106 s0).length:Int) (0:Int)
 else none
def qDq (s0:List (UInt8×(Int×Unit))):OA:=some (.dat (.arr 8 (.pair .byte (.pair (.int .i32) .unit))) s0 none)
def qKo (_n:Nat):OA :=
 qDq ([((164:UInt8),((8364:Int),())),((166:UInt8),((352:Int),())),((168:UInt8),((353:Int),())),((180:UInt8),((381:Int),())),((184:UInt8),((382:Int),())),((188:UInt8),((338:Int),())),((189:UInt8),((339:Int),())),((190:UInt8),((376:Int),()))]:List (UInt8×(Int×Unit)))
def qaV (s2:Int):OA:=some (di s2 none)
def qvH (ret:Int→OA) (k0:UInt8→OA) (next:UInt8→List (UInt8×(Int×Unit))→Int→OA) (_n:Nat) (x0:UInt8) (s5:List (UInt8×(Int×Unit))) (s6:Int):OA :=
 bif (decide (s6 < (8:Int))) then
 bif ((decide (0≤s6))&&(decide (s6 < (8:Nat)))) then
 bif ((s5.getD s6.toNat ((0:UInt8),((0:Int),()))).1==x0) then
 ret (s5.getD s6.toNat ((0:UInt8),((0:Int),()))).2.1
 else
 next x0 s5 (IntKind.wrap .i64 (s6+1))
 else none
 else
 k0 x0
def qlI (ret:Int→OA) (k0:UInt8→OA):Nat→UInt8→List (UInt8×(Int×Unit))→Int→OA
 | 0=>fun _ _ _=>none
 | n+1=>qvH ret k0 (qlI ret k0 n) n
def qiv (_n:Nat) (x0:UInt8):OA :=
 qaV (IntKind.wrap .i32 ((UInt8.toNat x0:Nat):Int))
def qvI (n:Nat) (x0:UInt8):OA :=
 qlI qaV (qiv n) n x0 z161 (0:Int)
def qDr (s2:LI):OA:=some (.dat (.sl (.int .i32)) s2 (some (2,21)))
def qek (k0:LI→OA) (next:LI→LU→Int→Int→OA) (_n:Nat) (t3:LI) (s6:LU) (s7:Int) (s8:Int):OA :=
 bif (decide (s8 < s7)) then
 bif ((decide (0≤s8))&&(decide (s8 < s6.length))) then
 bif (decide (t3.length+List.length ([(z135 (s6.getD s8.toNat (0:UInt8)))]:LI)≤room)) then
 next (t3++([(z135 (s6.getD s8.toNat (0:UInt8)))]:LI)) s6 s7 (IntKind.wrap .i64 (s8+1))
 else none
 else none
 else
 k0 t3
def qka (k0:LI→OA):Nat→LI→LU→Int→Int→OA
 | 0=>fun _ _ _ _=>none
 | n+1=>qek k0 (qka k0 n) n
def qel (_n:Nat) (t3:LI):OA :=
 qDr t3
def qvJ (n:Nat) (s0:LU):OA :=
 qka (qel n) n ([]:LI) s0 (s0.length:Int) (0:Int)
def qDs (s0:LI):OA:=some (.dat (.sl (.int .i32)) s0 none)
def qKp (_n:Nat):OA :=
 qDs (List.drop 0 (List.take 32 ([(8364:Int),(0:Int),(8218:Int),(402:Int),(8222:Int),(8230:Int),(8224:Int),(8225:Int),(710:Int),(8240:Int),(352:Int),(8249:Int),(338:Int),(0:Int),(381:Int),(0:Int),(0:Int),(8216:Int),(8217:Int),(8220:Int),(8221:Int),(8226:Int),(8211:Int),(8212:Int),(732:Int),(8482:Int),(353:Int),(8250:Int),(339:Int),(0:Int),(382:Int),(376:Int)]:LI)))
def qkb (s2:Int):OA:=some (di s2 none)
def qdK (x0:UInt8):=((UInt8.toNat (x0 - (128:UInt8)):Nat):Int)
def qDt (_n:Nat) (x0:UInt8):OA :=
 bif (decide (x0 < (128:UInt8))) then qkb (IntKind.wrap .i32 ((UInt8.toNat x0:Nat):Int)) else bif (decide ((160:UInt8)≤x0)) then qkb (IntKind.wrap .i32 ((UInt8.toNat x0:Nat):Int)) else bif ((decide (0≤(qdK x0)))&&(decide ((qdK x0) < z162.length))) then bif ((z162.getD (qdK x0).toNat 0) != (0:Int)) then qkb (z162.getD (qdK x0).toNat 0) else qkb (65533:Int) else none
def qDu (s2:LI):OA:=some (.dat (.sl (.int .i32)) s2 (some (2,21)))
def qem (k0:LI→OA) (next:LI→LU→Int→Int→OA) (_n:Nat) (t3:LI) (s9:LU) (s10:Int) (s11:Int):OA :=
 bif (decide (s11 < s10)) then
 bif ((decide (0≤s11))&&(decide (s11 < s9.length))) then
 bif (decide (t3.length+List.length ([(z136 (s9.getD s11.toNat (0:UInt8)))]:LI)≤room)) then
 next (t3++([(z136 (s9.getD s11.toNat (0:UInt8)))]:LI)) s9 s10 (IntKind.wrap .i64 (s11+1))
 else none
 else none
 else
 k0 t3
def qkc (k0:LI→OA):Nat→LI→LU→Int→Int→OA
 | 0=>fun _ _ _ _=>none
 | n+1=>qem k0 (qkc k0 n) n
def qen (_n:Nat) (t3:LI):OA :=
 qDu t3
def qvK (n:Nat) (s0:LU):OA :=
 bif (((decide (0≤(0:Int)))&&(decide (0≤(s0.length:Int))))&&(decide ((s0.length:Int)≤(room:Int)))) then
 qkc (qen n) n (List.replicate (0:Int).toNat 0) s0 (s0.length:Int) (0:Int)
 else none
def qlJ (s4:LI):OA:=some (.dat (.sl (.int .i32)) s4 none)
def qMH (_n:Nat) (charset0:Int) (s1:LU):OA :=
 bif (charset0==(1:Int)) then
 bif ((quj s1)&&true) then
 qlJ (z103 s1)
 else none
 else
 bif (charset0==(3:Int)) then
 bif ((quh s1)&&true) then
 qlJ (z104 s1)
 else none
 else
 bif (charset0==(4:Int)) then
 bif ((qui s1)&&true) then
 qlJ (z105 s1)
 else none
 else
 bif (charset0==(5:Int)) then
 bif ((qhU s1)&&true) then
 qlJ (z38 s1)
 else none
 else
 bif ((qlx s1)&&true) then
 qlJ (z106 s1)
 else none
def qbU (V:Sigma Inv) (xv:Den V.1) (s29:LU):OA:=some (.tup [(.tup []),(.abs V.1 V.2 xv),(.pbox (.leaf (.sl .byte)) s29 none)])
def qx (s7:LU) (s9:Int):=(s7.getD s9.toNat (0:UInt8))
def qeo (V:Sigma Inv) (ret:Den V.1→LU→OA) (k0:Den V.1→LU→OA) (next:LU→Int→Int→Den V.1→LU→OA) (_n:Nat) (s7:LU) (s8:Int) (s9:Int) (xv:Den V.1) (s29:LU):OA :=
 bif (decide (s9 < s8)) then bif ((decide (0≤s9))&&(decide (s9 < s7.length))) then bif ((qx s7 s9)==(61:UInt8)) then ret xv s29 else bif (!((z121 (qx s7 s9)).2)) then bif (V.2.spec xv [⟨.byte,(qx s7 s9)⟩,⟨(.int .i64),(-1:Int)⟩]).1 then bif (!(V.2.spec xv [⟨.byte,(qx s7 s9)⟩,⟨(.int .i64),(-1:Int)⟩]).2.1) then ret (V.2.spec xv [⟨.byte,(qx s7 s9)⟩,⟨(.int .i64),(-1:Int)⟩]).2.2 s29 else next s7 s8 (IntKind.wrap .i64 (s9+1)) (V.2.spec xv [⟨.byte,(qx s7 s9)⟩,⟨(.int .i64),(-1:Int)⟩]).2.2 s29 else none else bif (V.2.spec xv [⟨.byte,(qx s7 s9)⟩,⟨(.int .i64),((z121 (qx s7 s9)).1)⟩]).1 then bif (!(V.2.spec xv [⟨.byte,(qx s7 s9)⟩,⟨(.int .i64),((z121 (qx s7 s9)).1)⟩]).2.1) then ret (V.2.spec xv [⟨.byte,(qx s7 s9)⟩,⟨(.int .i64),((z121 (qx s7 s9)).1)⟩]).2.2 s29 else next s7 s8 (IntKind.wrap .i64 (s9+1)) (V.2.spec xv [⟨.byte,(qx s7 s9)⟩,⟨(.int .i64),((z121 (qx s7 s9)).1)⟩]).2.2 s29 else none else none else k0 xv s29
def qfX (V:Sigma Inv) (ret:Den V.1→LU→OA) (k0:Den V.1→LU→OA):Nat→LU→Int→Int→Den V.1→LU→OA
 | 0=>fun _ _ _ _ _=>none
 | n+1=>(qeo V) ret k0 ((qfX V) ret k0 n) n
def qda (V:Sigma Inv) (_n:Nat) (xv:Den V.1) (s29:LU):OA :=
 (qbU V) xv s29
def qvL (V:Sigma Inv) (n:Nat) (x0:Den V.1) (x1:LU):OA :=
 (qfX V) (qbU V) ((qda V) n) n x1 (x1.length:Int) (0:Int) x0 x1
def qSQ (_n:Nat) (s0:LU):OA :=
 some (.abs (qeQ [.leaf (.sl .byte)]) (clInv 173 [.leaf (.sl .byte)]) (s0,()))
def qsY (s2:LU) (s3:Int):OA:=some (.tup [(da s2),(dc s3)])
def qhE (n:Nat) (x:Bool×LU×Int×Int×Unit) (y0:UInt8) (y1:Int):Bool×Bool×(Bool×LU×Int×Int×Unit) :=
 bif x.1 then (false,false,x) else yfin (.pair (.sl .byte) (.pair (.int .i64) (.pair (.int .i64) .unit))) x (
 bif (decide (y1 < (0:Int))) then
 some (.dat (.pair .bool (.pair (.sl .byte) (.pair (.int .i64) (.pair (.int .i64) .unit)))) (false,(x.2.1,(x.2.2.1,(x.2.2.2.1,())))) none)
 else
 bif (decide ((8:Int)≤(IntKind.wrap .i64 (x.2.2.2.1+(6:Int))))) then
 bif (decide (0≤(IntKind.wrap .i64 ((IntKind.wrap .i64 (x.2.2.2.1+(6:Int))) - (8:Int))))) then
 bif (decide (List.length x.2.1+List.length ([(UInt8.ofNat (IntKind.wrap .u8 (Int.fdiv (bits .or .i64 (IntKind.wrap .i64 (x.2.2.1*2 ^ (min (6:Int).toNat (IntKind.bits .i64)))) y1) (2 ^ (min (IntKind.wrap .i64 ((IntKind.wrap .i64 (x.2.2.2.1+(6:Int))) - (8:Int))).toNat (IntKind.bits .i64))))).toNat)]:LU)≤room)) then
 bif (decide (0≤(IntKind.wrap .i64 ((IntKind.wrap .i64 (x.2.2.2.1+(6:Int))) - (8:Int))))) then
 some (.dat (.pair .bool (.pair (.sl .byte) (.pair (.int .i64) (.pair (.int .i64) .unit)))) (false,((x.2.1++([(UInt8.ofNat (IntKind.wrap .u8 (Int.fdiv (bits .or .i64 (IntKind.wrap .i64 (x.2.2.1*2 ^ (min (6:Int).toNat (IntKind.bits .i64)))) y1) (2 ^ (min (IntKind.wrap .i64 ((IntKind.wrap .i64 (x.2.2.2.1+(6:Int))) - (8:Int))).toNat (IntKind.bits .i64))))).toNat)]:LU)),((bits .and .i64 (bits .or .i64 (IntKind.wrap .i64 (x.2.2.1*2 ^ (min (6:Int).toNat (IntKind.bits .i64)))) y1) (IntKind.wrap .i64 ((IntKind.wrap .i64 ((1:Int)*2 ^ (min (IntKind.wrap .i64 ((IntKind.wrap .i64 (x.2.2.2.1+(6:Int))) - (8:Int))).toNat (IntKind.bits .i64)))) - (1:Int)))),((IntKind.wrap .i64 ((IntKind.wrap .i64 (x.2.2.2.1+(6:Int))) - (8:Int))),())))) none)
 else none
 else none
 else none
 else
 some (.dat (.pair .bool (.pair (.sl .byte) (.pair (.int .i64) (.pair (.int .i64) .unit)))) (false,(x.2.1,((bits .or .i64 (IntKind.wrap .i64 (x.2.2.1*2 ^ (min (6:Int).toNat (IntKind.bits .i64)))) y1),((IntKind.wrap .i64 (x.2.2.2.1+(6:Int))),())))) none))
def qdL (n:Nat) (s0:LU):=(z173 (qhE n) (false,(([]:LU),((0:Int),((0:Int),())))) s0)
def qfY (n:Nat) (s0:LU):=( qsY (qdL n s0).2.1.2.1 (qdL n s0).2.1.2.2.2.1)
def qDv (n:Nat) (s0:LU):OA :=
 bif (qdL n s0).1 then bif (qdL n s0).2.1.1 then qsY ([]:LU) (0:Int) else both ( both (qfY n s0) (qfY n s0)) (qfY n s0) else none
def qDw (s2:LU):OA:=some (da s2)
def qDx (_n:Nat) (s0:LU):OA :=
 bif ((qul s0)&&true) then
 qDw ((z137 s0).1)
 else none
def qDy (s2:LU):OA:=some (da s2)
def qDz (_n:Nat) (s0:LU):OA :=
 bif ((qly s0)&&true) then
 qDy ((z124 s0).1)
 else none
def qDA (s2:LU):OA:=some (da s2)
def qMI (_n:Nat) (w0:LU×(Int×(LU×Unit))):OA :=
 bif (w0.2.1==(1:Int)) then
 bif ((qum w0.2.2.1)&&true) then
 qDA (z107 w0.2.2.1)
 else none
 else
 bif ((qun w0.2.2.1)&&true) then
 qDA (z108 w0.2.2.1)
 else none
def qDB (s2:LI) (s3:Bool):OA:=some (.tup [(.dat (.sl (.int .i32)) s2 none),(dg s3)])
def qiw (s0:LU):=( bif ((qxd ((z51 s0).1))&&true) then bif ((qFK ((z51 s0).1))&&true) then bif ((qFs (z52 ((z51 s0).1)) (z64 ((z51 s0).1)))&&true) then qDB (z63 (z52 ((z51 s0).1)) (z64 ((z51 s0).1))) true else none else none else none)
def qMJ (_n:Nat) (s0:LU):OA :=
 bif ((qlj s0)&&true) then bif (((z51 s0).2) != (0:Int)) then qDB ([]:LI) false else both ( both (qiw s0) (qiw s0)) (qiw s0) else none
def qkd (s14:Int):OA:=some (.tup [(.tup []),.bad,.bad,(.pbox (.leaf (.int .i64)) s14 none)])
def qok (_n:Nat) (p0:Int×(LU×Unit)) (_x1:LI) (x2:Int):OA :=
 bif (p0.1==(3:Int)) then
 bif (qsJ p0.2.1 x2) then
 qkd (z32 p0.2.1 x2)
 else none
 else
 qkd x2
def qke (s14:LI):OA:=some (.tup [(.tup []),.bad,.bad,(.pbox (.osl 3 (.int .i64)) s14 none)])
def qol (_n:Nat) (p0:Int×(LU×Unit)) (_x1:LI) (x2:LI):OA :=
 bif (p0.1==(3:Int)) then
 bif (qsK p0.2.1 x2) then
 qke (z30 p0.2.1 x2)
 else none
 else
 qke x2
def qkf (s36:LI):OA:=some (.tup [(.tup []),.bad,(.pbox (.osl 21 (.int .i32)) s36 none)])
def qt (s9:List (Int×(LU×Unit))) (s11:Int):=(s9.getD s11.toNat ((0:Int),(([]:LU),())))
def qaH (next:List (Int×(LU×Unit))→Int→Int→LI→OA) (s9:List (Int×(LU×Unit))) (s10:Int) (s11:Int) (s36:LI):=( bif ((qhU (qt s9 s11).2.1)&&true) then bif (qCs (qt s9 s11) (z38 (qt s9 s11).2.1) s36) then next s9 s10 (IntKind.wrap .i64 (s11+1)) (z21 (qt s9 s11) (z38 (qt s9 s11).2.1) s36) else none else none)
def qby (k0:LI→OA) (next:List (Int×(LU×Unit))→Int→Int→LI→OA) (_n:Nat) (s9:List (Int×(LU×Unit))) (s10:Int) (s11:Int) (s36:LI):OA :=
 bif (decide (s11 < s10)) then bif ((decide (0≤s11))&&(decide (s11 < s9.length))) then bif ((qt s9 s11).1 != (3:Int)) then both (qaH next s9 s10 s11 s36) ( both (qaH next s9 s10 s11 s36) (qaH next s9 s10 s11 s36)) else bif ((qla (qt s9 s11).2.1)&&true) then bif (qCs (qt s9 s11) ((z39 (qt s9 s11).2.1).1) s36) then next s9 s10 (IntKind.wrap .i64 (s11+1)) (z21 (qt s9 s11) ((z39 (qt s9 s11).2.1).1) s36) else none else none else none else k0 s36
def qdb (k0:LI→OA):Nat→List (Int×(LU×Unit))→Int→Int→LI→OA
 | 0=>fun _ _ _ _=>none
 | n+1=>qby k0 (qdb k0 n) n
def qcH (_n:Nat) (s36:LI):OA :=
 qkf s36
def qix (n:Nat) (s0:LU) (f1:LI):OA :=
 bif ((qll s0)&&true) then
 qdb (qcH n) n (z37 s0) ((z37 s0).length:Int) (0:Int) f1
 else none
def qkg (s36:List LI):OA:=some (.tup [(.tup []),.bad,(.pbox (.osl 25 (.sl (.int .i32))) s36 none)])
def qu (s9:List (Int×(LU×Unit))) (s11:Int):=(s9.getD s11.toNat ((0:Int),(([]:LU),())))
def qaI (next:List (Int×(LU×Unit))→Int→Int→List LI→OA) (s9:List (Int×(LU×Unit))) (s10:Int) (s11:Int) (s36:List LI):=( bif ((qhU (qu s9 s11).2.1)&&true) then bif (qCt (qu s9 s11) (z38 (qu s9 s11).2.1) s36) then next s9 s10 (IntKind.wrap .i64 (s11+1)) (z28 (qu s9 s11) (z38 (qu s9 s11).2.1) s36) else none else none)
def qbz (k0:List LI→OA) (next:List (Int×(LU×Unit))→Int→Int→List LI→OA) (_n:Nat) (s9:List (Int×(LU×Unit))) (s10:Int) (s11:Int) (s36:List LI):OA :=
 bif (decide (s11 < s10)) then bif ((decide (0≤s11))&&(decide (s11 < s9.length))) then bif ((qu s9 s11).1 != (3:Int)) then both (qaI next s9 s10 s11 s36) ( both (qaI next s9 s10 s11 s36) (qaI next s9 s10 s11 s36)) else bif ((qla (qu s9 s11).2.1)&&true) then bif (qCt (qu s9 s11) ((z39 (qu s9 s11).2.1).1) s36) then next s9 s10 (IntKind.wrap .i64 (s11+1)) (z28 (qu s9 s11) ((z39 (qu s9 s11).2.1).1) s36) else none else none else none else k0 s36
def qdc (k0:List LI→OA):Nat→List (Int×(LU×Unit))→Int→Int→List LI→OA
 | 0=>fun _ _ _ _=>none
 | n+1=>qbz k0 (qdc k0 n) n
def qcI (_n:Nat) (s36:List LI):OA :=
 qkg s36
def qiy (n:Nat) (s0:LU) (f1:List LI):OA :=
 bif ((qll s0)&&true) then
 qdc (qcI n) n (z37 s0) ((z37 s0).length:Int) (0:Int) f1
 else none
def qkh (s36:Int):OA:=some (.tup [(.tup []),.bad,(.pbox (.leaf (.int .i64)) s36 none)])
def qv (s9:List (Int×(LU×Unit))) (s11:Int):=(s9.getD s11.toNat ((0:Int),(([]:LU),())))
def qaJ (next:List (Int×(LU×Unit))→Int→Int→Int→OA) (s9:List (Int×(LU×Unit))) (s10:Int) (s11:Int) (s36:Int):=( bif ((qhU (qv s9 s11).2.1)&&true) then bif (qcS (qv s9 s11) (z38 (qv s9 s11).2.1) s36) then next s9 s10 (IntKind.wrap .i64 (s11+1)) (qlc (qv s9 s11) (z38 (qv s9 s11).2.1) s36) else none else none)
def qbA (k0:Int→OA) (next:List (Int×(LU×Unit))→Int→Int→Int→OA) (_n:Nat) (s9:List (Int×(LU×Unit))) (s10:Int) (s11:Int) (s36:Int):OA :=
 bif (decide (s11 < s10)) then bif ((decide (0≤s11))&&(decide (s11 < s9.length))) then bif ((qv s9 s11).1 != (3:Int)) then both (qaJ next s9 s10 s11 s36) ( both (qaJ next s9 s10 s11 s36) (qaJ next s9 s10 s11 s36)) else bif ((qla (qv s9 s11).2.1)&&true) then bif (qcS (qv s9 s11) ((z39 (qv s9 s11).2.1).1) s36) then next s9 s10 (IntKind.wrap .i64 (s11+1)) (qlc (qv s9 s11) ((z39 (qv s9 s11).2.1).1) s36) else none else none else none else k0 s36
def qdd (k0:Int→OA):Nat→List (Int×(LU×Unit))→Int→Int→Int→OA
 | 0=>fun _ _ _ _=>none
 | n+1=>qbA k0 (qdd k0 n) n
def qcJ (_n:Nat) (s36:Int):OA :=
 qkh s36
def qiz (n:Nat) (s0:LU) (f1:Int):OA :=
 bif ((qll s0)&&true) then
 qdd (qcJ n) n (z37 s0) ((z37 s0).length:Int) (0:Int) f1
 else none
def qki (s36:LI):OA:=some (.tup [(.tup []),.bad,(.pbox (.osl 3 (.int .i64)) s36 none)])
def qw (s9:List (Int×(LU×Unit))) (s11:Int):=(s9.getD s11.toNat ((0:Int),(([]:LU),())))
def qaK (next:List (Int×(LU×Unit))→Int→Int→LI→OA) (s9:List (Int×(LU×Unit))) (s10:Int) (s11:Int) (s36:LI):=( bif ((qhU (qw s9 s11).2.1)&&true) then bif (qcT (qw s9 s11) (z38 (qw s9 s11).2.1) s36) then next s9 s10 (IntKind.wrap .i64 (s11+1)) (qld (qw s9 s11) (z38 (qw s9 s11).2.1) s36) else none else none)
def qbB (k0:LI→OA) (next:List (Int×(LU×Unit))→Int→Int→LI→OA) (_n:Nat) (s9:List (Int×(LU×Unit))) (s10:Int) (s11:Int) (s36:LI):OA :=
 bif (decide (s11 < s10)) then bif ((decide (0≤s11))&&(decide (s11 < s9.length))) then bif ((qw s9 s11).1 != (3:Int)) then both (qaK next s9 s10 s11 s36) ( both (qaK next s9 s10 s11 s36) (qaK next s9 s10 s11 s36)) else bif ((qla (qw s9 s11).2.1)&&true) then bif (qcT (qw s9 s11) ((z39 (qw s9 s11).2.1).1) s36) then next s9 s10 (IntKind.wrap .i64 (s11+1)) (qld (qw s9 s11) ((z39 (qw s9 s11).2.1).1) s36) else none else none else none else k0 s36
def qde (k0:LI→OA):Nat→List (Int×(LU×Unit))→Int→Int→LI→OA
 | 0=>fun _ _ _ _=>none
 | n+1=>qbB k0 (qde k0 n) n
def qcK (_n:Nat) (s36:LI):OA :=
 qki s36
def qiA (n:Nat) (s0:LU) (f1:LI):OA :=
 bif ((qll s0)&&true) then
 qde (qcK n) n (z37 s0) ((z37 s0).length:Int) (0:Int) f1
 else none
def qDC (s2:LI):OA:=some (.dat (.sl (.int .i32)) s2 none)
def qMK (_n:Nat) (s0:LU):OA :=
 bif (qdW s0 ([]:LI)) then
 qDC (qyn s0 ([]:LI))
 else none
def qDD (before4:LU) (after5:LU) (found6:Bool):OA:=some (.tup [(da before4),(da after5),(dg found6)])
def qML (_n:Nat) (s0:LU) (sep1:LU):OA :=
 bif ((qrd s0 sep1)&&true) then
 bif (decide (0≤(z57 s0 sep1))) then
 bif (((decide (0≤((0:Nat):Int)))&&(decide (((0:Nat):Int)≤(z57 s0 sep1))))&&(decide ((z57 s0 sep1)≤(s0.length:Int)))) then
 bif (((decide (0≤(IntKind.wrap .i64 ((z57 s0 sep1)+(sep1.length:Int)))))&&(decide ((IntKind.wrap .i64 ((z57 s0 sep1)+(sep1.length:Int)))≤(s0.length:Int))))&&(decide ((s0.length:Int)≤(s0.length:Int)))) then
 qDD (List.drop ((0:Nat):Int).toNat (List.take (z57 s0 sep1).toNat s0)) (List.drop (IntKind.wrap .i64 ((z57 s0 sep1)+(sep1.length:Int))).toNat (List.take (s0.length:Int).toNat s0)) true
 else none
 else none
 else
 qDD s0 ([]:LU) false
 else none
def qvM (s2:LU):OA:=some (db s2 (some (2,5)))
def qH (s0:LU):=(z35 s0 ([(13:UInt8),(10:UInt8)]:LU))
def qom (ret:LU→OA) (next:LU→LU→OA) (_n:Nat) (s0:LU) (out3:LU):OA :=
 bif ((qyP s0 ([(13:UInt8),(10:UInt8)]:LU))&&true) then bif (decide (out3.length+List.length ((qH s0).1)≤room)) then bif (!((qH s0).2.2)) then ret (out3++((qH s0).1)) else bif ((((qH s0).2.1).length:Int)==(0:Int)) then bif (decide (List.length (out3++((qH s0).1))+List.length ([13,10]:LU)≤room)) then next ((qH s0).2.1) ((out3++((qH s0).1))++([13,10]:LU)) else none else bif ((decide (0≤(0:Int)))&&(decide ((0:Int) < ((qH s0).2.1).length))) then bif (!(z36 (((qH s0).2.1).getD (0:Int).toNat (0:UInt8)) (2:Int))) then bif (decide (List.length (out3++((qH s0).1))+List.length ([13,10]:LU)≤room)) then next ((qH s0).2.1) ((out3++((qH s0).1))++([13,10]:LU)) else none else next ((qH s0).2.1) (out3++((qH s0).1)) else none else none else none
def qon (ret:LU→OA):Nat→LU→LU→OA
 | 0=>fun _ _=>none
 | n+1=>qom ret (qon ret n) n
def qMM (n:Nat) (s0:LU):OA :=
 qon qvM n s0 ([]:LU)
def qSR (s2:LI):OA:=some (.dat (.sl (.int .i32)) s2 none)
def z9_sh (_n:Nat) (s0:LU):OA :=
 bif ((qlm s0)&&true) then
 bif ((qyl (z19 s0))&&true) then
 qSR (z11 (z19 s0))
 else none
 else none
def qDE (s2:List LI):OA:=some (.dat (.sl (.sl (.int .i32))) s2 none)
def qMN (_n:Nat) (s0:LU):OA :=
 bif ((qlm s0)&&true) then
 bif (qdX (z19 s0) ([]:List LI)) then
 qDE (qyo (z19 s0) ([]:List LI))
 else none
 else none
def qqu (s9:Int):OA:=some (.tup [(.tup []),.bad,(.pbox (.leaf (.int .i64)) s9 none)])
def qoo (_n:Nat) (s0:LU) (f1:Int):OA :=
 bif ((qlm s0)&&true) then
 bif (qdY (z19 s0) f1) then
 qqu (qyp (z19 s0) f1)
 else none
 else none
def qqv (s9:LI):OA:=some (.tup [(.tup []),.bad,(.pbox (.osl 3 (.int .i64)) s9 none)])
def qop (_n:Nat) (s0:LU) (f1:LI):OA :=
 bif ((qlm s0)&&true) then
 bif (qdZ (z19 s0) f1) then
 qqv (qyq (z19 s0) f1)
 else none
 else none
def qDF (s2:LI):OA:=some (.dat (.sl (.int .i64)) s2 none)
def qMO (_n:Nat) (s0:LU):OA :=
 bif (qeb s0 ([]:LI)) then
 qDF (qCv s0 ([]:LI))
 else none
def qDG (s2:Int):OA:=some (dc s2)
def qMP (_n:Nat) (s0:LU):OA :=
 bif (qea s0 (0:Int)) then
 qDG (qCu s0 (0:Int))
 else none
def qDH (s0:Bool):OA:=some (dg s0)
def qcu:=([(97:UInt8),(32:UInt8),(61:UInt8),(63:UInt8),(117:UInt8),(116:UInt8),(102:UInt8),(45:UInt8),(56:UInt8),(63:UInt8),(81:UInt8),(63:UInt8),(98:UInt8),(63:UInt8),(61:UInt8),(13:UInt8),(10:UInt8),(32:UInt8),(61:UInt8),(63:UInt8),(117:UInt8),(116:UInt8),(102:UInt8),(45:UInt8),(56:UInt8),(63:UInt8),(81:UInt8),(63:UInt8),(99:UInt8),(63:UInt8),(61:UInt8)]:LU)
def z7_sh (_n:Nat):OA :=
 bif ((z9_ok (qcu))&&true) then bif ((z8_ok (z9 (qcu)) ([(97:Int),(32:Int),(98:Int),(99:Int)]:LI))&&true) then bif (z8 (z9 (qcu)) ([(97:Int),(32:Int),(98:Int),(99:Int)]:LI)) then bif ((qLU (qcu))&&true) then bif ((z17 (qcu))==(0:Int)) then bif ((qLV (qcu))&&true) then bif (((z16 (qcu)).length:Int)==(2:Int)) then bif ((qLW (qcu))&&true) then qDH (((z15 (qcu)).length:Int)==(4:Int)) else none else qDH false else none else qDH false else none else qDH false else none else none
def qqw (s2:Bool):OA:=some (dg s2)
def qMQ (_n:Nat) (c0:UInt8):OA :=
 bif (c0==(32:UInt8)) then
 qqw true
 else
 bif (c0==(9:UInt8)) then
 qqw true
 else
 bif (c0==(13:UInt8)) then
 qqw true
 else
 qqw (c0==(10:UInt8))
def qKq (s2:List LU):OA:=some (.dat (.sl (.sl .byte)) s2 none)
def qaa (out3:List LU):=(IntKind.wrap .i64 ((out3.length:Int) - (1:Int)))
def qgM (k0:List LU→OA) (next:LU→List LU→Int→OA) (_n:Nat) (s0:LU) (out3:List LU) (i4:Int):OA :=
 bif (decide (i4 < (s0.length:Int))) then bif ((decide (0≤i4))&&(decide (i4 < s0.length))) then bif ((s0.getD i4.toNat (0:UInt8))==(63:UInt8)) then bif (decide (out3.length+List.length ([([]:LU)]:List LU)≤room)) then next s0 (out3++([([]:LU)]:List LU)) (IntKind.wrap .i64 (i4+1)) else none else bif ((decide (0≤(qaa out3)))&&(decide ((qaa out3) < out3.length))) then bif ((decide (0≤i4))&&(decide (i4 < s0.length))) then bif (decide (List.length (out3.getD (qaa out3).toNat ([]:LU))+List.length ([(s0.getD i4.toNat (0:UInt8))]:LU)≤room)) then bif ((decide (0≤(qaa out3)))&&(decide ((qaa out3) < out3.length))) then bif (((qaa out3).toNat==(qaa out3).toNat)&&true) then next s0 (List.set out3 (qaa out3).toNat ((out3.getD (qaa out3).toNat ([]:LU))++([(s0.getD i4.toNat (0:UInt8))]:LU))) (IntKind.wrap .i64 (i4+1)) else none else none else none else none else none else none else k0 out3
def qoq (k0:List LU→OA):Nat→LU→List LU→Int→OA
 | 0=>fun _ _ _=>none
 | n+1=>qgM k0 (qoq k0 n) n
def qkj (_n:Nat) (out3:List LU):OA :=
 qKq out3
def qHU (n:Nat) (s0:LU):OA :=
 qoq (qkj n) n s0 ([([]:LU)]:List LU) (0:Int)
def qor (s2:UInt8):OA:=some (dm s2)
def qDI (_n:Nat) (c0:UInt8):OA :=
 bif (decide ((65:UInt8)≤c0)) then
 bif (decide (c0≤(90:UInt8))) then
 qor (c0+(32:UInt8))
 else
 qor c0
 else
 qor c0
def qvN (s2:Int):OA:=some (dc s2)
def qMR (_n:Nat) (c0:UInt8):OA :=
 bif ((z109 c0)==(98:UInt8)) then
 qvN (1:Int)
 else
 bif ((z109 c0)==(113:UInt8)) then
 qvN (2:Int)
 else
 qvN (0:Int)
def qgN (s4:Bool):OA:=some (dg s4)
def qep (ret:Bool→OA) (k0:OA) (next:LU→UInt8→Int→OA) (_n:Nat) (s0:LU) (c1:UInt8) (i5:Int):OA :=
 bif (decide (i5 < (s0.length:Int))) then
 bif ((decide (0≤i5))&&(decide (i5 < s0.length))) then
 bif ((s0.getD i5.toNat (0:UInt8))==c1) then
 ret true
 else
 next s0 c1 (IntKind.wrap .i64 (i5+1))
 else none
 else
 k0
def qfZ (ret:Bool→OA) (k0:OA):Nat→LU→UInt8→Int→OA
 | 0=>fun _ _ _=>none
 | n+1=>qep ret k0 (qfZ ret k0 n) n
def qga (_n:Nat):OA :=
 qgN false
def qqx (n:Nat) (s0:LU) (c1:UInt8):OA :=
 qfZ qgN (qga n) n s0 c1 (0:Int)
def qKr (s4:Bool):OA:=some (dg s4)
def qSS (_n:Nat) (c0:UInt8) (kinds1:Int):OA :=
 qKr ((bits .and .i64 (z114 c0) kinds1) != (0:Int))
def qKs (s4:Int):OA:=some (dc s4)
def qgO (k0:Int→OA) (next:LU→Int→Int→Int→OA) (_n:Nat) (s0:LU) (kinds1:Int) (n5:Int) (i6:Int):OA :=
 bif (decide (i6 < (s0.length:Int))) then
 bif ((decide (0≤i6))&&(decide (i6 < s0.length))) then
 bif (z79 (s0.getD i6.toNat (0:UInt8)) kinds1) then
 next s0 kinds1 (IntKind.wrap .i64 (n5+1)) (IntKind.wrap .i64 (i6+1))
 else
 next s0 kinds1 n5 (IntKind.wrap .i64 (i6+1))
 else none
 else
 k0 n5
def qos (k0:Int→OA):Nat→LU→Int→Int→Int→OA
 | 0=>fun _ _ _ _=>none
 | n+1=>qgO k0 (qos k0 n) n
def qkk (_n:Nat) (n5:Int):OA :=
 qKs n5
def qHV (n:Nat) (s0:LU) (kinds1:Int):OA :=
 qos (qkk n) n s0 kinds1 (0:Int) (0:Int)
def qck (s2:LU×(Int×(LU×Unit))) (s3:Int):OA:=some (.tup [(.dat (.pair (.sl .byte) (.pair (.int .i64) (.pair (.sl .byte) .unit))) s2 none),(dc s3)])
def qaL:=(([]:LU),((0:Int),(([]:LU),())))
def qgb (s0:LU):=((decide (0≤(1:Int)))&&(decide ((1:Int) < (z67 s0).length)))
def qgc (s0:LU):=((decide (0≤(3:Int)))&&(decide ((3:Int) < (z67 s0).length)))
def qeq (s0:LU):=((z67 s0).getD (2:Int).toNat ([]:LU))
def qer (s0:LU):=((z67 s0).getD (1:Int).toNat ([]:LU))
def qes (s0:LU):=((z67 s0).getD (3:Int).toNat ([]:LU))
def qiB (s0:LU):=((decide (0≤(2:Int)))&&(decide ((2:Int) < (z67 s0).length)))
def qMS (_n:Nat) (s0:LU):OA :=
 bif ((qJB s0)&&true) then bif (((z67 s0).length:Int) != (5:Int)) then qck (qaL) (3:Int) else bif ((decide (0≤(0:Int)))&&(decide ((0:Int) < (z67 s0).length))) then bif (((z67 s0).getD (0:Int).toNat ([]:LU)) != ([61]:LU)) then qck (qaL) (3:Int) else bif ((decide (0≤(4:Int)))&&(decide ((4:Int) < (z67 s0).length))) then bif (((z67 s0).getD (4:Int).toNat ([]:LU)) != ([61]:LU)) then qck (qaL) (3:Int) else bif (qiB s0) then bif (((qeq s0).length:Int) != (1:Int)) then qck (qaL) (3:Int) else bif (qiB s0) then bif ((decide (0≤(0:Int)))&&(decide ((0:Int) < (qeq s0).length))) then bif ((z68 ((qeq s0).getD (0:Int).toNat (0:UInt8)))==(0:Int)) then qck (qaL) (3:Int) else bif (qgb s0) then bif (((qer s0).length:Int)==(0:Int)) then qck (qaL) (3:Int) else bif (qgb s0) then bif (qgb s0) then bif ((qyT (qer s0) (64:Int))&&true) then bif ((z69 (qer s0) (64:Int)) != ((qer s0).length:Int)) then qck (qaL) (3:Int) else bif (qgc s0) then bif (((qes s0).length:Int)==(0:Int)) then qck (qaL) (3:Int) else bif (qgc s0) then bif (qgc s0) then bif ((qyT (qes s0) (4:Int))&&true) then bif ((z69 (qes s0) (4:Int)) != ((qes s0).length:Int)) then qck (qaL) (3:Int) else bif (decide ((75:Int) < (s0.length:Int))) then qck (qaL) (12:Int) else bif (qgb s0) then bif (qiB s0) then bif ((decide (0≤(0:Int)))&&(decide ((0:Int) < (qeq s0).length))) then bif (qgc s0) then qck ((qer s0),((z68 ((qeq s0).getD (0:Int).toNat (0:UInt8))),((qes s0),()))) (0:Int) else none else none else none else none else none else none else none else none else none else none else none else none else none else none else none else none else none else none
def qvO (s2:Int):OA:=some (dc s2)
def qgP (k0:LU→Bool→OA) (next:LU→Bool→Int→OA) (_n:Nat) (run0:LU) (all3:Bool) (i4:Int):OA :=
 bif (decide (i4 < (run0.length:Int))) then
 bif all3 then
 bif ((decide (0≤i4))&&(decide (i4 < run0.length))) then
 next run0 (z65 (run0.getD i4.toNat (0:UInt8))) (IntKind.wrap .i64 (i4+1))
 else none
 else
 next run0 false (IntKind.wrap .i64 (i4+1))
 else
 k0 run0 all3
def qot (k0:LU→Bool→OA):Nat→LU→Bool→Int→OA
 | 0=>fun _ _ _=>none
 | n+1=>qgP k0 (qot k0 n) n
def qgQ (_n:Nat) (run0:LU) (all3:Bool):OA :=
 bif all3 then
 qvO (1:Int)
 else
 bif ((qlk run0)&&true) then
 bif (((z42 run0).2)==(0:Int)) then
 qvO (3:Int)
 else
 qvO (2:Int)
 else none
def qHW (n:Nat) (run0:LU):OA :=
 qot (qgQ n) n run0 (decide ((0:Int) < (run0.length:Int))) (0:Int)
def qKt (s2:List (Int×(LU×Unit))):OA:=some (.dat (.sl (.pair (.int .i64) (.pair (.sl .byte) .unit))) s2 (some (2,46)))
def qgR (k2:LU→List (Int×(LU×Unit))→Int→Int→OA) (next:LU→List (Int×(LU×Unit))→Int→Int→OA) (_n:Nat) (s0:LU) (out3:List (Int×(LU×Unit))) (i4:Int) (k5:Int):OA :=
 bif (decide (k5 < (s0.length:Int))) then
 bif ((decide (0≤k5))&&(decide (k5 < s0.length))) then
 bif ((decide (0≤i4))&&(decide (i4 < s0.length))) then
 bif ((z65 (s0.getD k5.toNat (0:UInt8)))==(z65 (s0.getD i4.toNat (0:UInt8)))) then
 next s0 out3 i4 (IntKind.wrap .i64 (k5+1))
 else
 k2 s0 out3 i4 k5
 else none
 else none
 else
 k2 s0 out3 i4 k5
def qou (k2:LU→List (Int×(LU×Unit))→Int→Int→OA):Nat→LU→List (Int×(LU×Unit))→Int→Int→OA
 | 0=>fun _ _ _ _=>none
 | n+1=>qgR k2 (qou k2 n) n
def qbC (s0:LU) (i4:Int) (k5:Int):=(List.drop i4.toNat (List.take k5.toNat s0))
def qkl (_k0:List (Int×(LU×Unit))→OA) (next:LU→List (Int×(LU×Unit))→Int→OA) (_n:Nat) (s0:LU) (out3:List (Int×(LU×Unit))) (i4:Int) (k5:Int):OA :=
 bif (((decide (0≤i4))&&(decide (i4≤k5)))&&(decide (k5≤(s0.length:Int)))) then bif (((decide (0≤i4))&&(decide (i4≤k5)))&&(decide (k5≤(s0.length:Int)))) then bif ((qJC (qbC s0 i4 k5))&&true) then bif (decide (out3.length+List.length ([((z66 (qbC s0 i4 k5)),((qbC s0 i4 k5),()))]:List (Int×(LU×Unit)))≤room)) then next s0 (out3++([((z66 (qbC s0 i4 k5)),((qbC s0 i4 k5),()))]:List (Int×(LU×Unit)))) k5 else none else none else none else none
def qkm (k0:List (Int×(LU×Unit))→OA) (next:LU→List (Int×(LU×Unit))→Int→OA) (n:Nat) (s0:LU) (out3:List (Int×(LU×Unit))) (i4:Int):OA :=
 bif (decide (i4 < (s0.length:Int))) then
 qou (qkl k0 next n) n s0 out3 i4 i4
 else
 k0 out3
def qqy (k0:List (Int×(LU×Unit))→OA):Nat→LU→List (Int×(LU×Unit))→Int→OA
 | 0=>fun _ _ _=>none
 | n+1=>qkm k0 (qqy k0 n) n
def qkn (_n:Nat) (out3:List (Int×(LU×Unit))):OA :=
 qKt out3
def qHX (n:Nat) (s0:LU):OA :=
 qqy (qkn n) n s0 ([]:List (Int×(LU×Unit))) (0:Int)
def qlK (s4:Bool):OA:=some (dg s4)
def qMT (_n:Nat) (l0:List (Int×(LU×Unit))) (i1:Int):OA :=
 bif ((decide (0≤i1))&&(decide (i1 < l0.length))) then
 bif ((l0.getD i1.toNat ((0:Int),(([]:LU),()))).1==(1:Int)) then
 bif (decide ((0:Int) < i1)) then
 bif (decide ((IntKind.wrap .i64 (i1+1)) < (l0.length:Int))) then
 bif ((decide (0≤(IntKind.wrap .i64 (i1 - (1:Int)))))&&(decide ((IntKind.wrap .i64 (i1 - (1:Int))) < l0.length))) then
 bif ((l0.getD (IntKind.wrap .i64 (i1 - (1:Int))).toNat ((0:Int),(([]:LU),()))).1==(3:Int)) then
 bif ((decide (0≤(IntKind.wrap .i64 (i1+1))))&&(decide ((IntKind.wrap .i64 (i1+1)) < l0.length))) then
 qlK ((l0.getD (IntKind.wrap .i64 (i1+1)).toNat ((0:Int),(([]:LU),()))).1==(3:Int))
 else none
 else
 qlK false
 else none
 else
 qlK false
 else
 qlK false
 else
 qlK false
 else none
def qKu (s2:List (Int×(LU×Unit))):OA:=some (.dat (.sl (.pair (.int .i64) (.pair (.sl .byte) .unit))) s2 (some (2,46)))
def qgS (k0:List (Int×(LU×Unit))→OA) (next:List (Int×(LU×Unit))→List (Int×(LU×Unit))→Int→OA) (_n:Nat) (l3:List (Int×(LU×Unit))) (out4:List (Int×(LU×Unit))) (i5:Int):OA :=
 bif (decide (i5 < (l3.length:Int))) then
 bif ((qyJ l3 i5)&&true) then
 bif (!(z41 l3 i5)) then
 bif ((decide (0≤i5))&&(decide (i5 < l3.length))) then
 bif (decide (out4.length+List.length ([(l3.getD i5.toNat ((0:Int),(([]:LU),())))]:List (Int×(LU×Unit)))≤room)) then
 next l3 (out4++([(l3.getD i5.toNat ((0:Int),(([]:LU),())))]:List (Int×(LU×Unit)))) (IntKind.wrap .i64 (i5+1))
 else none
 else none
 else
 next l3 out4 (IntKind.wrap .i64 (i5+1))
 else none
 else
 k0 out4
def qov (k0:List (Int×(LU×Unit))→OA):Nat→List (Int×(LU×Unit))→List (Int×(LU×Unit))→Int→OA
 | 0=>fun _ _ _=>none
 | n+1=>qgS k0 (qov k0 n) n
def qko (_n:Nat) (out4:List (Int×(LU×Unit))):OA :=
 qKu out4
def qHY (n:Nat) (s0:LU):OA :=
 bif ((qJF s0)&&true) then
 qov (qko n) n (z40 s0) ([]:List (Int×(LU×Unit))) (0:Int)
 else none
def qKv (s2:LU):OA:=some (db s2 (some (2,5)))
def qgT (k0:LU→OA) (next:LU→LU→Int→OA) (_n:Nat) (s0:LU) (out3:LU) (i4:Int):OA :=
 bif (decide (i4 < (s0.length:Int))) then
 bif ((decide (0≤i4))&&(decide (i4 < s0.length))) then
 bif (decide (out3.length+List.length ([(z109 (s0.getD i4.toNat (0:UInt8)))]:LU)≤room)) then
 next s0 (out3++([(z109 (s0.getD i4.toNat (0:UInt8)))]:LU)) (IntKind.wrap .i64 (i4+1))
 else none
 else none
 else
 k0 out3
def qsZ (k0:LU→OA):Nat→LU→LU→Int→OA
 | 0=>fun _ _ _=>none
 | n+1=>qgT k0 (qsZ k0 n) n
def qgU (_n:Nat) (out3:LU):OA :=
 qKv out3
def qHZ (n:Nat) (s0:LU):OA :=
 qsZ (qgU n) n s0 ([]:LU) (0:Int)
def qDJ (s2:LU):OA:=some (da s2)
def qet (k0:LU→Int→Int→OA) (next:LU→Int→Int→OA) (_n:Nat) (s0:LU) (a3:Int) (b4:Int):OA :=
 bif (decide (a3 < b4)) then
 bif ((decide (0≤a3))&&(decide (a3 < s0.length))) then
 bif (z79 (s0.getD a3.toNat (0:UInt8)) (2:Int)) then
 next s0 (IntKind.wrap .i64 (a3+1)) b4
 else
 k0 s0 a3 b4
 else none
 else
 k0 s0 a3 b4
def qgd (k0:LU→Int→Int→OA):Nat→LU→Int→Int→OA
 | 0=>fun _ _ _=>none
 | n+1=>qet k0 (qgd k0 n) n
def qeu (k2:LU→Int→Int→OA) (next:LU→Int→Int→OA) (_n:Nat) (s0:LU) (a3:Int) (b4:Int):OA :=
 bif (decide (a3 < b4)) then
 bif ((decide (0≤(IntKind.wrap .i64 (b4 - (1:Int)))))&&(decide ((IntKind.wrap .i64 (b4 - (1:Int))) < s0.length))) then
 bif (z79 (s0.getD (IntKind.wrap .i64 (b4 - (1:Int))).toNat (0:UInt8)) (2:Int)) then
 next s0 a3 (IntKind.wrap .i64 (b4 - (1:Int)))
 else
 k2 s0 a3 b4
 else none
 else
 k2 s0 a3 b4
def qge (k2:LU→Int→Int→OA):Nat→LU→Int→Int→OA
 | 0=>fun _ _ _=>none
 | n+1=>qeu k2 (qge k2 n) n
def qev (_n:Nat) (s0:LU) (a3:Int) (b4:Int):OA :=
 bif (((decide (0≤a3))&&(decide (a3≤b4)))&&(decide (b4≤(s0.length:Int)))) then
 qDJ (List.drop a3.toNat (List.take b4.toNat s0))
 else none
def qdf (n:Nat) (s0:LU) (a3:Int) (b4:Int):OA :=
 qge (qev n) n s0 a3 b4
def qvP (n:Nat) (s0:LU):OA :=
 qgd (qdf n) n s0 (0:Int) (s0.length:Int)
def qKw (s2:LU):OA:=some (da s2)
def qgV (k0:LU→Int→OA) (next:LU→Int→Int→OA) (_n:Nat) (s0:LU) (end3:Int) (i4:Int):OA :=
 bif (decide (0≤i4)) then
 bif ((decide (0≤i4))&&(decide (i4 < s0.length))) then
 bif ((s0.getD i4.toNat (0:UInt8))==(42:UInt8)) then
 next s0 i4 (IntKind.wrap .i64 (i4 - (1:Int)))
 else
 next s0 end3 (IntKind.wrap .i64 (i4 - (1:Int)))
 else none
 else
 k0 s0 end3
def qta (k0:LU→Int→OA):Nat→LU→Int→Int→OA
 | 0=>fun _ _ _=>none
 | n+1=>qgV k0 (qta k0 n) n
def qeV (_n:Nat) (s0:LU) (end3:Int):OA :=
 bif (((decide (0≤((0:Nat):Int)))&&(decide (((0:Nat):Int)≤end3)))&&(decide (end3≤(s0.length:Int)))) then
 bif ((qws (List.drop ((0:Nat):Int).toNat (List.take end3.toNat s0)))&&true) then
 qKw (z113 (List.drop ((0:Nat):Int).toNat (List.take end3.toNat s0)))
 else none
 else none
def qIa (n:Nat) (s0:LU):OA :=
 qta (qeV n) n s0 (s0.length:Int) (IntKind.wrap .i64 ((s0.length:Int) - (1:Int)))
def qkp (s2:List LU):OA:=some (.dat (.sl .str) s2 (some (2,9)))
def qMU (_n:Nat) (n0:Int):OA :=
 bif (n0==(1:Int)) then
 qkp ([([117,115,45,97,115,99,105,105]:LU),([97,115,99,105,105]:LU),([97,110,115,105,95,120,51,46,52,45,49,57,54,56]:LU),([105,115,111,54,52,54,45,117,115]:LU)]:List LU)
 else
 bif (n0==(2:Int)) then
 qkp ([([105,115,111,45,56,56,53,57,45,49]:LU),([105,115,111,95,56,56,53,57,45,49]:LU),([108,97,116,105,110,49]:LU),([108,49]:LU)]:List LU)
 else
 bif (n0==(3:Int)) then
 qkp ([([105,115,111,45,56,56,53,57,45,49,53]:LU),([105,115,111,95,56,56,53,57,45,49,53]:LU),([108,97,116,105,110,45,57]:LU)]:List LU)
 else
 bif (n0==(4:Int)) then
 qkp ([([119,105,110,100,111,119,115,45,49,50,53,50]:LU),([99,112,49,50,53,50]:LU)]:List LU)
 else
 bif (n0==(5:Int)) then
 qkp ([([117,116,102,45,56]:LU),([117,116,102,56]:LU)]:List LU)
 else
 qkp ([]:List LU)
def qaO (s2:Int) (s3:Int):OA:=some (.tup [(dc s2),(dc s3)])
def qgW (ret:Int→Int→OA) (k2:LU→Int→OA) (next:LU→Int→List LU→Int→OA) (_n:Nat) (b4:LU) (n5:Int) (l6:List LU) (i7:Int):OA :=
 bif (decide (i7 < (l6.length:Int))) then
 bif ((decide (0≤i7))&&(decide (i7 < l6.length))) then
 bif ((l6.getD i7.toNat ([]:LU))==b4) then
 ret n5 (0:Int)
 else
 next b4 n5 l6 (IntKind.wrap .i64 (i7+1))
 else none
 else
 k2 b4 n5
def qtb (ret:Int→Int→OA) (k2:LU→Int→OA):Nat→LU→Int→List LU→Int→OA
 | 0=>fun _ _ _ _=>none
 | n+1=>qgW ret k2 (qtb ret k2 n) n
def qkq (_ret:Int→Int→OA) (_k0:OA) (next:LU→Int→OA) (_n:Nat) (b4:LU) (n5:Int):OA :=
 next b4 (IntKind.wrap .i64 (n5+1))
def qkr (ret:Int→Int→OA) (k0:OA) (next:LU→Int→OA) (n:Nat) (b4:LU) (n5:Int):OA :=
 bif (decide (n5≤(5:Int))) then
 qtb ret (qkq ret k0 next n) n b4 n5 (z78 n5) (0:Int)
 else
 k0
def qks (ret:Int→Int→OA) (k0:OA):Nat→LU→Int→OA
 | 0=>fun _ _=>none
 | n+1=>qkr ret k0 (qks ret k0 n) n
def qdg (_n:Nat):OA :=
 qaO (0:Int) (10:Int)
def qIb (n:Nat) (s0:LU):OA :=
 bif ((qFw s0)&&true) then
 bif ((qFL (z77 s0))&&true) then
 qks qaO (qdg n) n (z76 (z77 s0)) (1:Int)
 else none
 else none
def qvQ (s2:Int):OA:=some (dc s2)
def qMV (_n:Nat) (s0:LU):OA :=
 bif ((qlk s0)&&true) then
 bif (((z42 s0).2) != (0:Int)) then
 qvQ (0:Int)
 else
 bif ((qwZ ((z42 s0).1).1)&&true) then
 bif (((z46 ((z42 s0).1).1).2) != (0:Int)) then
 qvQ (2:Int)
 else
 qvQ ((z46 ((z42 s0).1).1).1)
 else none
 else none
def qeW (s2:UInt8):OA:=some (dm s2)
def qbh (n0:Int):=(Int.tmod (IntKind.wrap .i64 ((Int.tmod n0 (64:Int))+(64:Int))) (64:Int))
def qDK (_n:Nat) (n0:Int):OA :=
 bif (decide ((qbh n0) < (26:Int))) then qeW (UInt8.ofNat (IntKind.wrap .u8 (IntKind.wrap .i64 ((65:Int)+(qbh n0)))).toNat) else bif (decide ((qbh n0) < (52:Int))) then qeW (UInt8.ofNat (IntKind.wrap .u8 (IntKind.wrap .i64 ((IntKind.wrap .i64 ((97:Int)+(qbh n0))) - (26:Int)))).toNat) else bif (decide ((qbh n0) < (62:Int))) then qeW (UInt8.ofNat (IntKind.wrap .u8 (IntKind.wrap .i64 ((IntKind.wrap .i64 ((48:Int)+(qbh n0))) - (52:Int)))).toNat) else bif ((qbh n0)==(62:Int)) then qeW (43:UInt8) else qeW (47:UInt8)
def qeX (s2:Int) (s3:Bool):OA:=some (.tup [(dc s2),(dg s3)])
def qew (ret:Int→Bool→OA) (k0:OA) (next:UInt8→Int→OA) (_n:Nat) (c0:UInt8) (n4:Int):OA :=
 bif (decide (n4 < (64:Int))) then
 bif ((z138 n4)==c0) then
 ret n4 true
 else
 next c0 (IntKind.wrap .i64 (n4+1))
 else
 k0
def qkt (ret:Int→Bool→OA) (k0:OA):Nat→UInt8→Int→OA
 | 0=>fun _ _=>none
 | n+1=>qew ret k0 (qkt ret k0 n) n
def qgf (_n:Nat):OA :=
 qeX (0:Int) false
def qvR (n:Nat) (c0:UInt8):OA :=
 qkt qeX (qgf n) n c0 (0:Int)
def qku (s2:LU) (s3:Int):OA:=some (.tup [(da s2),(dc s3)])
def qgX (k0:LU→Int→OA) (next:LU→LU→Int→Int→OA) (_n:Nat) (s0:LU) (out4:LU) (strange5:Int) (i6:Int):OA :=
 bif (decide (i6 < (s0.length:Int))) then
 bif ((decide (0≤i6))&&(decide (i6 < s0.length))) then
 bif ((s0.getD i6.toNat (0:UInt8)) != (61:UInt8)) then
 bif ((decide (0≤i6))&&(decide (i6 < s0.length))) then
 bif ((z110 (s0.getD i6.toNat (0:UInt8))).2) then
 bif ((decide (0≤i6))&&(decide (i6 < s0.length))) then
 bif (decide (out4.length+List.length ([(s0.getD i6.toNat (0:UInt8))]:LU)≤room)) then
 next s0 (out4++([(s0.getD i6.toNat (0:UInt8))]:LU)) strange5 (IntKind.wrap .i64 (i6+1))
 else none
 else none
 else
 next s0 out4 (IntKind.wrap .i64 (strange5+1)) (IntKind.wrap .i64 (i6+1))
 else none
 else
 k0 out4 strange5
 else none
 else
 k0 out4 strange5
def qtc (k0:LU→Int→OA):Nat→LU→LU→Int→Int→OA
 | 0=>fun _ _ _ _=>none
 | n+1=>qgX k0 (qtc k0 n) n
def qkv (_n:Nat) (out4:LU) (strange5:Int):OA :=
 qku out4 strange5
def qMW (n:Nat) (s0:LU):OA :=
 qtc (qkv n) n s0 ([]:LU) (0:Int) (0:Int)
def qdM (s2:LI) (s3:Bool):OA:=some (.tup [(.dat (.sl (.int .i64)) s2 none),(dg s3)])
def qow (k2:LU→LI→Int→OA) (next:LU→LI→Int→Int→Int→OA) (_n:Nat) (s0:LU) (out4:LI) (i5:Int) (n6:Int) (k8:Int):OA :=
 bif (decide (0≤k8)) then
 bif (decide (0≤k8)) then
 bif (decide (out4.length+List.length ([(Int.tmod (Int.fdiv n6 (2 ^ (min k8.toNat (IntKind.bits .i64)))) (2:Int))]:LI)≤room)) then
 next s0 (out4++([(Int.tmod (Int.fdiv n6 (2 ^ (min k8.toNat (IntKind.bits .i64)))) (2:Int))]:LI)) i5 n6 (IntKind.wrap .i64 (k8 - (1:Int)))
 else none
 else none
 else
 k2 s0 out4 i5
def qlg (k2:LU→LI→Int→OA):Nat→LU→LI→Int→Int→Int→OA
 | 0=>fun _ _ _ _ _=>none
 | n+1=>qow k2 (qlg k2 n) n
def qox (_ret:LI→Bool→OA) (_k0:LI→OA) (next:LU→LI→Int→OA) (_n:Nat) (s0:LU) (out4:LI) (i5:Int):OA :=
 next s0 out4 (IntKind.wrap .i64 (i5+1))
def qeY (ret:LI→Bool→OA) (k0:LI→OA) (next:LU→LI→Int→OA) (n:Nat) (s0:LU) (out4:LI) (i5:Int):OA :=
 bif (decide (i5 < (s0.length:Int))) then
 bif ((decide (0≤i5))&&(decide (i5 < s0.length))) then
 bif (!((z110 (s0.getD i5.toNat (0:UInt8))).2)) then
 ret ([]:LI) false
 else
 qlg (qox ret k0 next n) n s0 out4 i5 ((z110 (s0.getD i5.toNat (0:UInt8))).1) (5:Int)
 else none
 else
 k0 out4
def qoy (ret:LI→Bool→OA) (k0:LI→OA):Nat→LU→LI→Int→OA
 | 0=>fun _ _ _=>none
 | n+1=>qeY ret k0 (qoy ret k0 n) n
def qeZ (_n:Nat) (out4:LI):OA :=
 qdM out4 true
def qMX (n:Nat) (s0:LU):OA :=
 qoy qdM (qeZ n) n s0 ([]:LI) (0:Int)
def qDL (s2:Int):OA:=some (dc s2)
def qex (k0:Int→OA) (next:LI→Int→Int→OA) (_n:Nat) (l0:LI) (n3:Int) (i4:Int):OA :=
 bif (decide (i4 < (l0.length:Int))) then
 bif ((decide (0≤i4))&&(decide (i4 < l0.length))) then
 next l0 (IntKind.wrap .i64 ((IntKind.wrap .i64 ((2:Int)*n3))+(l0.getD i4.toNat 0))) (IntKind.wrap .i64 (i4+1))
 else none
 else
 k0 n3
def qkw (k0:Int→OA):Nat→LI→Int→Int→OA
 | 0=>fun _ _ _=>none
 | n+1=>qex k0 (qkw k0 n) n
def qgg (_n:Nat) (n3:Int):OA :=
 qDL n3
def qvS (n:Nat) (l0:LI):OA :=
 qkw (qgg n) n l0 (0:Int) (0:Int)
def qDM (s2:LU) (s3:Bool):OA:=some (.tup [(da s2),(dg s3)])
def qcL (l0:LI) (i5:Int):=(List.drop i5.toNat (List.take (IntKind.wrap .i64 (i5+(8:Int))).toNat l0))
def qgY (k0:LI→LU→Int→OA) (next:LI→LU→Int→OA) (_n:Nat) (l0:LI) (out4:LU) (i5:Int):OA :=
 bif (decide ((IntKind.wrap .i64 (i5+(8:Int)))≤(l0.length:Int))) then bif (((decide (0≤i5))&&(decide (i5≤(IntKind.wrap .i64 (i5+(8:Int))))))&&(decide ((IntKind.wrap .i64 (i5+(8:Int)))≤(l0.length:Int)))) then bif ((qfD (qcL l0 i5))&&true) then bif (decide (out4.length+List.length ([(UInt8.ofNat (IntKind.wrap .u8 (z111 (qcL l0 i5))).toNat)]:LU)≤room)) then next l0 (out4++([(UInt8.ofNat (IntKind.wrap .u8 (z111 (qcL l0 i5))).toNat)]:LU)) (IntKind.wrap .i64 (i5+(8:Int))) else none else none else none else k0 l0 out4 i5
def qtd (k0:LI→LU→Int→OA):Nat→LI→LU→Int→OA
 | 0=>fun _ _ _=>none
 | n+1=>qgY k0 (qtd k0 n) n
def qgZ (_n:Nat) (l0:LI) (out4:LU) (i5:Int):OA :=
 bif (((decide (0≤i5))&&(decide (i5≤(l0.length:Int))))&&(decide ((l0.length:Int)≤(l0.length:Int)))) then
 bif ((qfD (List.drop i5.toNat (List.take (l0.length:Int).toNat l0)))&&true) then
 qDM out4 ((z111 (List.drop i5.toNat (List.take (l0.length:Int).toNat l0)))==(0:Int))
 else none
 else none
def qMY (n:Nat) (l0:LI):OA :=
 qtd (qgZ n) n l0 ([]:LU) (0:Int)
def qKx (s2:LU) (s3:Int):OA:=some (.tup [(da s2),(dc s3)])
def qMZ (_n:Nat) (s0:LU):OA :=
 bif ((qFA s0)&&true) then
 bif ((qxa ((z70 s0).1))&&true) then
 bif ((qxb ((z71 ((z70 s0).1)).1))&&true) then
 qKx ((z72 ((z71 ((z70 s0).1)).1)).1) (Int.tmod (((z71 ((z70 s0).1)).1).length:Int) (8:Int))
 else none
 else none
 else none
def qte (s2:UInt8):OA:=some (dm s2)
def qgh (n0:Int):=(Int.tmod (IntKind.wrap .i64 ((Int.tmod n0 (16:Int))+(16:Int))) (16:Int))
def qDN (_n:Nat) (n0:Int):OA :=
 bif (decide ((qgh n0) < (10:Int))) then qte (UInt8.ofNat (IntKind.wrap .u8 (IntKind.wrap .i64 ((48:Int)+(qgh n0)))).toNat) else qte (UInt8.ofNat (IntKind.wrap .u8 (IntKind.wrap .i64 ((IntKind.wrap .i64 ((65:Int)+(qgh n0))) - (10:Int)))).toNat)
def qkx (s2:Int) (s3:Bool):OA:=some (.tup [(dc s2),(dg s3)])
def qey (ret:Int→Bool→OA) (k0:OA) (next:UInt8→Int→OA) (_n:Nat) (c0:UInt8) (n4:Int):OA :=
 bif (decide (n4 < (16:Int))) then
 bif ((qlv n4)&&true) then
 bif ((z139 n4)==c0) then
 ret n4 true
 else
 bif (decide ((10:Int)≤n4)) then
 bif ((qlv n4)&&true) then
 bif (((z139 n4)+(32:UInt8))==c0) then
 ret n4 true
 else
 next c0 (IntKind.wrap .i64 (n4+1))
 else none
 else
 next c0 (IntKind.wrap .i64 (n4+1))
 else none
 else
 k0
def qgi (ret:Int→Bool→OA) (k0:OA):Nat→UInt8→Int→OA
 | 0=>fun _ _=>none
 | n+1=>qey ret k0 (qgi ret k0 n) n
def qgj (_n:Nat):OA :=
 qkx (0:Int) false
def qDO (n:Nat) (c0:UInt8):OA :=
 qgi qkx (qgj n) n c0 (0:Int)
def qky (s6:UInt8) (s7:Bool):OA:=some (.tup [(dm s6),(dg s7)])
def qNa (_n:Nat) (s0:LU) (at1:Int) (sign2:UInt8):OA :=
 bif (decide (at1 < (0:Int))) then
 qky (0:UInt8) false
 else
 bif (decide ((IntKind.wrap .i64 ((s0.length:Int) - (3:Int))) < at1)) then
 qky (0:UInt8) false
 else
 bif ((decide (0≤at1))&&(decide (at1 < s0.length))) then
 bif ((s0.getD at1.toNat (0:UInt8)) != sign2) then
 qky (0:UInt8) false
 else
 bif ((decide (0≤(IntKind.wrap .i64 (at1+1))))&&(decide ((IntKind.wrap .i64 (at1+1)) < s0.length))) then
 bif ((decide (0≤(IntKind.wrap .i64 (at1+(2:Int)))))&&(decide ((IntKind.wrap .i64 (at1+(2:Int))) < s0.length))) then
 bif (!((z112 (s0.getD (IntKind.wrap .i64 (at1+1)).toNat (0:UInt8))).2)) then
 qky (0:UInt8) false
 else
 bif (!((z112 (s0.getD (IntKind.wrap .i64 (at1+(2:Int))).toNat (0:UInt8))).2)) then
 qky (0:UInt8) false
 else
 qky (UInt8.ofNat (IntKind.wrap .u8 (IntKind.wrap .i64 ((IntKind.wrap .i64 ((16:Int)*((z112 (s0.getD (IntKind.wrap .i64 (at1+1)).toNat (0:UInt8))).1)))+((z112 (s0.getD (IntKind.wrap .i64 (at1+(2:Int))).toNat (0:UInt8))).1)))).toNat) true
 else none
 else none
 else none
def qqz (s2:LU) (s3:Int):OA:=some (.tup [(da s2),(dc s3)])
def qoz (k0:LU→Int→OA) (next:LU→LU→Int→Int→OA) (_n:Nat) (s0:LU) (out4:LU) (strange5:Int) (i6:Int):OA :=
 bif (decide (i6 < (s0.length:Int))) then
 bif ((qFr s0 i6 (61:UInt8))&&true) then
 bif ((z73 s0 i6 (61:UInt8)).2) then
 bif (decide (out4.length+List.length ([((z73 s0 i6 (61:UInt8)).1)]:LU)≤room)) then
 next s0 (out4++([((z73 s0 i6 (61:UInt8)).1)]:LU)) strange5 (IntKind.wrap .i64 ((IntKind.wrap .i64 (i6+(2:Int)))+1))
 else none
 else
 bif ((decide (0≤i6))&&(decide (i6 < s0.length))) then
 bif ((s0.getD i6.toNat (0:UInt8))==(95:UInt8)) then
 bif (decide (out4.length+List.length ([(32:UInt8)]:LU)≤room)) then
 next s0 (out4++([(32:UInt8)]:LU)) strange5 (IntKind.wrap .i64 (i6+1))
 else none
 else
 bif ((decide (0≤i6))&&(decide (i6 < s0.length))) then
 bif ((s0.getD i6.toNat (0:UInt8))==(61:UInt8)) then
 bif (decide (out4.length+List.length ([(61:UInt8)]:LU)≤room)) then
 next s0 (out4++([(61:UInt8)]:LU)) (IntKind.wrap .i64 (strange5+1)) (IntKind.wrap .i64 (i6+1))
 else none
 else
 bif ((decide (0≤i6))&&(decide (i6 < s0.length))) then
 bif (decide (out4.length+List.length ([(s0.getD i6.toNat (0:UInt8))]:LU)≤room)) then
 next s0 (out4++([(s0.getD i6.toNat (0:UInt8))]:LU)) strange5 (IntKind.wrap .i64 (i6+1))
 else none
 else none
 else none
 else none
 else none
 else
 k0 out4 strange5
def qtf (k0:LU→Int→OA):Nat→LU→LU→Int→Int→OA
 | 0=>fun _ _ _ _=>none
 | n+1=>qoz k0 (qtf k0 n) n
def qkz (_n:Nat) (out4:LU) (strange5:Int):OA :=
 qqz out4 strange5
def qNb (n:Nat) (s0:LU):OA :=
 qtf (qkz n) n s0 ([]:LU) (0:Int) (0:Int)
def qbi (s2:Int):OA:=some (dc s2)
def qNc (_n:Nat) (c0:UInt8):OA :=
 bif (decide (c0 < (128:UInt8))) then
 qbi (1:Int)
 else
 bif (decide ((194:UInt8)≤c0)) then
 bif (decide (c0≤(223:UInt8))) then
 qbi (2:Int)
 else
 bif (decide ((224:UInt8)≤c0)) then
 bif (decide (c0≤(239:UInt8))) then
 qbi (3:Int)
 else
 bif (decide ((240:UInt8)≤c0)) then
 bif (decide (c0≤(244:UInt8))) then
 qbi (4:Int)
 else
 qbi (0:Int)
 else
 qbi (0:Int)
 else
 bif (decide ((240:UInt8)≤c0)) then
 bif (decide (c0≤(244:UInt8))) then
 qbi (4:Int)
 else
 qbi (0:Int)
 else
 qbi (0:Int)
 else
 bif (decide ((224:UInt8)≤c0)) then
 bif (decide (c0≤(239:UInt8))) then
 qbi (3:Int)
 else
 bif (decide ((240:UInt8)≤c0)) then
 bif (decide (c0≤(244:UInt8))) then
 qbi (4:Int)
 else
 qbi (0:Int)
 else
 qbi (0:Int)
 else
 bif (decide ((240:UInt8)≤c0)) then
 bif (decide (c0≤(244:UInt8))) then
 qbi (4:Int)
 else
 qbi (0:Int)
 else
 qbi (0:Int)
def qha (s2:UInt8) (s3:UInt8):OA:=some (.tup [(dm s2),(dm s3)])
def qDP (_n:Nat) (c0:UInt8):OA :=
 bif (c0==(224:UInt8)) then
 qha (160:UInt8) (191:UInt8)
 else
 bif (c0==(237:UInt8)) then
 qha (128:UInt8) (159:UInt8)
 else
 bif (c0==(240:UInt8)) then
 qha (144:UInt8) (191:UInt8)
 else
 bif (c0==(244:UInt8)) then
 qha (128:UInt8) (143:UInt8)
 else
 qha (128:UInt8) (191:UInt8)
def qeG (s2:Int):OA:=some (dc s2)
def qbD (s0:LU) (n3:Int):=((decide (0≤n3))&&(decide (n3 < s0.length)))
def qhb (ret:Int→OA) (k0:Int→OA) (next:LU→Int→OA) (_n:Nat) (s0:LU) (n3:Int):OA :=
 bif ((decide (0≤(0:Int)))&&(decide ((0:Int) < s0.length))) then bif (decide (n3 < (z81 (s0.getD (0:Int).toNat (0:UInt8))))) then bif (decide (n3 < (s0.length:Int))) then bif (n3==(1:Int)) then bif ((decide (0≤(0:Int)))&&(decide ((0:Int) < s0.length))) then bif (qbD s0 n3) then bif (decide ((s0.getD n3.toNat (0:UInt8)) < ((z115 (s0.getD (0:Int).toNat (0:UInt8))).1))) then ret n3 else bif (qbD s0 n3) then bif (decide (((z115 (s0.getD (0:Int).toNat (0:UInt8))).2) < (s0.getD n3.toNat (0:UInt8)))) then ret n3 else next s0 (IntKind.wrap .i64 (n3+1)) else none else none else none else bif (qbD s0 n3) then bif (decide ((s0.getD n3.toNat (0:UInt8)) < (128:UInt8))) then ret n3 else bif (qbD s0 n3) then bif (decide ((191:UInt8) < (s0.getD n3.toNat (0:UInt8)))) then ret n3 else next s0 (IntKind.wrap .i64 (n3+1)) else none else none else k0 n3 else k0 n3 else none
def qqA (ret:Int→OA) (k0:Int→OA):Nat→LU→Int→OA
 | 0=>fun _ _=>none
 | n+1=>qhb ret k0 (qqA ret k0 n) n
def qhc (_n:Nat) (n3:Int):OA :=
 qeG n3
def qIc (n:Nat) (s0:LU):OA :=
 bif ((s0.length:Int)==(0:Int)) then
 qeG (0:Int)
 else
 bif ((decide (0≤(0:Int)))&&(decide ((0:Int) < s0.length))) then
 bif ((z81 (s0.getD (0:Int).toNat (0:UInt8)))==(0:Int)) then
 qeG (0:Int)
 else
 qqA qeG (qhc n) n s0 (1:Int)
 else none
def qeH (s2:Int) (s3:Int) (s4:Int):OA:=some (.tup [(di s2 none),(dc s3),(dc s4)])
def qhd (k0:Int→Int→OA) (next:LU→Int→Int→Int→OA) (_n:Nat) (s0:LU) (n5:Int) (c7:Int) (i8:Int):OA :=
 bif (decide (i8 < n5)) then
 bif ((decide (0≤i8))&&(decide (i8 < s0.length))) then
 next s0 n5 (IntKind.wrap .i64 ((IntKind.wrap .i64 ((IntKind.wrap .i64 ((64:Int)*c7))+(IntKind.wrap .i64 ((UInt8.toNat (s0.getD i8.toNat (0:UInt8)):Nat):Int)))) - (128:Int))) (IntKind.wrap .i64 (i8+1))
 else none
 else
 k0 n5 c7
def qtg (k0:Int→Int→OA):Nat→LU→Int→Int→Int→OA
 | 0=>fun _ _ _ _=>none
 | n+1=>qhd k0 (qtg k0 n) n
def qkA (_n:Nat) (n5:Int) (c7:Int):OA :=
 qeH (IntKind.wrap .i32 c7) n5 (0:Int)
def qId (n:Nat) (s0:LU):OA :=
 bif ((s0.length:Int)==(0:Int)) then
 qeH (0:Int) (0:Int) (4:Int)
 else
 bif ((qFt s0)&&true) then
 bif (decide ((0:Int) < (z80 s0))) then
 bif ((decide (0≤(0:Int)))&&(decide ((0:Int) < s0.length))) then
 bif ((z80 s0)==(z81 (s0.getD (0:Int).toNat (0:UInt8)))) then
 bif ((decide (0≤(0:Int)))&&(decide ((0:Int) < s0.length))) then
 bif ((decide (0≤(z80 s0)))&&(decide ((z80 s0) < ([(0:Int),(0:Int),(192:Int),(224:Int),(240:Int)]:LI).length))) then
 qtg (qkA n) n s0 (z80 s0) (IntKind.wrap .i64 ((IntKind.wrap .i64 ((UInt8.toNat (s0.getD (0:Int).toNat (0:UInt8)):Nat):Int)) - (([(0:Int),(0:Int),(192:Int),(224:Int),(240:Int)]:LI).getD (z80 s0).toNat 0))) (1:Int)
 else none
 else none
 else
 bif ((z80 s0)==(s0.length:Int)) then
 qeH (0:Int) (z80 s0) (4:Int)
 else
 qeH (0:Int) (bif (decide ((1:Int) > (z80 s0))) then (1:Int) else (z80 s0)) (3:Int)
 else none
 else
 bif ((z80 s0)==(s0.length:Int)) then
 qeH (0:Int) (z80 s0) (4:Int)
 else
 qeH (0:Int) (bif (decide ((1:Int) > (z80 s0))) then (1:Int) else (z80 s0)) (3:Int)
 else none
def qqB (s2:LI) (s3:Int) (s4:Int):OA:=some (.tup [(.dat (.sl (.int .i32)) s2 none),(dc s3),(dc s4)])
def qaW (s0:LU) (at8:Int):=(z49 (List.drop at8.toNat (List.take (s0.length:Int).toNat s0)))
def qez (s0:LU) (at8:Int):=(IntKind.wrap .i64 (at8+(bif (decide ((1:Int) > ((qaW s0 at8).2.1))) then (1:Int) else ((qaW s0 at8).2.1))))
def qoA (k0:LI→Int→Int→OA) (next:LU→LI→Int→Int→Int→OA) (_n:Nat) (s0:LU) (out5:LI) (broken6:Int) (first7:Int) (at8:Int):OA :=
 bif (decide (at8 < (s0.length:Int))) then bif (((decide (0≤at8))&&(decide (at8≤(s0.length:Int))))&&(decide ((s0.length:Int)≤(s0.length:Int)))) then bif ((qFu (List.drop at8.toNat (List.take (s0.length:Int).toNat s0)))&&true) then bif (((qaW s0 at8).2.2) != (0:Int)) then bif (first7==(0:Int)) then bif (decide (out5.length+List.length ([(65533:Int)]:LI)≤room)) then next s0 (out5++([(65533:Int)]:LI)) (IntKind.wrap .i64 (broken6+1)) ((qaW s0 at8).2.2) (qez s0 at8) else none else bif (decide (out5.length+List.length ([(65533:Int)]:LI)≤room)) then next s0 (out5++([(65533:Int)]:LI)) (IntKind.wrap .i64 (broken6+1)) first7 (qez s0 at8) else none else bif (decide (out5.length+List.length ([((qaW s0 at8).1)]:LI)≤room)) then next s0 (out5++([((qaW s0 at8).1)]:LI)) broken6 first7 (qez s0 at8) else none else none else none else k0 out5 broken6 first7
def qqC (k0:LI→Int→Int→OA):Nat→LU→LI→Int→Int→Int→OA
 | 0=>fun _ _ _ _ _=>none
 | n+1=>qoA k0 (qqC k0 n) n
def qhe (_n:Nat) (out5:LI) (broken6:Int) (first7:Int):OA :=
 qqB out5 broken6 first7
def qNd (n:Nat) (s0:LU):OA :=
 qqC (qhe n) n s0 ([]:LI) (0:Int) (0:Int) (0:Int)
def qeI (s2:Int):OA:=some (di s2 none)
def qNe (_n:Nat) (x0:UInt8):OA :=
 bif (x0==(164:UInt8)) then
 qeI (8364:Int)
 else
 bif (x0==(166:UInt8)) then
 qeI (352:Int)
 else
 bif (x0==(168:UInt8)) then
 qeI (353:Int)
 else
 bif (x0==(180:UInt8)) then
 qeI (381:Int)
 else
 bif (x0==(184:UInt8)) then
 qeI (382:Int)
 else
 bif (x0==(188:UInt8)) then
 qeI (338:Int)
 else
 bif (x0==(189:UInt8)) then
 qeI (339:Int)
 else
 bif (x0==(190:UInt8)) then
 qeI (376:Int)
 else
 qeI (IntKind.wrap .i32 ((UInt8.toNat x0:Nat):Int))
def qvT (s2:Int):OA:=some (di s2 none)
def qoB:=([(8364:Int),(65533:Int),(8218:Int),(402:Int),(8222:Int),(8230:Int),(8224:Int),(8225:Int),(710:Int),(8240:Int),(352:Int),(8249:Int),(338:Int),(65533:Int),(381:Int),(65533:Int),(65533:Int),(8216:Int),(8217:Int),(8220:Int),(8221:Int),(8226:Int),(8211:Int),(8212:Int),(732:Int),(8482:Int),(353:Int),(8250:Int),(339:Int),(65533:Int),(382:Int),(376:Int)]:LI)
def qNf (_n:Nat) (x0:UInt8):OA :=
 bif (decide (x0 < (128:UInt8))) then qvT (IntKind.wrap .i32 ((UInt8.toNat x0:Nat):Int)) else bif (decide ((159:UInt8) < x0)) then qvT (IntKind.wrap .i32 ((UInt8.toNat x0:Nat):Int)) else bif ((decide (0≤((UInt8.toNat (x0 - (128:UInt8)):Nat):Int)))&&(decide (((UInt8.toNat (x0 - (128:UInt8)):Nat):Int) < (qoB).length))) then qvT ((qoB).getD ((UInt8.toNat (x0 - (128:UInt8)):Nat):Int).toNat 0) else none
def qqD (s4:LI):OA:=some (.dat (.sl (.int .i32)) s4 none)
def qap (s1:LU) (i9:Int):=((decide (0≤i9))&&(decide (i9 < s1.length)))
def qQ (s1:LU) (i9:Int):=(s1.getD i9.toNat (0:UInt8))
def qbE (s1:LU) (i9:Int):=([(IntKind.wrap .i32 ((UInt8.toNat (qQ s1 i9):Nat):Int))]:LI)
def qhf (k0:LI→OA) (next:Int→LU→LI→Int→OA) (_n:Nat) (charset0:Int) (s1:LU) (out8:LI) (i9:Int):OA :=
 bif (decide (i9 < (s1.length:Int))) then bif (charset0==(1:Int)) then bif (qap s1 i9) then bif (decide ((127:UInt8) < (qQ s1 i9))) then bif (decide (out8.length+List.length ([(65533:Int)]:LI)≤room)) then next charset0 s1 (out8++([(65533:Int)]:LI)) (IntKind.wrap .i64 (i9+1)) else none else bif (charset0==(3:Int)) then bif (qap s1 i9) then bif (decide (out8.length+List.length ([(z74 (qQ s1 i9))]:LI)≤room)) then next charset0 s1 (out8++([(z74 (qQ s1 i9))]:LI)) (IntKind.wrap .i64 (i9+1)) else none else none else bif (charset0==(4:Int)) then bif (qap s1 i9) then bif (decide (out8.length+List.length ([(z75 (qQ s1 i9))]:LI)≤room)) then next charset0 s1 (out8++([(z75 (qQ s1 i9))]:LI)) (IntKind.wrap .i64 (i9+1)) else none else none else bif (qap s1 i9) then bif (decide (out8.length+List.length (qbE s1 i9)≤room)) then next charset0 s1 (out8++(qbE s1 i9)) (IntKind.wrap .i64 (i9+1)) else none else none else none else bif (charset0==(3:Int)) then bif (qap s1 i9) then bif (decide (out8.length+List.length ([(z74 (qQ s1 i9))]:LI)≤room)) then next charset0 s1 (out8++([(z74 (qQ s1 i9))]:LI)) (IntKind.wrap .i64 (i9+1)) else none else none else bif (charset0==(4:Int)) then bif (qap s1 i9) then bif (decide (out8.length+List.length ([(z75 (qQ s1 i9))]:LI)≤room)) then next charset0 s1 (out8++([(z75 (qQ s1 i9))]:LI)) (IntKind.wrap .i64 (i9+1)) else none else none else bif (qap s1 i9) then bif (decide (out8.length+List.length (qbE s1 i9)≤room)) then next charset0 s1 (out8++(qbE s1 i9)) (IntKind.wrap .i64 (i9+1)) else none else none else k0 out8
def qth (k0:LI→OA):Nat→Int→LU→LI→Int→OA
 | 0=>fun _ _ _ _=>none
 | n+1=>qhf k0 (qth k0 n) n
def qhg (_n:Nat) (out8:LI):OA :=
 qqD out8
def qIe (n:Nat) (charset0:Int) (s1:LU):OA :=
 bif (charset0==(5:Int)) then
 bif ((qwW s1)&&true) then
 qqD ((z27 s1).1)
 else none
 else
 qth (qhg n) n charset0 s1 ([]:LI) (0:Int)
def qvU (s2:LI) (s3:Bool):OA:=some (.tup [(.dat (.sl (.int .i32)) s2 none),(dg s3)])
def qNg (_n:Nat) (s0:LU):OA :=
 bif ((qlk s0)&&true) then
 bif (((z42 s0).2) != (0:Int)) then
 qvU ([]:LI) false
 else
 bif (((z42 s0).1).2.1==(1:Int)) then
 bif ((qFB ((z42 s0).1).2.2.1)&&true) then
 bif ((qrJ s0)&&true) then
 bif ((qwX (z25 s0) ((z43 ((z42 s0).1).2.2.1).1))&&true) then
 qvU (z45 (z25 s0) ((z43 ((z42 s0).1).2.2.1).1)) true
 else none
 else none
 else none
 else
 bif ((qxc ((z42 s0).1).2.2.1)&&true) then
 bif ((qrJ s0)&&true) then
 bif ((qwX (z25 s0) ((z44 ((z42 s0).1).2.2.1).1))&&true) then
 qvU (z45 (z25 s0) ((z44 ((z42 s0).1).2.2.1).1)) true
 else none
 else none
 else none
 else none
def qlL (s2:LU) (s3:Int):OA:=some (.tup [(da s2),(dc s3)])
def qhh (k0:LU→Int→OA) (next:LU→Int→Int→OA) (_n:Nat) (s0:LU) (end4:Int) (k5:Int):OA :=
 bif (decide (k5 < (2:Int))) then
 bif (decide ((0:Int) < end4)) then
 bif ((decide (0≤(IntKind.wrap .i64 (end4 - (1:Int)))))&&(decide ((IntKind.wrap .i64 (end4 - (1:Int))) < s0.length))) then
 bif ((s0.getD (IntKind.wrap .i64 (end4 - (1:Int))).toNat (0:UInt8))==(61:UInt8)) then
 next s0 (IntKind.wrap .i64 (end4 - (1:Int))) (IntKind.wrap .i64 (k5+1))
 else
 k0 s0 end4
 else none
 else
 k0 s0 end4
 else
 k0 s0 end4
def qlh (k0:LU→Int→OA):Nat→LU→Int→Int→OA
 | 0=>fun _ _ _=>none
 | n+1=>qhh k0 (qlh k0 n) n
def qbF (s0:LU) (end4:Int):=(List.drop ((0:Nat):Int).toNat (List.take end4.toNat s0))
def qbV (_n:Nat) (s0:LU) (end4:Int):OA :=
 bif (((decide (0≤((0:Nat):Int)))&&(decide (((0:Nat):Int)≤end4)))&&(decide (end4≤(s0.length:Int)))) then bif ((qxa (qbF s0 end4))&&true) then bif (!((z71 (qbF s0 end4)).2)) then qlL ([]:LU) (3:Int) else bif ((Int.tmod (s0.length:Int) (4:Int)) != (0:Int)) then qlL ([]:LU) (4:Int) else bif ((qxb ((z71 (qbF s0 end4)).1))&&true) then bif (!((z72 ((z71 (qbF s0 end4)).1)).2)) then qlL ([]:LU) (3:Int) else qlL ((z72 ((z71 (qbF s0 end4)).1)).1) (0:Int) else none else none else none
def qNh (n:Nat) (s0:LU):OA :=
 qlh (qbV n) n s0 (s0.length:Int) (0:Int)
def qhF (s2:Int):OA:=some (dc s2)
def qhi (ret:Int→OA) (k0:LU→OA) (next:LU→Int→OA) (_n:Nat) (s0:LU) (i3:Int):OA :=
 bif (decide (i3 < (s0.length:Int))) then
 bif ((decide (0≤i3))&&(decide (i3 < s0.length))) then
 bif (!(z79 (s0.getD i3.toNat (0:UInt8)) (4:Int))) then
 ret (3:Int)
 else
 bif ((decide (0≤i3))&&(decide (i3 < s0.length))) then
 bif ((s0.getD i3.toNat (0:UInt8))==(63:UInt8)) then
 ret (3:Int)
 else
 next s0 (IntKind.wrap .i64 (i3+1))
 else none
 else none
 else
 k0 s0
def qti (ret:Int→OA) (k0:LU→OA):Nat→LU→Int→OA
 | 0=>fun _ _=>none
 | n+1=>qhi ret k0 (qti ret k0 n) n
def qfa (_n:Nat) (s0:LU):OA :=
 bif ((qxc s0)&&true) then
 bif (decide ((0:Int) < ((z44 s0).2))) then
 qhF (3:Int)
 else
 qhF (0:Int)
 else none
def qNi (n:Nat) (s0:LU):OA :=
 qti qhF (qfa n) n s0 (0:Int)
def qqE (s2:Bool):OA:=some (dg s2)
def qNj (_n:Nat) (s0:LU):OA :=
 bif ((qlk s0)&&true) then
 bif (((z42 s0).2) != (0:Int)) then
 qqE false
 else
 bif ((qwZ ((z42 s0).1).1)&&true) then
 bif (((z46 ((z42 s0).1).1).2) != (0:Int)) then
 qqE false
 else
 bif (((z42 s0).1).2.1==(1:Int)) then
 bif ((qFy ((z42 s0).1).2.2.1)&&true) then
 qqE (((z47 ((z42 s0).1).2.2.1).2)==(0:Int))
 else none
 else
 bif ((qFE ((z42 s0).1).2.2.1)&&true) then
 qqE ((z48 ((z42 s0).1).2.2.1)==(0:Int))
 else none
 else none
 else none
def qKy (s2:List LI) (s3:Int) (s4:LI):OA:=some (.tup [(.dat (.sl (.sl (.int .i32))) s2 none),(dc s3),(.dat (.sl (.int .i64)) s4 none)])
def qE (l8:List (Int×(LU×Unit))) (i9:Int):=(l8.getD i9.toNat ((0:Int),(([]:LU),())))
def qaX (l8:List (Int×(LU×Unit))) (i9:Int):=((decide (0≤i9))&&(decide (i9 < l8.length)))
def qhj (k0:List LI→LI→Int→OA) (next:List LI→LI→Int→List (Int×(LU×Unit))→Int→OA) (_n:Nat) (out5:List LI) (sets6:LI) (odd7:Int) (l8:List (Int×(LU×Unit))) (i9:Int):OA :=
 bif (decide (i9 < (l8.length:Int))) then bif (qaX l8 i9) then bif ((qE l8 i9).1==(3:Int)) then bif (qaX l8 i9) then bif ((qFI (qE l8 i9).2.1)&&true) then bif (decide (out5.length+List.length ([((z24 (qE l8 i9).2.1).1)]:List LI)≤room)) then bif (qaX l8 i9) then bif ((qrJ (qE l8 i9).2.1)&&true) then bif (decide (sets6.length+List.length ([(z25 (qE l8 i9).2.1)]:LI)≤room)) then bif (qaX l8 i9) then bif ((qFG (qE l8 i9).2.1)&&true) then bif (!(z26 (qE l8 i9).2.1)) then next (out5++([((z24 (qE l8 i9).2.1).1)]:List LI)) (sets6++([(z25 (qE l8 i9).2.1)]:LI)) (IntKind.wrap .i64 (odd7+1)) l8 (IntKind.wrap .i64 (i9+1)) else next (out5++([((z24 (qE l8 i9).2.1).1)]:List LI)) (sets6++([(z25 (qE l8 i9).2.1)]:LI)) odd7 l8 (IntKind.wrap .i64 (i9+1)) else none else none else none else none else none else none else none else none else bif (qaX l8 i9) then bif ((qwW (qE l8 i9).2.1)&&true) then bif (decide (out5.length+List.length ([((z27 (qE l8 i9).2.1).1)]:List LI)≤room)) then next (out5++([((z27 (qE l8 i9).2.1).1)]:List LI)) sets6 odd7 l8 (IntKind.wrap .i64 (i9+1)) else none else none else none else none else k0 out5 sets6 odd7
def qtj (k0:List LI→LI→Int→OA):Nat→List LI→LI→Int→List (Int×(LU×Unit))→Int→OA
 | 0=>fun _ _ _ _ _=>none
 | n+1=>qhj k0 (qtj k0 n) n
def qkB (_n:Nat) (out5:List LI) (sets6:LI) (odd7:Int):OA :=
 qKy out5 odd7 sets6
def qIf (n:Nat) (s0:LU):OA :=
 bif ((qJH s0)&&true) then
 qtj (qkB n) n ([]:List LI) ([]:LI) (0:Int) (z23 s0) (0:Int)
 else none
def qKz (s2:LI):OA:=some (.dat (.sl (.int .i32)) s2 (some (2,21)))
def qhk (k0:LI→OA) (next:LI→List LI→Int→OA) (_n:Nat) (out3:LI) (l4:List LI) (i7:Int):OA :=
 bif (decide (i7 < (l4.length:Int))) then
 bif ((decide (0≤i7))&&(decide (i7 < l4.length))) then
 bif (decide (out3.length+List.length (l4.getD i7.toNat ([]:LI))≤room)) then
 next (out3++(l4.getD i7.toNat ([]:LI))) l4 (IntKind.wrap .i64 (i7+1))
 else none
 else none
 else
 k0 out3
def qtk (k0:LI→OA):Nat→LI→List LI→Int→OA
 | 0=>fun _ _ _=>none
 | n+1=>qhk k0 (qtk k0 n) n
def qkC (_n:Nat) (out3:LI):OA :=
 qKz out3
def qIg (n:Nat) (s0:LU):OA :=
 bif ((qHM s0)&&true) then
 qtk (qkC n) n ([]:LI) ((z14 s0).1) (0:Int)
 else none
def qkD (s4:Bool):OA:=some (dg s4)
def qNk (_n:Nat) (s0:LU) (i1:Int):OA :=
 bif (decide ((IntKind.wrap .i64 (i1+(2:Int))) < (s0.length:Int))) then
 bif ((decide (0≤i1))&&(decide (i1 < s0.length))) then
 bif ((s0.getD i1.toNat (0:UInt8))==(13:UInt8)) then
 bif ((decide (0≤(IntKind.wrap .i64 (i1+1))))&&(decide ((IntKind.wrap .i64 (i1+1)) < s0.length))) then
 bif ((s0.getD (IntKind.wrap .i64 (i1+1)).toNat (0:UInt8))==(10:UInt8)) then
 bif ((decide (0≤(IntKind.wrap .i64 (i1+(2:Int)))))&&(decide ((IntKind.wrap .i64 (i1+(2:Int))) < s0.length))) then
 bif ((s0.getD (IntKind.wrap .i64 (i1+(2:Int))).toNat (0:UInt8))==(32:UInt8)) then
 qkD true
 else
 bif ((decide (0≤(IntKind.wrap .i64 (i1+(2:Int)))))&&(decide ((IntKind.wrap .i64 (i1+(2:Int))) < s0.length))) then
 qkD ((s0.getD (IntKind.wrap .i64 (i1+(2:Int))).toNat (0:UInt8))==(9:UInt8))
 else none
 else none
 else
 qkD false
 else none
 else
 qkD false
 else none
 else
 qkD false
def qKA (s2:LU) (s3:Int):OA:=some (.tup [(da s2),(dc s3)])
def qhl (k0:LU→Int→OA) (next:LU→LU→Int→Int→OA) (_n:Nat) (s0:LU) (out4:LU) (n5:Int) (i6:Int):OA :=
 bif (decide (i6 < (s0.length:Int))) then
 bif ((qyQ s0 i6)&&true) then
 bif (z22 s0 i6) then
 next s0 out4 (IntKind.wrap .i64 (n5+1)) (IntKind.wrap .i64 ((IntKind.wrap .i64 (i6+1))+1))
 else
 bif ((decide (0≤i6))&&(decide (i6 < s0.length))) then
 bif (decide (out4.length+List.length ([(s0.getD i6.toNat (0:UInt8))]:LU)≤room)) then
 next s0 (out4++([(s0.getD i6.toNat (0:UInt8))]:LU)) n5 (IntKind.wrap .i64 (i6+1))
 else none
 else none
 else none
 else
 k0 out4 n5
def qoC (k0:LU→Int→OA):Nat→LU→LU→Int→Int→OA
 | 0=>fun _ _ _ _=>none
 | n+1=>qhl k0 (qoC k0 n) n
def qhm (_n:Nat) (out4:LU) (n5:Int):OA :=
 qKA out4 n5
def qNl (n:Nat) (s0:LU):OA :=
 qoC (qhm n) n s0 ([]:LU) (0:Int) (0:Int)
def qKB (s2:LI):OA:=some (.dat (.sl (.int .i32)) s2 (some (2,21)))
def qNm (_n:Nat) (s0:LU):OA :=
 bif ((qJJ s0)&&true) then
 bif ((qym ((z13 s0).1))&&true) then
 qKB (z12 ((z13 s0).1))
 else none
 else none
def qDQ (s2:Bool):OA:=some (dg s2)
def z3_sh (_n:Nat) (s0:LU):OA :=
 bif (decide ((500:Int) < (s0.length:Int))) then
 qDQ z7
 else
 bif ((z9_ok s0)&&true) then
 bif ((qHN s0)&&true) then
 bif ((z8_ok (z9 s0) (z10 s0))&&true) then
 bif (z8 (z9 s0) (z10 s0)) then
 bif ((qyl s0)&&true) then
 bif ((qym s0)&&true) then
 bif ((z8_ok (z11 s0) (z12 s0))&&true) then
 bif (z8 (z11 s0) (z12 s0)) then
 qDQ z7
 else
 qDQ false
 else none
 else none
 else none
 else
 qDQ false
 else none
 else none
 else none
end
end Go.Av
