import Derived.Test.YtnfehbljinflbaaGreatDoorRRRRErM
import Derived.Test.YtnfehbljinflbaaGreatDoorRRRRAvE
namespace Go.Av
set_option linter.unusedSimpArgs false
set_option linter.unusedVariables false
noncomputable section
def qso (s4:Bool):Option AV:=some (dg s4)
def qiM (ret:Bool→Option AV) (k0:Option AV) (next:List Int→List Int→Int→Option AV) (_n:Nat) (a0:List Int) (b1:List Int) (i5:Int):Option AV :=
 bif (decide (i5 < (a0.length:Int))) then
 bif ((decide (0≤i5))&&(decide (i5 < a0.length))) then
 bif ((decide (0≤i5))&&(decide (i5 < b1.length))) then
 bif ((a0.getD i5.toNat 0) != (b1.getD i5.toNat 0)) then
 ret false
 else
 next a0 b1 (IntKind.wrap .i64 (i5+1))
 else none
 else none
 else
 k0
def z8_l4 (ret:Bool→Option AV) (k0:Option AV):Nat→List Int→List Int→Int→Option AV
 | 0=>fun _ _ _=>none
 | n+1=>qiM ret k0 (z8_l4 ret k0 n) n
def qqf (_n:Nat):Option AV :=
 qso true
def z8_sh (n:Nat) (a0:List Int) (b1:List Int):Option AV :=
 bif ((a0.length:Int) != (b1.length:Int)) then
 qso false
 else
 z8_l4 qso (qqf n) n a0 b1 (0:Int)
def qBe (s10:List Int):Option AV:=some (.tup [(.tup []),.bad,.bad,(.pbox (.osl 21 (.int .i32)) s10 none)])
def qDe (_n:Nat) (_x0:Int×((List UInt8)×Unit)) (t1:List Int) (x2:List Int):Option AV :=
 bif (decide (x2.length+t1.length≤room)) then
 qBe (x2++t1)
 else none
def qBf (s11:List (List Int)):Option AV:=some (.tup [(.tup []),.bad,.bad,(.pbox (.osl 25 (.sl (.int .i32))) s11 none)])
def qDf (_n:Nat) (_x0:Int×((List UInt8)×Unit)) (t1:List Int) (x2:List (List Int)):Option AV :=
 bif (decide (x2.length+List.length ([t1]:List (List Int))≤room)) then
 qBf (x2++([t1]:List (List Int)))
 else none
def qBg (s4:Int):Option AV:=some (dc s4)
def qHU (_n:Nat) (b0:List UInt8) (c1:UInt8):Option AV :=
 qBg (z123 b0 c1)
def qBh (s4:Bool):Option AV:=some (dg s4)
def qHV (_n:Nat) (a0:List UInt8) (b1:List UInt8):Option AV :=
 qBh (a0==b1)
def qhE (s4:Int):Option AV:=some (dc s4)
def qqg (ret:Int→Option AV) (next:List UInt8→List UInt8→Int→Option AV) (_n:Nat) (s0:List UInt8) (sep1:List UInt8) (n5:Int):Option AV :=
 bif ((qmP s0 sep1)&&true) then
 bif ((z57 s0 sep1)==(-1:Int)) then
 ret n5
 else
 bif (((decide (0≤(IntKind.wrap .i64 ((z57 s0 sep1)+(sep1.length:Int)))))&&(decide ((IntKind.wrap .i64 ((z57 s0 sep1)+(sep1.length:Int)))≤(s0.length:Int))))&&(decide ((s0.length:Int)≤(s0.length:Int)))) then
 next (List.drop (IntKind.wrap .i64 ((z57 s0 sep1)+(sep1.length:Int))).toNat (List.take (s0.length:Int).toNat s0)) sep1 (IntKind.wrap .i64 (n5+1))
 else none
 else none
def qiN (ret:Int→Option AV):Nat→List UInt8→List UInt8→Int→Option AV
 | 0=>fun _ _ _=>none
 | n+1=>qqg ret (qiN ret n) n
def qvJ (n:Nat) (s0:List UInt8) (sep1:List UInt8):Option AV :=
 bif ((sep1.length:Int)==(0:Int)) then
 bif ((qBM s0)&&true) then
 qhE (IntKind.wrap .i64 ((z164 s0)+1))
 else none
 else
 bif ((sep1.length:Int)==(1:Int)) then
 bif ((decide (0≤(0:Int)))&&(decide ((0:Int) < sep1.length))) then
 qhE (z165 s0 (sep1.getD (0:Int).toNat (0:UInt8)))
 else none
 else
 qiN qhE n s0 sep1 (0:Int)
def qhF (s8:List (List UInt8)):Option AV:=some (.dat (.sl (.sl .byte)) s8 none)
def qbX (k0:List UInt8→List (List UInt8)→Int→Option AV) (next:List UInt8→List UInt8→Int→Int→List (List UInt8)→Int→Option AV) (_n:Nat) (s0:List UInt8) (sep1:List UInt8) (sepSave2:Int) (n3:Int) (a9:List (List UInt8)) (i10:Int):Option AV :=
 bif (decide (i10 < n3)) then
 bif ((qmP s0 sep1)&&true) then
 bif (decide ((z57 s0 sep1) < (0:Int))) then
 k0 s0 a9 i10
 else
 bif ((((decide (0≤((0:Nat):Int)))&&(decide (((0:Nat):Int)≤(IntKind.wrap .i64 ((z57 s0 sep1)+sepSave2)))))&&(decide ((IntKind.wrap .i64 ((z57 s0 sep1)+sepSave2))≤(IntKind.wrap .i64 ((z57 s0 sep1)+sepSave2)))))&&(decide ((IntKind.wrap .i64 ((z57 s0 sep1)+sepSave2))≤(s0.length:Int)))) then
 bif ((decide (0≤i10))&&(decide (i10 < a9.length))) then
 bif (((decide (0≤(IntKind.wrap .i64 ((z57 s0 sep1)+(sep1.length:Int)))))&&(decide ((IntKind.wrap .i64 ((z57 s0 sep1)+(sep1.length:Int)))≤(s0.length:Int))))&&(decide ((s0.length:Int)≤(s0.length:Int)))) then
 next (List.drop (IntKind.wrap .i64 ((z57 s0 sep1)+(sep1.length:Int))).toNat (List.take (s0.length:Int).toNat s0)) sep1 sepSave2 n3 (List.set a9 i10.toNat (List.drop ((0:Nat):Int).toNat (List.take (IntKind.wrap .i64 ((z57 s0 sep1)+sepSave2)).toNat s0))) (IntKind.wrap .i64 (i10+1))
 else none
 else none
 else none
 else none
 else
 k0 s0 a9 i10
def qbQ (k0:List UInt8→List (List UInt8)→Int→Option AV):Nat→List UInt8→List UInt8→Int→Int→List (List UInt8)→Int→Option AV
 | 0=>fun _ _ _ _ _ _=>none
 | n+1=>qbX k0 (qbQ k0 n) n
def qad (_n:Nat) (s0:List UInt8) (a9:List (List UInt8)) (i10:Int):Option AV :=
 bif ((decide (0≤i10))&&(decide (i10 < a9.length))) then
 bif (((decide (0≤((0:Nat):Int)))&&(decide (((0:Nat):Int)≤(IntKind.wrap .i64 (i10+1)))))&&(decide ((IntKind.wrap .i64 (i10+1))≤((List.set a9 i10.toNat s0).length:Int)))) then
 qhF (List.drop ((0:Nat):Int).toNat (List.take (IntKind.wrap .i64 (i10+1)).toNat (List.set a9 i10.toNat s0)))
 else none
 else none
def qaO (s0:List UInt8) (sep1:List UInt8):=(bif (decide ((IntKind.wrap .i64 ((s0.length:Int)+1)) < (IntKind.wrap .i64 ((z142 s0 sep1)+1)))) then (IntKind.wrap .i64 ((s0.length:Int)+1)) else (IntKind.wrap .i64 ((z142 s0 sep1)+1)))
def qaP (s0:List UInt8) (n3:Int):=(bif (decide ((IntKind.wrap .i64 ((s0.length:Int)+1)) < n3)) then (IntKind.wrap .i64 ((s0.length:Int)+1)) else n3)
def qqh (n:Nat) (s0:List UInt8) (sep1:List UInt8) (sepSave2:Int) (n3:Int):Option AV :=
 bif (n3==(0:Int)) then qhF ([]:List (List UInt8)) else bif ((sep1.length:Int)==(0:Int)) then bif ((qBN s0 n3)&&true) then qhF (z141 s0 n3) else none else bif (decide (n3 < (0:Int))) then bif ((qjc s0 sep1)&&true) then bif (((decide (0≤(qaO s0 sep1)))&&(decide ((qaO s0 sep1)≤(qaO s0 sep1))))&&(decide ((qaO s0 sep1)≤(room:Int)))) then qbQ (qad n) n s0 sep1 sepSave2 (IntKind.wrap .i64 ((qaO s0 sep1) - (1:Int))) (List.replicate (qaO s0 sep1).toNat ([]:List UInt8)) (0:Int) else none else none else bif (((decide (0≤(qaP s0 n3)))&&(decide ((qaP s0 n3)≤(qaP s0 n3))))&&(decide ((qaP s0 n3)≤(room:Int)))) then qbQ (qad n) n s0 sep1 sepSave2 (IntKind.wrap .i64 ((qaP s0 n3) - (1:Int))) (List.replicate (qaP s0 n3).toNat ([]:List UInt8)) (0:Int) else none
def qBi (s4:List (List UInt8)):Option AV:=some (.dat (.sl (.sl .byte)) s4 none)
def qDg (_n:Nat) (s0:List UInt8) (sep1:List UInt8):Option AV :=
 bif ((qjd s0 sep1 (0:Int) (-1:Int))&&true) then
 qBi (z116 s0 sep1 (0:Int) (-1:Int))
 else none
def qkR (s2:UInt8):Option AV:=some (di s2 none)
def qvK (_n:Nat) (c0:UInt8):Option AV :=
 bif (decide ((65:UInt8)≤c0)) then
 bif (decide (c0≤(90:UInt8))) then
 qkR (c0 ||| (32:UInt8))
 else
 qkR c0
 else
 qkR c0
def qBj (s2:List UInt8):Option AV:=some (db s2 (some (2,5)))
def qfo (k0:List UInt8→Option AV) (next:List UInt8→Int→Int→Option AV) (_n:Nat) (out3:List UInt8) (s9:Int) (s10:Int):Option AV :=
 bif (decide (s10 < s9)) then
 bif ((decide (0≤s10))&&(decide (s10 < out3.length))) then
 bif ((decide (0≤s10))&&(decide (s10 < out3.length))) then
 next (List.set out3 s10.toNat (z118 (out3.getD s10.toNat (0:UInt8)))) s9 (IntKind.wrap .i64 (s10+1))
 else none
 else none
 else
 k0 out3
def qkS (k0:List UInt8→Option AV):Nat→List UInt8→Int→Int→Option AV
 | 0=>fun _ _ _=>none
 | n+1=>qfo k0 (qkS k0 n) n
def qhG (_n:Nat) (out3:List UInt8):Option AV :=
 qBj out3
def qzG (n:Nat) (s0:List UInt8):Option AV :=
 bif ((qga s0)&&true) then
 qkS (qhG n) n (z83 s0) ((z83 s0).length:Int) (0:Int)
 else none
def qmv (s2:Int):Option AV:=some (dc s2)
def qDh (_n:Nat) (s0:List UInt8):Option AV :=
 bif ((qsC s0)&&true) then
 bif ((z87 s0)==([98]:List UInt8)) then
 qmv (1:Int)
 else
 bif ((z87 s0)==([113]:List UInt8)) then
 qmv (2:Int)
 else
 qmv (0:Int)
 else none
def qj (s2:Int):Option AV:=some (dc s2)
def qag:=(bits .or .i64 (bits .or .i64 (0:Int) (1:Int)) (656:Int))
def qeA:=(bits .or .i64 (bits .or .i64 (0:Int) (1:Int)) (2:Int))
def qDi (_n:Nat) (c0:UInt8):Option AV :=
 bif (decide (c0 < (32:UInt8))) then bif (c0==(32:UInt8)) then qj (qeA) else bif (c0==(9:UInt8)) then qj (qeA) else bif (decide ((48:UInt8)≤c0)) then bif (decide (c0≤(57:UInt8))) then qj (bits .or .i64 (bits .or .i64 (0:Int) (1:Int)) (648:Int)) else bif (decide ((65:UInt8)≤c0)) then bif (decide (c0≤(90:UInt8))) then bif (decide (c0≤(90:UInt8))) then qj (qag) else qj (bits .or .i64 (0:Int) (1:Int)) else bif (decide ((97:UInt8)≤c0)) then bif (decide (c0≤(122:UInt8))) then qj (qag) else qj (bits .or .i64 (0:Int) (1:Int)) else qj (bits .or .i64 (0:Int) (1:Int)) else bif (decide ((97:UInt8)≤c0)) then bif (decide (c0≤(122:UInt8))) then qj (qag) else qj (bits .or .i64 (0:Int) (1:Int)) else qj (bits .or .i64 (0:Int) (1:Int)) else bif (decide ((65:UInt8)≤c0)) then bif (decide (c0≤(90:UInt8))) then bif (decide (c0≤(90:UInt8))) then qj (qag) else qj (bits .or .i64 (0:Int) (1:Int)) else bif (decide ((97:UInt8)≤c0)) then bif (decide (c0≤(122:UInt8))) then qj (qag) else qj (bits .or .i64 (0:Int) (1:Int)) else qj (bits .or .i64 (0:Int) (1:Int)) else bif (decide ((97:UInt8)≤c0)) then bif (decide (c0≤(122:UInt8))) then qj (qag) else qj (bits .or .i64 (0:Int) (1:Int)) else qj (bits .or .i64 (0:Int) (1:Int)) else bif (c0==(127:UInt8)) then bif (c0==(32:UInt8)) then qj (qeA) else bif (c0==(9:UInt8)) then qj (qeA) else bif (decide ((48:UInt8)≤c0)) then bif (decide (c0≤(57:UInt8))) then qj (bits .or .i64 (bits .or .i64 (0:Int) (1:Int)) (648:Int)) else bif (decide ((65:UInt8)≤c0)) then bif (decide (c0≤(90:UInt8))) then bif (decide (c0≤(90:UInt8))) then qj (qag) else qj (bits .or .i64 (0:Int) (1:Int)) else bif (decide ((97:UInt8)≤c0)) then bif (decide (c0≤(122:UInt8))) then qj (qag) else qj (bits .or .i64 (0:Int) (1:Int)) else qj (bits .or .i64 (0:Int) (1:Int)) else bif (decide ((97:UInt8)≤c0)) then bif (decide (c0≤(122:UInt8))) then qj (qag) else qj (bits .or .i64 (0:Int) (1:Int)) else qj (bits .or .i64 (0:Int) (1:Int)) else bif (decide ((65:UInt8)≤c0)) then bif (decide (c0≤(90:UInt8))) then bif (decide (c0≤(90:UInt8))) then qj (qag) else qj (bits .or .i64 (0:Int) (1:Int)) else bif (decide ((97:UInt8)≤c0)) then bif (decide (c0≤(122:UInt8))) then qj (qag) else qj (bits .or .i64 (0:Int) (1:Int)) else qj (bits .or .i64 (0:Int) (1:Int)) else bif (decide ((97:UInt8)≤c0)) then bif (decide (c0≤(122:UInt8))) then qj (qag) else qj (bits .or .i64 (0:Int) (1:Int)) else qj (bits .or .i64 (0:Int) (1:Int)) else bif (c0==(32:UInt8)) then qj (bits .or .i64 (0:Int) (2:Int)) else bif (c0==(9:UInt8)) then qj (bits .or .i64 (0:Int) (2:Int)) else bif (decide ((48:UInt8)≤c0)) then bif (decide (c0≤(57:UInt8))) then qj (bits .or .i64 (0:Int) (648:Int)) else bif (decide ((65:UInt8)≤c0)) then bif (decide (c0≤(90:UInt8))) then bif (decide (c0≤(90:UInt8))) then qj (bits .or .i64 (0:Int) (656:Int)) else qj (0:Int) else bif (decide ((97:UInt8)≤c0)) then bif (decide (c0≤(122:UInt8))) then qj (bits .or .i64 (0:Int) (656:Int)) else qj (0:Int) else qj (0:Int) else bif (decide ((97:UInt8)≤c0)) then bif (decide (c0≤(122:UInt8))) then qj (bits .or .i64 (0:Int) (656:Int)) else qj (0:Int) else qj (0:Int) else bif (decide ((65:UInt8)≤c0)) then bif (decide (c0≤(90:UInt8))) then bif (decide (c0≤(90:UInt8))) then qj (bits .or .i64 (0:Int) (656:Int)) else qj (0:Int) else bif (decide ((97:UInt8)≤c0)) then bif (decide (c0≤(122:UInt8))) then qj (bits .or .i64 (0:Int) (656:Int)) else qj (0:Int) else qj (0:Int) else bif (decide ((97:UInt8)≤c0)) then bif (decide (c0≤(122:UInt8))) then qj (bits .or .i64 (0:Int) (656:Int)) else qj (0:Int) else qj (0:Int)
def qvL (s4:Int):Option AV:=some (dc s4)
def qBk (_n:Nat) (s0:List UInt8) (c1:UInt8):Option AV :=
 qvL (z150 s0 c1)
def qvM (s4:Int):Option AV:=some (dc s4)
def qBl (_n:Nat) (s0:List UInt8) (c1:UInt8):Option AV :=
 qvM (z145 s0 c1)
def qBm (s4:Bool):Option AV:=some (dg s4)
def qHW (_n:Nat) (s0:List UInt8) (c1:UInt8):Option AV :=
 qBm (decide (0≤(z126 s0 c1)))
def qbs (s2:Int):Option AV:=some (dc s2)
def qbG (c0:UInt8):=(bits .or .i64 (z97 c0) (4:Int))
def qeB (c0:UInt8):=(z98 ([40,41,60,62,64,44,59,58,92,34,47,91,93,63,61]:List UInt8) c0)
def qcq (c0:UInt8):=(bits .or .i64 (qbG c0) (128:Int))
def qDj (_n:Nat) (c0:UInt8):Option AV :=
 bif (decide (c0 < (33:UInt8))) then qbs (z97 c0) else bif (decide ((126:UInt8) < c0)) then qbs (z97 c0) else bif (z98 ([33,42,43,45,47]:List UInt8) c0) then bif (z98 ([43,47]:List UInt8) c0) then bif (qeB c0) then qbs (bits .or .i64 (bits .or .i64 (qcq c0) (512:Int)) (32:Int)) else bif (!(z98 ([42,39,37]:List UInt8) c0)) then qbs (bits .or .i64 (bits .or .i64 (bits .or .i64 (qcq c0) (512:Int)) (64:Int)) (256:Int)) else qbs (bits .or .i64 (bits .or .i64 (qcq c0) (512:Int)) (64:Int)) else bif (qeB c0) then qbs (bits .or .i64 (qcq c0) (32:Int)) else bif (!(z98 ([42,39,37]:List UInt8) c0)) then qbs (bits .or .i64 (bits .or .i64 (qcq c0) (64:Int)) (256:Int)) else qbs (bits .or .i64 (qcq c0) (64:Int)) else bif (z98 ([43,47]:List UInt8) c0) then bif (qeB c0) then qbs (bits .or .i64 (bits .or .i64 (qbG c0) (512:Int)) (32:Int)) else bif (!(z98 ([42,39,37]:List UInt8) c0)) then qbs (bits .or .i64 (bits .or .i64 (bits .or .i64 (qbG c0) (512:Int)) (64:Int)) (256:Int)) else qbs (bits .or .i64 (bits .or .i64 (qbG c0) (512:Int)) (64:Int)) else bif (qeB c0) then qbs (bits .or .i64 (qbG c0) (32:Int)) else bif (!(z98 ([42,39,37]:List UInt8) c0)) then qbs (bits .or .i64 (bits .or .i64 (qbG c0) (64:Int)) (256:Int)) else qbs (bits .or .i64 (qbG c0) (64:Int))
def qBn (s4:Bool):Option AV:=some (dg s4)
def qHX (_n:Nat) (c0:UInt8) (kinds1:Int):Option AV :=
 qBn ((bits .and .i64 (z58 c0) kinds1) != (0:Int))
def qvN (s4:Int):Option AV:=some (dc s4)
def qds (k0:Int→Option AV) (next:Int→Int→List UInt8→Int→Int→Option AV) (_n:Nat) (kinds1:Int) (n5:Int) (s8:List UInt8) (s9:Int) (s10:Int):Option AV :=
 bif (decide (s10 < s9)) then
 bif ((decide (0≤s10))&&(decide (s10 < s8.length))) then
 bif (z36 (s8.getD s10.toNat (0:UInt8)) kinds1) then
 next kinds1 (IntKind.wrap .i64 (n5+1)) s8 s9 (IntKind.wrap .i64 (s10+1))
 else
 next kinds1 n5 s8 s9 (IntKind.wrap .i64 (s10+1))
 else none
 else
 k0 n5
def qeC (k0:Int→Option AV):Nat→Int→Int→List UInt8→Int→Int→Option AV
 | 0=>fun _ _ _ _ _=>none
 | n+1=>qds k0 (qeC k0 n) n
def qeD (_n:Nat) (n5:Int):Option AV :=
 qvN n5
def qqi (n:Nat) (s0:List UInt8) (kinds1:Int):Option AV :=
 qeC (qeD n) n kinds1 (0:Int) s0 (s0.length:Int) (0:Int)
def qvO (s4:Bool):Option AV:=some (dg s4)
def qDk (_n:Nat) (s0:List UInt8) (kinds1:Int):Option AV :=
 bif ((qqP s0 kinds1)&&true) then
 qvO ((z122 s0 kinds1)==(s0.length:Int))
 else none
def qvP (s4:Bool):Option AV:=some (dg s4)
def qDl (_n:Nat) (s0:List UInt8) (kinds1:Int):Option AV :=
 bif (decide ((0:Int) < (s0.length:Int))) then
 bif ((qsD s0 kinds1)&&true) then
 qvP (z90 s0 kinds1)
 else none
 else
 qvP false
def qX (s2:(List UInt8)×(Int×((List UInt8)×Unit))) (s3:Int):Option AV:=some (.tup [(.dat (.pair (.sl .byte) (.pair (.int .i64) (.pair (.sl .byte) .unit))) s2 none),(dc s3)])
def qy (s0:List UInt8):=((z83 ((z82 s0 ([(63:UInt8)]:List UInt8)).getD (1:Int).toNat ([]:List UInt8))),((z84 ((z82 s0 ([(63:UInt8)]:List UInt8)).getD (2:Int).toNat ([]:List UInt8))),((z83 ((z82 s0 ([(63:UInt8)]:List UInt8)).getD (3:Int).toNat ([]:List UInt8))),())))
def qG:=(([]:List UInt8),((0:Int),(([]:List UInt8),())))
def qkT (s0:List UInt8):=( bif ((qy s0).2.1==(0:Int)) then qX (qG) (3:Int) else bif ((qfY (qy s0).1 (64:Int))&&true) then bif (!(z85 (qy s0).1 (64:Int))) then qX (qG) (3:Int) else bif ((qfY (qy s0).2.2.1 (4:Int))&&true) then bif (!(z85 (qy s0).2.2.1 (4:Int))) then qX (qG) (3:Int) else bif (decide ((75:Int) < (s0.length:Int))) then qX (qG) (12:Int) else qX (qy s0) (0:Int) else none else none)
def qbH (s0:List UInt8):=(z82 s0 ([(63:UInt8)]:List UInt8))
def qeE (s0:List UInt8):=((qga ((qbH s0).getD (3:Int).toNat ([]:List UInt8)))&&true)
def qgp (s0:List UInt8):=((qAQ ((qbH s0).getD (2:Int).toNat ([]:List UInt8)))&&true)
def qcr (s0:List UInt8):=(qbH s0).length
def qDm (_n:Nat) (s0:List UInt8):Option AV :=
 bif ((qxq s0 ([(63:UInt8)]:List UInt8))&&true) then bif (((qcr s0):Int) != (5:Int)) then qX (qG) (3:Int) else bif ((decide (0≤(0:Int)))&&(decide ((0:Int) < (qcr s0)))) then bif (((qbH s0).getD (0:Int).toNat ([]:List UInt8)) != ([61]:List UInt8)) then qX (qG) (3:Int) else bif ((decide (0≤(4:Int)))&&(decide ((4:Int) < (qcr s0)))) then bif (((qbH s0).getD (4:Int).toNat ([]:List UInt8)) != ([61]:List UInt8)) then qX (qG) (3:Int) else bif ((decide (0≤(1:Int)))&&(decide ((1:Int) < (qcr s0)))) then bif ((decide (0≤(2:Int)))&&(decide ((2:Int) < (qcr s0)))) then bif ((decide (0≤(3:Int)))&&(decide ((3:Int) < (qcr s0)))) then both ( bif ((qga ((qbH s0).getD (1:Int).toNat ([]:List UInt8)))&&true) then both ( bif (qgp s0) then both ( bif (qeE s0) then both (qkT s0) (qkT s0) else none) ( bif (qeE s0) then bif ((qy s0).2.1==(0:Int)) then qX (qG) (3:Int) else bif ((qfY (qy s0).1 (64:Int))&&true) then bif (!(z85 (qy s0).1 (64:Int))) then qX (qG) (3:Int) else bif ((qfY (qy s0).2.2.1 (4:Int))&&true) then bif (!(z85 (qy s0).2.2.1 (4:Int))) then qX (qG) (3:Int) else bif (decide ((75:Int) < (s0.length:Int))) then qX (qG) (12:Int) else qX (qy s0) (0:Int) else none else none else none) else none) ( bif (qgp s0) then bif (qeE s0) then bif ((qy s0).2.1==(0:Int)) then qX (qG) (3:Int) else bif ((qfY (qy s0).1 (64:Int))&&true) then bif (!(z85 (qy s0).1 (64:Int))) then qX (qG) (3:Int) else bif ((qfY (qy s0).2.2.1 (4:Int))&&true) then bif (!(z85 (qy s0).2.2.1 (4:Int))) then qX (qG) (3:Int) else bif (decide ((75:Int) < (s0.length:Int))) then qX (qG) (12:Int) else qX (qy s0) (0:Int) else none else none else none else none) else none) ( bif ((qga ((qbH s0).getD (1:Int).toNat ([]:List UInt8)))&&true) then bif (qgp s0) then bif (qeE s0) then bif ((qy s0).2.1==(0:Int)) then qX (qG) (3:Int) else bif ((qfY (qy s0).1 (64:Int))&&true) then bif (!(z85 (qy s0).1 (64:Int))) then qX (qG) (3:Int) else bif ((qfY (qy s0).2.2.1 (4:Int))&&true) then bif (!(z85 (qy s0).2.2.1 (4:Int))) then qX (qG) (3:Int) else bif (decide ((75:Int) < (s0.length:Int))) then qX (qG) (12:Int) else qX (qy s0) (0:Int) else none else none else none else none else none) else none else none else none else none else none else none
def qdW (s2:List (List UInt8)):Option AV:=some (.dat (.sl .str) s2 (some (2,9)))
def qvQ (_n:Nat) (charset0:Int):Option AV :=
 bif (charset0==(1:Int)) then
 qdW ([([117,115,45,97,115,99,105,105]:List UInt8),([97,115,99,105,105]:List UInt8),([97,110,115,105,95,120,51,46,52,45,49,57,54,56]:List UInt8),([105,115,111,54,52,54,45,117,115]:List UInt8)]:List (List UInt8))
 else
 bif (charset0==(2:Int)) then
 qdW ([([105,115,111,45,56,56,53,57,45,49]:List UInt8),([105,115,111,95,56,56,53,57,45,49]:List UInt8),([108,97,116,105,110,49]:List UInt8),([108,49]:List UInt8)]:List (List UInt8))
 else
 bif (charset0==(3:Int)) then
 qdW ([([105,115,111,45,56,56,53,57,45,49,53]:List UInt8),([105,115,111,95,56,56,53,57,45,49,53]:List UInt8),([108,97,116,105,110,45,57]:List UInt8)]:List (List UInt8))
 else
 bif (charset0==(4:Int)) then
 qdW ([([119,105,110,100,111,119,115,45,49,50,53,50]:List UInt8),([99,112,49,50,53,50]:List UInt8)]:List (List UInt8))
 else
 bif (charset0==(5:Int)) then
 qdW ([([117,116,102,45,56]:List UInt8),([117,116,102,56]:List UInt8)]:List (List UInt8))
 else
 qdW ([]:List (List UInt8))
def qBo (s0:List ((List UInt8)×Int)):Option AV:=some (.abs (.sl (.pair .str (.int .i64))) (qjF .str (.int .i64)) s0)
def qvR (k2:List ((List UInt8)×Int)→Int→Option AV) (next:List ((List UInt8)×Int)→Int→List (List UInt8)→Int→Int→Option AV) (_n:Nat) (m1:List ((List UInt8)×Int)) (n2:Int) (s11:List (List UInt8)) (s12:Int) (s13:Int):Option AV :=
 bif (decide (s13 < s12)) then
 bif ((decide (0≤s13))&&(decide (s13 < s11.length))) then
 next (@putM .str (.int .i64) (s11.getD s13.toNat ([]:List UInt8)) n2 m1) n2 s11 s12 (IntKind.wrap .i64 (s13+1))
 else none
 else
 k2 m1 n2
def qsp (k2:List ((List UInt8)×Int)→Int→Option AV):Nat→List ((List UInt8)×Int)→Int→List (List UInt8)→Int→Int→Option AV
 | 0=>fun _ _ _ _ _=>none
 | n+1=>qvR k2 (qsp k2 n) n
def qkU (_k0:List ((List UInt8)×Int)→Option AV) (next:List ((List UInt8)×Int)→Int→Option AV) (_n:Nat) (m1:List ((List UInt8)×Int)) (n2:Int):Option AV :=
 next m1 (IntKind.wrap .i64 (n2+1))
def qoo (k0:List ((List UInt8)×Int)→Option AV) (next:List ((List UInt8)×Int)→Int→Option AV) (n:Nat) (m1:List ((List UInt8)×Int)) (n2:Int):Option AV :=
 bif (decide (n2≤(5:Int))) then
 qsp (qkU k0 next n) n m1 n2 (z117 n2) ((z117 n2).length:Int) (0:Int)
 else
 k0 m1
def qsq (k0:List ((List UInt8)×Int)→Option AV):Nat→List ((List UInt8)×Int)→Int→Option AV
 | 0=>fun _ _=>none
 | n+1=>qoo k0 (qsq k0 n) n
def qkV (_n:Nat) (m1:List ((List UInt8)×Int)):Option AV :=
 qBo m1
def qDn (n:Nat):Option AV :=
 qsq (qkV n) n ([]:List ((List UInt8)×Int)) (1:Int)
def qop (s4:List UInt8):Option AV:=some (da s4)
def qqj (k0:List UInt8→Option AV) (next:List UInt8→UInt8→Option AV) (_n:Nat) (s0:List UInt8) (c1:UInt8):Option AV :=
 bif (decide ((0:Int) < (s0.length:Int))) then
 bif ((decide (0≤(0:Int)))&&(decide ((0:Int) < s0.length))) then
 bif ((s0.getD (0:Int).toNat (0:UInt8))==c1) then
 bif (((decide (0≤(1:Int)))&&(decide ((1:Int)≤(s0.length:Int))))&&(decide ((s0.length:Int)≤(s0.length:Int)))) then
 next (List.drop (1:Int).toNat (List.take (s0.length:Int).toNat s0)) c1
 else none
 else
 k0 s0
 else none
 else
 k0 s0
def qiO (k0:List UInt8→Option AV):Nat→List UInt8→UInt8→Option AV
 | 0=>fun _ _=>none
 | n+1=>qqj k0 (qiO k0 n) n
def qgq (_n:Nat) (s0:List UInt8):Option AV :=
 bif ((s0.length:Int)==(0:Int)) then
 qop ([]:List UInt8)
 else
 qop s0
def qvS (n:Nat) (s0:List UInt8) (c1:UInt8):Option AV :=
 qiO (qgq n) n s0 c1
def qhH (as2:List Bool) (ok3:Bool):Option AV:=some (.tup [(.dat (.arr 256 .bool) as2 none),(dg ok3)])
def qdt (ret:List Bool→Bool→Option AV) (k0:List Bool→Option AV) (next:List UInt8→List Bool→Int→Option AV) (_n:Nat) (chars0:List UInt8) (as2:List Bool) (i4:Int):Option AV :=
 bif (decide (i4 < (chars0.length:Int))) then
 bif ((decide (0≤i4))&&(decide (i4 < chars0.length))) then
 bif (decide ((128:UInt8)≤(chars0.getD i4.toNat (0:UInt8)))) then
 ret as2 false
 else
 bif ((decide (0≤((UInt8.toNat (chars0.getD i4.toNat (0:UInt8)):Nat):Int)))&&(decide (((UInt8.toNat (chars0.getD i4.toNat (0:UInt8)):Nat):Int) < (256:Nat)))) then
 next chars0 (List.set as2 ((UInt8.toNat (chars0.getD i4.toNat (0:UInt8)):Nat):Int).toNat true) (IntKind.wrap .i64 (i4+1))
 else none
 else none
 else
 k0 as2
def qeF (ret:List Bool→Bool→Option AV) (k0:List Bool→Option AV):Nat→List UInt8→List Bool→Int→Option AV
 | 0=>fun _ _ _=>none
 | n+1=>qdt ret k0 (qeF ret k0 n) n
def qeG (_n:Nat) (as2:List Bool):Option AV :=
 qhH as2 true
def qvT (n:Nat) (chars0:List UInt8):Option AV :=
 qeF qhH (qeG n) n chars0 (List.replicate 256 false) (0:Int)
def qvU (s4:Bool):Option AV:=some (dg s4)
def qvV (_n:Nat) (as0:List Bool) (c1:UInt8):Option AV :=
 bif ((decide (0≤((UInt8.toNat c1:Nat):Int)))&&(decide (((UInt8.toNat c1:Nat):Int) < (256:Nat)))) then
 qvU (as0.getD ((UInt8.toNat c1:Nat):Int).toNat false)
 else none
def qoq (s4:List UInt8):Option AV:=some (da s4)
def qgr (k0:List UInt8→Option AV) (next:List UInt8→List Bool→Option AV) (_n:Nat) (s0:List UInt8) (as1:List Bool):Option AV :=
 bif (decide ((0:Int) < (s0.length:Int))) then
 bif ((decide (0≤(0:Int)))&&(decide ((0:Int) < s0.length))) then
 bif (!(z153 as1 (s0.getD (0:Int).toNat (0:UInt8)))) then
 k0 s0
 else
 bif (((decide (0≤(1:Int)))&&(decide ((1:Int)≤(s0.length:Int))))&&(decide ((s0.length:Int)≤(s0.length:Int)))) then
 next (List.drop (1:Int).toNat (List.take (s0.length:Int).toNat s0)) as1
 else none
 else none
 else
 k0 s0
def qfF (k0:List UInt8→Option AV):Nat→List UInt8→List Bool→Option AV
 | 0=>fun _ _=>none
 | n+1=>qgr k0 (qfF k0 n) n
def qeH (_n:Nat) (s0:List UInt8):Option AV :=
 bif ((s0.length:Int)==(0:Int)) then
 qoq ([]:List UInt8)
 else
 qoq s0
def qqk (n:Nat) (s0:List UInt8) (as1:List Bool):Option AV :=
 qfF (qeH n) n s0 as1
def qvW (s4:List UInt8):Option AV:=some (da s4)
def qaG (s0:List UInt8):=(IntKind.wrap .i64 ((s0.length:Int) - (1:Int)))
def qql (k0:List UInt8→Option AV) (next:List UInt8→UInt8→Option AV) (_n:Nat) (s0:List UInt8) (c1:UInt8):Option AV :=
 bif (decide ((0:Int) < (s0.length:Int))) then bif ((decide (0≤(qaG s0)))&&(decide ((qaG s0) < s0.length))) then bif ((s0.getD (qaG s0).toNat (0:UInt8))==c1) then bif (((decide (0≤((0:Nat):Int)))&&(decide (((0:Nat):Int)≤(qaG s0))))&&(decide ((qaG s0)≤(s0.length:Int)))) then next (List.drop ((0:Nat):Int).toNat (List.take (qaG s0).toNat s0)) c1 else none else k0 s0 else none else k0 s0
def qiP (k0:List UInt8→Option AV):Nat→List UInt8→UInt8→Option AV
 | 0=>fun _ _=>none
 | n+1=>qql k0 (qiP k0 n) n
def qgs (_n:Nat) (s0:List UInt8):Option AV :=
 qvW s0
def qvX (n:Nat) (s0:List UInt8) (c1:UInt8):Option AV :=
 qiP (qgs n) n s0 c1
def qvY (s4:List UInt8):Option AV:=some (da s4)
def qan (s0:List UInt8):=(IntKind.wrap .i64 ((s0.length:Int) - (1:Int)))
def qgt (k0:List UInt8→Option AV) (next:List UInt8→List Bool→Option AV) (_n:Nat) (s0:List UInt8) (as1:List Bool):Option AV :=
 bif (decide ((0:Int) < (s0.length:Int))) then bif ((decide (0≤(qan s0)))&&(decide ((qan s0) < s0.length))) then bif (!(z153 as1 (s0.getD (qan s0).toNat (0:UInt8)))) then k0 s0 else bif (((decide (0≤((0:Nat):Int)))&&(decide (((0:Nat):Int)≤(qan s0))))&&(decide ((qan s0)≤(s0.length:Int)))) then next (List.drop ((0:Nat):Int).toNat (List.take (qan s0).toNat s0)) as1 else none else none else k0 s0
def qfG (k0:List UInt8→Option AV):Nat→List UInt8→List Bool→Option AV
 | 0=>fun _ _=>none
 | n+1=>qgt k0 (qfG k0 n) n
def qgu (_n:Nat) (s0:List UInt8):Option AV :=
 qvY s0
def qqm (n:Nat) (s0:List UInt8) (as1:List Bool):Option AV :=
 qfG (qgu n) n s0 as1
def qcU (s4:List UInt8):Option AV:=some (da s4)
def qbt (cutset1:List UInt8):=(cutset1.getD (0:Int).toNat (0:UInt8))
def qeI (cutset1:List UInt8):=((decide (0≤(0:Int)))&&(decide ((0:Int) < cutset1.length)))
def qvZ (_n:Nat) (s0:List UInt8) (cutset1:List UInt8):Option AV :=
 bif ((s0.length:Int)==(0:Int)) then qcU ([]:List UInt8) else bif (cutset1==([]:List UInt8)) then qcU s0 else bif ((cutset1.length:Int)==(1:Int)) then bif (qeI cutset1) then bif (decide ((qbt cutset1) < (128:UInt8))) then bif (qeI cutset1) then bif (qeI cutset1) then bif ((qxw s0 (qbt cutset1))&&true) then bif ((qqO (z156 s0 (qbt cutset1)) (qbt cutset1))&&true) then qcU (z146 (z156 s0 (qbt cutset1)) (qbt cutset1)) else none else none else none else none else bif ((qbM cutset1)&&true) then bif ((z147 cutset1).2) then bif ((qmS s0 ((z147 cutset1).1))&&true) then bif ((qfO (z157 s0 ((z147 cutset1).1)) ((z147 cutset1).1))&&true) then qcU (z148 (z157 s0 ((z147 cutset1).1)) ((z147 cutset1).1)) else none else none else bif ((qxx s0 cutset1)&&true) then bif ((qmQ (z158 s0 cutset1) cutset1)&&true) then qcU (z149 (z158 s0 cutset1) cutset1) else none else none else none else none else bif ((qbM cutset1)&&true) then bif ((z147 cutset1).2) then bif ((qmS s0 ((z147 cutset1).1))&&true) then bif ((qfO (z157 s0 ((z147 cutset1).1)) ((z147 cutset1).1))&&true) then qcU (z148 (z157 s0 ((z147 cutset1).1)) ((z147 cutset1).1)) else none else none else bif ((qxx s0 cutset1)&&true) then bif ((qmQ (z158 s0 cutset1) cutset1)&&true) then qcU (z149 (z158 s0 cutset1) cutset1) else none else none else none
def qwa (s2:List UInt8):Option AV:=some (db s2 (some (2,5)))
def qwb (_n:Nat) (s0:List UInt8):Option AV :=
 bif ((qeR s0 ([32,9]:List UInt8))&&true) then
 bif ((qga (z129 s0 ([32,9]:List UInt8)))&&true) then
 qwa (z83 (z129 s0 ([32,9]:List UInt8)))
 else none
 else none
def qwc (s2:List UInt8):Option AV:=some (db s2 (some (2,5)))
def qDo (_n:Nat) (s0:List UInt8):Option AV :=
 bif (decide (0≤(z91 s0 (42:UInt8)))) then
 bif (((decide (0≤((0:Nat):Int)))&&(decide (((0:Nat):Int)≤(z91 s0 (42:UInt8)))))&&(decide ((z91 s0 (42:UInt8))≤(s0.length:Int)))) then
 bif ((qjf (List.drop ((0:Nat):Int).toNat (List.take (z91 s0 (42:UInt8)).toNat s0)))&&true) then
 qwc (z119 (List.drop ((0:Nat):Int).toNat (List.take (z91 s0 (42:UInt8)).toNat s0)))
 else none
 else none
 else
 bif ((qjf s0)&&true) then
 qwc (z119 s0)
 else none
def qwd (s2:Int) (s3:Int):Option AV:=some (.tup [(dc s2),(dc s3)])
def qDp (_n:Nat) (s0:List UInt8):Option AV :=
 bif ((qyn s0)&&true) then
 bif ((qsC (z88 s0))&&true) then
 bif (!(Option.isSome (@findM .str (.int .i64) (z87 (z88 s0)) z86))) then
 qwd (0:Int) (10:Int)
 else
 qwd (Option.getD (@findM .str (.int .i64) (z87 (z88 s0)) z86) (0:Int)) (0:Int)
 else none
 else none
def qwe (s2:Int):Option AV:=some (dc s2)
def qDq (_n:Nat) (w0:(List UInt8)×(Int×((List UInt8)×Unit))):Option AV :=
 bif ((qrt w0.1)&&true) then
 bif (((z53 w0.1).2) != (0:Int)) then
 qwe (2:Int)
 else
 qwe ((z53 w0.1).1)
 else none
def qwf (s2:Int):Option AV:=some (dc s2)
def qDr (_n:Nat) (s0:List UInt8):Option AV :=
 bif ((qiw s0)&&true) then
 bif (((z51 s0).2) != (0:Int)) then
 qwf (0:Int)
 else
 bif ((qru ((z51 s0).1))&&true) then
 qwf (z52 ((z51 s0).1))
 else none
 else none
def qBp (s9:List Int):Option AV:=some (.tup [(.tup []),.bad,(.pbox (.osl 3 (.int .i64)) s9 none)])
def qDs (_n:Nat) (w0:List UInt8) (x1:List Int):Option AV :=
 bif ((qyu w0)&&true) then
 bif (decide (x1.length+List.length ([(z31 w0)]:List Int)≤room)) then
 qBp (x1++([(z31 w0)]:List Int))
 else none
 else none
def qor (s4:Bool):Option AV:=some (dg s4)
def qwg (_n:Nat) (s0:List UInt8) (suffix1:List UInt8):Option AV :=
 bif (decide ((suffix1.length:Int)≤(s0.length:Int))) then
 bif (((decide (0≤(IntKind.wrap .i64 ((s0.length:Int) - (suffix1.length:Int)))))&&(decide ((IntKind.wrap .i64 ((s0.length:Int) - (suffix1.length:Int)))≤(s0.length:Int))))&&(decide ((s0.length:Int)≤(s0.length:Int)))) then
 qor (z93 (List.drop (IntKind.wrap .i64 ((s0.length:Int) - (suffix1.length:Int))).toNat (List.take (s0.length:Int).toNat s0)) suffix1)
 else none
 else
 qor false
def qos (s4:List UInt8):Option AV:=some (da s4)
def qwh (_n:Nat) (s0:List UInt8) (suffix1:List UInt8):Option AV :=
 bif ((qpG s0 suffix1)&&true) then
 bif (z166 s0 suffix1) then
 bif (((decide (0≤((0:Nat):Int)))&&(decide (((0:Nat):Int)≤(IntKind.wrap .i64 ((s0.length:Int) - (suffix1.length:Int))))))&&(decide ((IntKind.wrap .i64 ((s0.length:Int) - (suffix1.length:Int)))≤(s0.length:Int)))) then
 qos (List.drop ((0:Nat):Int).toNat (List.take (IntKind.wrap .i64 ((s0.length:Int) - (suffix1.length:Int))).toNat s0))
 else none
 else
 qos s0
 else none
def qot (s2:List UInt8):Option AV:=some (da s2)
def qqn (k0:List UInt8→Option AV) (next:List UInt8→Int→Option AV) (_n:Nat) (s0:List UInt8) (s3:Int):Option AV :=
 bif (decide (s3 < (2:Int))) then
 bif ((qhj s0 ([(61:UInt8)]:List UInt8))&&true) then
 next (z143 s0 ([(61:UInt8)]:List UInt8)) (IntKind.wrap .i64 (s3+1))
 else none
 else
 k0 s0
def qiQ (k0:List UInt8→Option AV):Nat→List UInt8→Int→Option AV
 | 0=>fun _ _=>none
 | n+1=>qqn k0 (qiQ k0 n) n
def qgv (_n:Nat) (s0:List UInt8):Option AV :=
 qot s0
def qqo (n:Nat) (s0:List UInt8):Option AV :=
 qiQ (qgv n) n s0 (0:Int)
def qou (s2:Int) (s3:Bool):Option AV:=some (.tup [(dc s2),(dg s3)])
def qhI (c0:UInt8):=(z126 ([65,66,67,68,69,70,71,72,73,74,75,76,77,78,79,80,81,82,83,84,85,86,87,88,89,90,97,98,99,100,101,102,103,104,105,106,107,108,109,110,111,112,113,114,115,116,117,118,119,120,121,122,48,49,50,51,52,53,54,55,56,57,43,47]:List UInt8) c0)
def qBq (_n:Nat) (c0:UInt8):Option AV :=
 qou (bif (decide ((0:Int) > (qhI c0))) then (0:Int) else (qhI c0)) (decide (0≤(qhI c0)))
def qbI (s2:List UInt8) (s3:Int):Option AV:=some (.tup [(da s2),(dc s3)])
def qbg (held5:Int) (s12:List UInt8) (s14:Int):=(bits .or .i64 (IntKind.wrap .i64 (held5*2 ^ (min (6:Int).toNat (IntKind.bits .i64)))) ((z121 (s12.getD s14.toNat (0:UInt8))).1))
def qaq (many6:Int):=(IntKind.wrap .i64 ((IntKind.wrap .i64 (many6+(6:Int))) - (8:Int)))
def qfp (ret:List UInt8→Int→Option AV) (k0:List UInt8→List UInt8→Int→Option AV) (next:List UInt8→List UInt8→Int→Int→List UInt8→Int→Int→Option AV) (_n:Nat) (s0:List UInt8) (out4:List UInt8) (held5:Int) (many6:Int) (s12:List UInt8) (s13:Int) (s14:Int):Option AV :=
 bif (decide (s14 < s13)) then bif ((decide (0≤s14))&&(decide (s14 < s12.length))) then bif (!((z121 (s12.getD s14.toNat (0:UInt8))).2)) then ret ([]:List UInt8) (3:Int) else bif (decide ((8:Int)≤(IntKind.wrap .i64 (many6+(6:Int))))) then bif (decide (0≤(qaq many6))) then bif (decide (out4.length+List.length ([(UInt8.ofNat (IntKind.wrap .u8 (Int.fdiv (qbg held5 s12 s14) (2 ^ (min (qaq many6).toNat (IntKind.bits .i64))))).toNat)]:List UInt8)≤room)) then bif (decide (0≤(qaq many6))) then next s0 (out4++([(UInt8.ofNat (IntKind.wrap .u8 (Int.fdiv (qbg held5 s12 s14) (2 ^ (min (qaq many6).toNat (IntKind.bits .i64))))).toNat)]:List UInt8)) (bits .and .i64 (qbg held5 s12 s14) (IntKind.wrap .i64 ((IntKind.wrap .i64 ((1:Int)*2 ^ (min (qaq many6).toNat (IntKind.bits .i64)))) - (1:Int)))) (qaq many6) s12 s13 (IntKind.wrap .i64 (s14+1)) else none else none else none else next s0 out4 (qbg held5 s12 s14) (IntKind.wrap .i64 (many6+(6:Int))) s12 s13 (IntKind.wrap .i64 (s14+1)) else none else k0 s0 out4 held5
def qiu (ret:List UInt8→Int→Option AV) (k0:List UInt8→List UInt8→Int→Option AV):Nat→List UInt8→List UInt8→Int→Int→List UInt8→Int→Int→Option AV
 | 0=>fun _ _ _ _ _ _ _=>none
 | n+1=>qfp ret k0 (qiu ret k0 n) n
def qcs (_n:Nat) (s0:List UInt8) (out4:List UInt8) (held5:Int):Option AV :=
 bif ((Int.tmod (s0.length:Int) (4:Int)) != (0:Int)) then
 qbI ([]:List UInt8) (4:Int)
 else
 bif (held5 != (0:Int)) then
 qbI ([]:List UInt8) (3:Int)
 else
 qbI out4 (0:Int)
def qzH (n:Nat) (s0:List UInt8):Option AV :=
 bif ((qpC s0)&&true) then
 qiu qbI (qcs n) n s0 ([]:List UInt8) (0:Int) (0:Int) (z120 s0) ((z120 s0).length:Int) (0:Int)
 else none
def qBr (s2:Bool):Option AV:=some (dg s2)
def qDt (_n:Nat) (s0:List UInt8):Option AV :=
 bif ((qyp s0)&&true) then
 qBr (((z89 s0).2)==(0:Int))
 else none
def qhJ (s2:Int) (s3:Bool):Option AV:=some (.tup [(dc s2),(dg s3)])
def qwi (_n:Nat) (c0:UInt8):Option AV :=
 bif (z36 (z118 c0) (8:Int)) then
 qhJ (IntKind.wrap .i64 ((UInt8.toNat ((z118 c0) - (48:UInt8)):Nat):Int)) true
 else
 bif (decide ((97:UInt8)≤(z118 c0))) then
 bif (decide ((z118 c0)≤(102:UInt8))) then
 qhJ (IntKind.wrap .i64 ((IntKind.wrap .i64 ((UInt8.toNat ((z118 c0) - (97:UInt8)):Nat):Int))+(10:Int))) true
 else
 qhJ (0:Int) false
 else
 qhJ (0:Int) false
def qkW (s4:UInt8) (s5:Bool):Option AV:=some (.tup [(di s4 none),(dg s5)])
def qwj (_n:Nat) (a0:UInt8) (b1:UInt8):Option AV :=
 bif (!((z175 a0).2)) then
 qkW (0:UInt8) false
 else
 bif (!((z175 b1).2)) then
 qkW (0:UInt8) false
 else
 qkW (UInt8.ofNat (IntKind.wrap .u8 (bits .or .i64 (IntKind.wrap .i64 (((z175 a0).1)*2 ^ (min (4:Int).toNat (IntKind.bits .i64)))) ((z175 b1).1))).toNat) true
def qhK (s6:UInt8) (s7:Bool):Option AV:=some (.tup [(di s6 none),(dg s7)])
def qhL (s0:List UInt8) (at1:Int):=(z167 (s0.getD (IntKind.wrap .i64 (at1+1)).toNat (0:UInt8)) (s0.getD (IntKind.wrap .i64 (at1+(2:Int))).toNat (0:UInt8)))
def qwk (_n:Nat) (s0:List UInt8) (at1:Int) (sign2:UInt8):Option AV :=
 bif (decide (at1 < (0:Int))) then qhK (0:UInt8) false else bif (decide ((IntKind.wrap .i64 ((s0.length:Int) - (3:Int))) < at1)) then qhK (0:UInt8) false else bif ((decide (0≤at1))&&(decide (at1 < s0.length))) then bif ((s0.getD at1.toNat (0:UInt8)) != sign2) then qhK (0:UInt8) false else bif ((decide (0≤(IntKind.wrap .i64 (at1+1))))&&(decide ((IntKind.wrap .i64 (at1+1)) < s0.length))) then bif ((decide (0≤(IntKind.wrap .i64 (at1+(2:Int)))))&&(decide ((IntKind.wrap .i64 (at1+(2:Int))) < s0.length))) then qhK ((qhL s0 at1).1) ((qhL s0 at1).2) else none else none else none
def qhM (s2:List UInt8) (s3:Int):Option AV:=some (.tup [(da s2),(dc s3)])
def qao (s0:List UInt8) (at6:Int):=(s0.getD at6.toNat (0:UInt8))
def qgw (k0:List UInt8→Int→Option AV) (next:List UInt8→List UInt8→Int→Int→Option AV) (_n:Nat) (s0:List UInt8) (out4:List UInt8) (strange5:Int) (at6:Int):Option AV :=
 bif (decide (at6 < (s0.length:Int))) then bif ((decide (0≤at6))&&(decide (at6 < s0.length))) then bif ((qao s0 at6)==(95:UInt8)) then bif (decide (out4.length+List.length ([(32:UInt8)]:List UInt8)≤room)) then next s0 (out4++([(32:UInt8)]:List UInt8)) strange5 (IntKind.wrap .i64 (at6+1)) else none else bif ((qao s0 at6)==(61:UInt8)) then bif ((qpx s0 at6 (61:UInt8))&&true) then bif ((z144 s0 at6 (61:UInt8)).2) then bif (decide (out4.length+List.length ([((z144 s0 at6 (61:UInt8)).1)]:List UInt8)≤room)) then next s0 (out4++([((z144 s0 at6 (61:UInt8)).1)]:List UInt8)) strange5 (IntKind.wrap .i64 (at6+(3:Int))) else none else bif (decide (out4.length+List.length ([(qao s0 at6)]:List UInt8)≤room)) then next s0 (out4++([(qao s0 at6)]:List UInt8)) (IntKind.wrap .i64 (strange5+1)) (IntKind.wrap .i64 (at6+1)) else none else none else bif (decide (out4.length+List.length ([(qao s0 at6)]:List UInt8)≤room)) then next s0 (out4++([(qao s0 at6)]:List UInt8)) strange5 (IntKind.wrap .i64 (at6+1)) else none else none else k0 out4 strange5
def qhN (k0:List UInt8→Int→Option AV):Nat→List UInt8→List UInt8→Int→Int→Option AV
 | 0=>fun _ _ _ _=>none
 | n+1=>qgw k0 (qhN k0 n) n
def qeJ (_n:Nat) (out4:List UInt8) (strange5:Int):Option AV :=
 qhM out4 strange5
def qwl (n:Nat) (s0:List UInt8):Option AV :=
 qhN (qeJ n) n s0 ([]:List UInt8) (0:Int) (0:Int)
def qBs (s2:Int):Option AV:=some (dc s2)
def qDu (_n:Nat) (s0:List UInt8):Option AV :=
 bif ((qiJ s0)&&true) then
 qBs ((z124 s0).2)
 else none
def qmw (s2:Int):Option AV:=some (dc s2)
def qDv (_n:Nat) (s0:List UInt8):Option AV :=
 bif ((qsD s0 (4:Int))&&true) then
 bif (!(z90 s0 (4:Int))) then
 qmw (3:Int)
 else
 bif (decide (0≤(z91 s0 (63:UInt8)))) then
 qmw (3:Int)
 else
 bif ((qyr s0)&&true) then
 bif (decide ((0:Int) < (z92 s0))) then
 qmw (3:Int)
 else
 qmw (0:Int)
 else none
 else none
def qiR (s2:Bool):Option AV:=some (dg s2)
def qDw (_n:Nat) (s0:List UInt8):Option AV :=
 bif ((qiw s0)&&true) then
 bif (((z51 s0).2) != (0:Int)) then
 qiR false
 else
 bif ((qrt ((z51 s0).1).1)&&true) then
 bif (((z51 s0).1).2.1==(1:Int)) then
 bif (((z53 ((z51 s0).1).1).2)==(0:Int)) then
 bif ((qyq ((z51 s0).1).2.2.1)&&true) then
 qiR (z54 ((z51 s0).1).2.2.1)
 else none
 else
 qiR false
 else
 bif (((z53 ((z51 s0).1).1).2)==(0:Int)) then
 bif ((qys ((z51 s0).1).2.2.1)&&true) then
 qiR ((z55 ((z51 s0).1).2.2.1)==(0:Int))
 else none
 else
 qiR false
 else none
 else none
def qwm (s9:Int):Option AV:=some (.tup [(.tup []),.bad,(.pbox (.leaf (.int .i64)) s9 none)])
def qDx (_n:Nat) (w0:List UInt8) (x1:Int):Option AV :=
 bif ((qyt w0)&&true) then
 bif (!(z33 w0)) then
 qwm (IntKind.wrap .i64 (x1+1))
 else
 qwm x1
 else none
def qcV (s4:List UInt8):Option AV:=some (da s4)
def qwn (_n:Nat) (s0:List UInt8) (cutset1:List UInt8):Option AV :=
 bif ((s0.length:Int)==(0:Int)) then
 qcV ([]:List UInt8)
 else
 bif (cutset1==([]:List UInt8)) then
 qcV s0
 else
 bif ((cutset1.length:Int)==(1:Int)) then
 bif ((decide (0≤(0:Int)))&&(decide ((0:Int) < cutset1.length))) then
 bif (decide ((cutset1.getD (0:Int).toNat (0:UInt8)) < (128:UInt8))) then
 bif ((decide (0≤(0:Int)))&&(decide ((0:Int) < cutset1.length))) then
 bif ((qqO s0 (cutset1.getD (0:Int).toNat (0:UInt8)))&&true) then
 qcV (z146 s0 (cutset1.getD (0:Int).toNat (0:UInt8)))
 else none
 else none
 else
 bif ((qbM cutset1)&&true) then
 bif ((z147 cutset1).2) then
 bif ((qfO s0 ((z147 cutset1).1))&&true) then
 qcV (z148 s0 ((z147 cutset1).1))
 else none
 else
 bif ((qmQ s0 cutset1)&&true) then
 qcV (z149 s0 cutset1)
 else none
 else none
 else none
 else
 bif ((qbM cutset1)&&true) then
 bif ((z147 cutset1).2) then
 bif ((qfO s0 ((z147 cutset1).1))&&true) then
 qcV (z148 s0 ((z147 cutset1).1))
 else none
 else
 bif ((qmQ s0 cutset1)&&true) then
 qcV (z149 s0 cutset1)
 else none
 else none
def qBt (s2:Int):Option AV:=some (dc s2)
def qDy (_n:Nat) (s0:List UInt8):Option AV :=
 bif ((qmI s0 ([32,9,13,10]:List UInt8))&&true) then
 qBt (IntKind.wrap .i64 ((s0.length:Int) - ((z127 s0 ([32,9,13,10]:List UInt8)).length:Int)))
 else none
def qwo (s2:Bool):Option AV:=some (dg s2)
def qBu (_n:Nat) (bufLen0:Int):Option AV :=
 qwo (decide ((8:Int) < bufLen0))
def qI (s4:Int):Option AV:=some (dc s4)
def qdu (m0:Int) (ret:Int→Option AV) (k0:Option AV) (next:List UInt8→Nat→Option AV) (_n:Nat) (s28:List UInt8) (s28p:Nat):Option AV :=
 bif (decide (s28p < s28.length)) then
 bif (decide (s28p < s28.length)) then
 bif ((decL s28 s28p).1==(65533:Int)) then
 ret (0:Int)
 else
 next s28 (bif (decide (s28p < s28.length)) then s28p+(decL s28 s28p).2 else s28p)
 else none
 else
 k0
def qeK (m0:Int) (ret:Int→Option AV) (k0:Option AV):Nat→List UInt8→Nat→Option AV
 | 0=>fun _ _=>none
 | n+1=>(qdu m0) ret k0 ((qeK m0) ret k0 n) n
def qgx (m0:Int) (_n:Nat):Option AV :=
 qI (-1:Int)
def qbY (m0:Int) (ret:Int→Option AV) (k2:Option AV) (next:List Bool→List UInt8→Int→Int→Option AV) (_n:Nat) (as7:List Bool) (s60:List UInt8) (s61:Int) (s62:Int):Option AV :=
 bif (decide (s62 < s61)) then
 bif ((decide (0≤s62))&&(decide (s62 < s60.length))) then
 bif (z153 as7 (s60.getD s62.toNat (0:UInt8))) then
 ret s62
 else
 next as7 s60 s61 (IntKind.wrap .i64 (s62+1))
 else none
 else
 k2
def qct (m0:Int) (ret:Int→Option AV) (k2:Option AV):Nat→List Bool→List UInt8→Int→Int→Option AV
 | 0=>fun _ _ _ _=>none
 | n+1=>(qbY m0) ret k2 ((qct m0) ret k2 n) n
def qcW (m0:Int) (_n:Nat):Option AV :=
 qI (-1:Int)
def qbZ (m0:Int) (ret:Int→Option AV) (k6:List UInt8→List UInt8→Int→Int→Option AV) (next:List UInt8→List UInt8→Int→Int→Int→List UInt8→Nat→Option AV) (_n:Nat) (s0:List UInt8) (chars1:List UInt8) (width11:Int) (i12:Int) (r13:Int) (s121:List UInt8) (s121p:Nat):Option AV :=
 bif (decide (s121p < s121.length)) then
 bif (decide (s121p < s121.length)) then
 bif (r13==(decL s121 s121p).1) then
 ret i12
 else
 next s0 chars1 width11 i12 r13 s121 (bif (decide (s121p < s121.length)) then s121p+(decL s121 s121p).2 else s121p)
 else none
 else
 k6 s0 chars1 width11 i12
def qbu (m0:Int) (ret:Int→Option AV) (k6:List UInt8→List UInt8→Int→Int→Option AV):Nat→List UInt8→List UInt8→Int→Int→Int→List UInt8→Nat→Option AV
 | 0=>fun _ _ _ _ _ _ _=>none
 | n+1=>(qbZ m0) ret k6 ((qbu m0) ret k6 n) n
def qca (m0:Int) (_ret:Int→Option AV) (_k4:Option AV) (next:List UInt8→List UInt8→Int→Option AV) (_n:Nat) (s0:List UInt8) (chars1:List UInt8) (width11:Int) (i12:Int):Option AV :=
 next s0 chars1 (IntKind.wrap .i64 (i12+width11))
def qx (s0:List UInt8) (i12:Int):=(z154 (List.drop i12.toNat (List.take (s0.length:Int).toNat s0)))
def qcX (m0:Int) (ret:Int→Option AV) (k4:Option AV) (next:List UInt8→List UInt8→Int→Option AV) (n:Nat) (s0:List UInt8) (chars1:List UInt8) (i12:Int):Option AV :=
 bif (decide (i12 < (s0.length:Int))) then bif ((decide (0≤i12))&&(decide (i12 < s0.length))) then bif (decide ((IntKind.wrap .i32 ((UInt8.toNat (s0.getD i12.toNat (0:UInt8)):Nat):Int)) < (128:Int))) then bif ((decide (0≤i12))&&(decide (i12 < s0.length))) then bif (decide (0≤(z150 chars1 (s0.getD i12.toNat (0:UInt8))))) then ret i12 else next s0 chars1 (IntKind.wrap .i64 (i12+1)) else none else bif (((decide (0≤i12))&&(decide (i12≤(s0.length:Int))))&&(decide ((s0.length:Int)≤(s0.length:Int)))) then bif ((qmO (List.drop i12.toNat (List.take (s0.length:Int).toNat s0)))&&true) then bif (((qx s0 i12).1) != (65533:Int)) then bif ((chars1.length:Int)==((qx s0 i12).2)) then bif (chars1==(Utf8.encode ((qx s0 i12).1)).data.toList) then ret i12 else next s0 chars1 (IntKind.wrap .i64 (i12+((qx s0 i12).2))) else bif (decide (((qx s0 i12).2)≤m0)) then bif ((qmN m0 chars1 (Utf8.encode ((qx s0 i12).1)).data.toList)&&true) then bif (decide (0≤(z155 chars1 (Utf8.encode ((qx s0 i12).1)).data.toList))) then ret i12 else next s0 chars1 (IntKind.wrap .i64 (i12+((qx s0 i12).2))) else none else (qbu m0) ret ((qca m0) ret k4 next n) n s0 chars1 ((qx s0 i12).2) i12 ((qx s0 i12).1) chars1 0 else (qbu m0) ret ((qca m0) ret k4 next n) n s0 chars1 ((qx s0 i12).2) i12 ((qx s0 i12).1) chars1 0 else none else none else none else k4
def qbv (m0:Int) (ret:Int→Option AV) (k4:Option AV):Nat→List UInt8→List UInt8→Int→Option AV
 | 0=>fun _ _ _=>none
 | n+1=>(qcX m0) ret k4 ((qbv m0) ret k4 n) n
def qcb (m0:Int) (_n:Nat):Option AV :=
 qI (-1:Int)
def qcY (chars1:List UInt8):=(IntKind.wrap .i32 ((UInt8.toNat (chars1.getD (0:Int).toNat (0:UInt8)):Nat):Int))
def qqp (m0:Int) (n:Nat) (s0:List UInt8) (chars1:List UInt8):Option AV :=
 bif (chars1==([]:List UInt8)) then qI (-1:Int) else bif ((s0.length:Int)==(1:Int)) then bif ((decide (0≤(0:Int)))&&(decide ((0:Int) < s0.length))) then bif (decide ((128:Int)≤(IntKind.wrap .i32 ((UInt8.toNat (s0.getD (0:Int).toNat (0:UInt8)):Nat):Int)))) then (qeK m0) qI ((qgx m0) n) n chars1 0 else bif ((decide (0≤(0:Int)))&&(decide ((0:Int) < s0.length))) then bif (decide (0≤(z150 chars1 (s0.getD (0:Int).toNat (0:UInt8))))) then qI (0:Int) else qI (-1:Int) else none else none else bif ((chars1.length:Int)==(1:Int)) then bif ((decide (0≤(0:Int)))&&(decide ((0:Int) < chars1.length))) then bif (decide ((128:Int)≤(qcY chars1))) then bif ((qxv s0 (65533:Int))&&true) then qI (z151 s0 (65533:Int)) else none else bif ((qxv s0 (qcY chars1))&&true) then qI (z151 s0 (qcY chars1)) else none else none else bif (z152 (s0.length:Int)) then bif ((qbM chars1)&&true) then bif ((z147 chars1).2) then (qct m0) qI ((qcW m0) n) n ((z147 chars1).1) s0 (s0.length:Int) (0:Int) else (qbv m0) qI ((qcb m0) n) n s0 chars1 (0:Int) else none else (qbv m0) qI ((qcb m0) n) n s0 chars1 (0:Int)
def qov (s2:Int):Option AV:=some (dc s2)
def qwp (_n:Nat) (s0:List UInt8):Option AV :=
 bif ((qje s0 ([32,9,13,10]:List UInt8))&&true) then
 bif (decide ((z128 s0 ([32,9,13,10]:List UInt8)) < (0:Int))) then
 qov (s0.length:Int)
 else
 qov (z128 s0 ([32,9,13,10]:List UInt8))
 else none
def qwq (s2:Bool):Option AV:=some (dg s2)
def qwr (_n:Nat) (s0:List UInt8):Option AV :=
 bif ((qiw s0)&&true) then
 qwq (((z51 s0).2)==(0:Int))
 else none
def qfq (s2:Int):Option AV:=some (dc s2)
def qws (_n:Nat) (run0:List UInt8):Option AV :=
 bif (decide ((0:Int) < (run0.length:Int))) then
 bif ((qeR run0 ([32,9,13,10]:List UInt8))&&true) then
 bif (((z129 run0 ([32,9,13,10]:List UInt8)).length:Int)==(0:Int)) then
 qfq (1:Int)
 else
 bif ((qmK run0)&&true) then
 bif (z130 run0) then
 qfq (3:Int)
 else
 qfq (2:Int)
 else none
 else none
 else
 bif ((qmK run0)&&true) then
 bif (z130 run0) then
 qfq (3:Int)
 else
 qfq (2:Int)
 else none
def qBv (s2:List (Int×((List UInt8)×Unit))):Option AV:=some (.dat (.sl (.pair (.int .i64) (.pair (.sl .byte) .unit))) s2 (some (2,41)))
def qar (s0:List UInt8):=(bif (decide ((z100 s0) > (z99 s0))) then (z100 s0) else (z99 s0))
def qbh (s0:List UInt8):=(List.drop ((0:Nat):Int).toNat (List.take (qar s0).toNat s0))
def qdv (s0:List UInt8):=(((decide (0≤((0:Nat):Int)))&&(decide (((0:Nat):Int)≤(qar s0))))&&(decide ((qar s0)≤(s0.length:Int))))
def qdw (s0:List UInt8):=([((z101 (qbh s0)),((z83 (qbh s0)),()))]:List (Int×((List UInt8)×Unit)))
def qfr (k0:List (Int×((List UInt8)×Unit))→Option AV) (next:List UInt8→List (Int×((List UInt8)×Unit))→Option AV) (_n:Nat) (s0:List UInt8) (l3:List (Int×((List UInt8)×Unit))):Option AV :=
 bif (decide ((0:Int) < (s0.length:Int))) then bif ((qAR s0)&&true) then bif ((qqM s0)&&true) then bif (qdv s0) then bif (qdv s0) then bif ((qqL (qbh s0))&&true) then bif ((qga (qbh s0))&&true) then bif (decide (l3.length+List.length (qdw s0)≤room)) then bif (((decide (0≤(qar s0)))&&(decide ((qar s0)≤(s0.length:Int))))&&(decide ((s0.length:Int)≤(s0.length:Int)))) then next (List.drop (qar s0).toNat (List.take (s0.length:Int).toNat s0)) (l3++(qdw s0)) else none else none else none else none else none else none else none else none else k0 l3
def qkX (k0:List (Int×((List UInt8)×Unit))→Option AV):Nat→List UInt8→List (Int×((List UInt8)×Unit))→Option AV
 | 0=>fun _ _=>none
 | n+1=>qfr k0 (qkX k0 n) n
def qhO (_n:Nat) (l3:List (Int×((List UInt8)×Unit))):Option AV :=
 qBv l3
def qzI (n:Nat) (s0:List UInt8):Option AV :=
 qkX (qhO n) n s0 ([]:List (Int×((List UInt8)×Unit)))
def qBw (s2:List Bool):Option AV:=some (.dat (.sl .bool) s2 (some (2,4)))
def qfs (k0:List Bool→Option AV) (next:List (Int×((List UInt8)×Unit))→List Bool→List (Int×((List UInt8)×Unit))→Int→Int→Option AV) (_n:Nat) (l0:List (Int×((List UInt8)×Unit))) (out3:List Bool) (s9:List (Int×((List UInt8)×Unit))) (s10:Int) (s11:Int):Option AV :=
 bif (decide (s11 < s10)) then
 bif ((decide (0≤s11))&&(decide (s11 < s9.length))) then
 bif (decide ((0:Int) < s11)) then
 bif (decide ((IntKind.wrap .i64 (s11+1)) < (l0.length:Int))) then
 bif ((s9.getD s11.toNat ((0:Int),(([]:List UInt8),()))).1==(1:Int)) then
 bif ((decide (0≤(IntKind.wrap .i64 (s11 - (1:Int)))))&&(decide ((IntKind.wrap .i64 (s11 - (1:Int))) < l0.length))) then
 bif ((l0.getD (IntKind.wrap .i64 (s11 - (1:Int))).toNat ((0:Int),(([]:List UInt8),()))).1==(3:Int)) then
 bif ((decide (0≤(IntKind.wrap .i64 (s11+1))))&&(decide ((IntKind.wrap .i64 (s11+1)) < l0.length))) then
 bif ((decide (0≤s11))&&(decide (s11 < out3.length))) then
 next l0 (List.set out3 s11.toNat ((l0.getD (IntKind.wrap .i64 (s11+1)).toNat ((0:Int),(([]:List UInt8),()))).1==(3:Int))) s9 s10 (IntKind.wrap .i64 (s11+1))
 else none
 else none
 else
 bif ((decide (0≤s11))&&(decide (s11 < out3.length))) then
 next l0 (List.set out3 s11.toNat false) s9 s10 (IntKind.wrap .i64 (s11+1))
 else none
 else none
 else
 next l0 out3 s9 s10 (IntKind.wrap .i64 (s11+1))
 else
 next l0 out3 s9 s10 (IntKind.wrap .i64 (s11+1))
 else
 next l0 out3 s9 s10 (IntKind.wrap .i64 (s11+1))
 else none
 else
 k0 out3
def qiv (k0:List Bool→Option AV):Nat→List (Int×((List UInt8)×Unit))→List Bool→List (Int×((List UInt8)×Unit))→Int→Int→Option AV
 | 0=>fun _ _ _ _ _=>none
 | n+1=>qfs k0 (qiv k0 n) n
def qhP (_n:Nat) (out3:List Bool):Option AV :=
 qBw out3
def qzJ (n:Nat) (l0:List (Int×((List UInt8)×Unit))):Option AV :=
 bif (((decide (0≤(l0.length:Int)))&&(decide ((l0.length:Int)≤(l0.length:Int))))&&(decide ((l0.length:Int)≤(room:Int)))) then
 qiv (qhP n) n l0 (List.replicate (l0.length:Int).toNat false) l0 (l0.length:Int) (0:Int)
 else none
def qBx (s2:List (Int×((List UInt8)×Unit))):Option AV:=some (.dat (.sl (.pair (.int .i64) (.pair (.sl .byte) .unit))) s2 (some (2,41)))
def qft (k0:List (Int×((List UInt8)×Unit))→Option AV) (next:List (Int×((List UInt8)×Unit))→List (Int×((List UInt8)×Unit))→List Bool→Int→Int→Option AV) (_n:Nat) (out3:List (Int×((List UInt8)×Unit))) (l4:List (Int×((List UInt8)×Unit))) (s10:List Bool) (s11:Int) (s12:Int):Option AV :=
 bif (decide (s12 < s11)) then
 bif ((decide (0≤s12))&&(decide (s12 < s10.length))) then
 bif (!(s10.getD s12.toNat false)) then
 bif ((decide (0≤s12))&&(decide (s12 < l4.length))) then
 bif (decide (out3.length+List.length ([(l4.getD s12.toNat ((0:Int),(([]:List UInt8),())))]:List (Int×((List UInt8)×Unit)))≤room)) then
 next (out3++([(l4.getD s12.toNat ((0:Int),(([]:List UInt8),())))]:List (Int×((List UInt8)×Unit)))) l4 s10 s11 (IntKind.wrap .i64 (s12+1))
 else none
 else none
 else
 next out3 l4 s10 s11 (IntKind.wrap .i64 (s12+1))
 else none
 else
 k0 out3
def qkY (k0:List (Int×((List UInt8)×Unit))→Option AV):Nat→List (Int×((List UInt8)×Unit))→List (Int×((List UInt8)×Unit))→List Bool→Int→Int→Option AV
 | 0=>fun _ _ _ _ _=>none
 | n+1=>qft k0 (qkY k0 n) n
def qhQ (_n:Nat) (out3:List (Int×((List UInt8)×Unit))):Option AV :=
 qBx out3
def qzK (n:Nat) (s0:List UInt8):Option AV :=
 bif ((qAS s0)&&true) then
 bif ((qAT (z59 s0))&&true) then
 qkY (qhQ n) n ([]:List (Int×((List UInt8)×Unit))) (z59 s0) (z60 (z59 s0)) ((z60 (z59 s0)).length:Int) (0:Int)
 else none
 else none
def qwt (s13:List Int):Option AV:=some (.tup [(.tup []),.bad,.bad,(.pbox (.osl 21 (.int .i32)) s13 none)])
def qDz (_n:Nat) (c0:Int) (e1:Int) (x2:List Int):Option AV :=
 bif (e1 != (0:Int)) then
 bif (decide (x2.length+List.length ([(65533:Int)]:List Int)≤room)) then
 qwt (x2++([(65533:Int)]:List Int))
 else none
 else
 bif (decide (x2.length+List.length ([c0]:List Int)≤room)) then
 qwt (x2++([c0]:List Int))
 else none
def qdX (s2:Int):Option AV:=some (dc s2)
def qwu (_n:Nat) (c0:UInt8):Option AV :=
 bif (decide (c0 < (128:UInt8))) then
 qdX (1:Int)
 else
 bif (decide (c0 < (194:UInt8))) then
 qdX (0:Int)
 else
 bif (decide ((244:UInt8) < c0)) then
 qdX (0:Int)
 else
 bif (decide (c0 < (224:UInt8))) then
 qdX (2:Int)
 else
 bif (decide (c0 < (240:UInt8))) then
 qdX (3:Int)
 else
 qdX (4:Int)
def qwv (s2:Bool):Option AV:=some (dg s2)
def qww (_n:Nat) (c0:UInt8):Option AV :=
 qwv ((c0 &&& ~~~ (63:UInt8))==(128:UInt8))
def qbR (s4:Bool):Option AV:=some (dg s4)
def qwx (_n:Nat) (first0:UInt8) (c1:UInt8):Option AV :=
 bif (first0==(224:UInt8)) then
 bif (decide ((160:UInt8)≤c1)) then
 qbR (z159 c1)
 else
 qbR false
 else
 bif (first0==(237:UInt8)) then
 bif (decide (c1 < (160:UInt8))) then
 qbR (z159 c1)
 else
 qbR false
 else
 bif (first0==(240:UInt8)) then
 bif (decide ((144:UInt8)≤c1)) then
 qbR (z159 c1)
 else
 qbR false
 else
 bif (first0==(244:UInt8)) then
 bif (decide (c1 < (144:UInt8))) then
 qbR (z159 c1)
 else
 qbR false
 else
 qbR (z159 c1)
def qaH (s2:Int):Option AV:=some (dc s2)
def qbJ (ret:Int→Option AV) (k0:List UInt8→Int→Option AV) (next:List UInt8→Int→Option AV) (_n:Nat) (s0:List UInt8) (n3:Int):Option AV :=
 bif ((decide (0≤(0:Int)))&&(decide ((0:Int) < s0.length))) then
 bif (decide (n3 < (z132 (s0.getD (0:Int).toNat (0:UInt8))))) then
 bif (decide (n3 < (s0.length:Int))) then
 bif ((decide (0≤n3))&&(decide (n3 < s0.length))) then
 bif (!(z159 (s0.getD n3.toNat (0:UInt8)))) then
 ret n3
 else
 bif (n3==(1:Int)) then
 bif ((decide (0≤(0:Int)))&&(decide ((0:Int) < s0.length))) then
 bif ((decide (0≤(1:Int)))&&(decide ((1:Int) < s0.length))) then
 bif (!(z160 (s0.getD (0:Int).toNat (0:UInt8)) (s0.getD (1:Int).toNat (0:UInt8)))) then
 ret n3
 else
 next s0 (IntKind.wrap .i64 (n3+1))
 else none
 else none
 else
 next s0 (IntKind.wrap .i64 (n3+1))
 else none
 else
 k0 s0 n3
 else
 k0 s0 n3
 else none
def qfH (ret:Int→Option AV) (k0:List UInt8→Int→Option AV):Nat→List UInt8→Int→Option AV
 | 0=>fun _ _=>none
 | n+1=>qbJ ret k0 (qfH ret k0 n) n
def qah (_n:Nat) (s0:List UInt8) (n3:Int):Option AV :=
 bif ((decide (0≤(0:Int)))&&(decide ((0:Int) < s0.length))) then
 qaH (bif (decide ((z132 (s0.getD (0:Int).toNat (0:UInt8))) < n3)) then (z132 (s0.getD (0:Int).toNat (0:UInt8))) else n3)
 else none
def qqq (n:Nat) (s0:List UInt8):Option AV :=
 qfH qaH (qah n) n s0 (1:Int)
def qhR (s2:UInt8):Option AV:=some (di s2 none)
def qwy (_n:Nat) (n0:Int):Option AV :=
 bif (n0==(2:Int)) then
 qhR (192:UInt8)
 else
 bif (n0==(3:Int)) then
 qhR (224:UInt8)
 else
 bif (n0==(4:Int)) then
 qhR (240:UInt8)
 else
 qhR (0:UInt8)
def qcu (s2:Int) (s3:Int) (s4:Int):Option AV:=some (.tup [(.dat (.int .i32) s2 none),(dc s3),(dc s4)])
def qcc (k1:Int→Int→Option AV) (next:Int→Int→List UInt8→Int→Int→Option AV) (_n:Nat) (n5:Int) (c6:Int) (s48:List UInt8) (s49:Int) (s50:Int):Option AV :=
 bif (decide (s50 < s49)) then
 bif ((decide (0≤s50))&&(decide (s50 < s48.length))) then
 next n5 (bits .or .i32 (IntKind.wrap .i32 (c6*2 ^ (min (6:Int).toNat (IntKind.bits .i32)))) (IntKind.wrap .i32 ((UInt8.toNat ((s48.getD s50.toNat (0:UInt8)) &&& (63:UInt8)):Nat):Int))) s48 s49 (IntKind.wrap .i64 (s50+1))
 else none
 else
 k1 n5 c6
def qcZ (k1:Int→Int→Option AV):Nat→Int→Int→List UInt8→Int→Int→Option AV
 | 0=>fun _ _ _ _ _=>none
 | n+1=>qcc k1 (qcZ k1 n) n
def qcd (_n:Nat) (n5:Int) (c6:Int):Option AV :=
 qcu c6 n5 (0:Int)
def qbw (s0:List UInt8):=((decide (0≤(0:Int)))&&(decide ((0:Int) < s0.length)))
def qce (s0:List UInt8):=(List.drop (1:Int).toNat (List.take (z131 s0).toNat s0))
def qda (s0:List UInt8):=(decide ((z131 s0) < (z132 (s0.getD (0:Int).toNat (0:UInt8)))))
def qeL (s0:List UInt8):=(((decide (0≤(1:Int)))&&(decide ((1:Int)≤(z131 s0))))&&(decide ((z131 s0)≤(s0.length:Int))))
def qeM (s0:List UInt8):=(IntKind.wrap .i32 ((UInt8.toNat ((s0.getD (0:Int).toNat (0:UInt8)) &&& ~~~ (z133 (z131 s0))):Nat):Int))
def qqr (n:Nat) (s0:List UInt8):Option AV :=
 bif ((s0.length:Int)==(0:Int)) then qcu (0:Int) (0:Int) (4:Int) else bif ((qiH s0)&&true) then bif ((z131 s0)==(0:Int)) then qcu (0:Int) (1:Int) (3:Int) else bif (qbw s0) then bif (qda s0) then bif ((z131 s0)==(s0.length:Int)) then qcu (0:Int) (z131 s0) (4:Int) else bif (qbw s0) then bif (qda s0) then qcu (0:Int) (z131 s0) (3:Int) else bif (qbw s0) then bif (qeL s0) then qcZ (qcd n) n (z131 s0) (qeM s0) (qce s0) ((qce s0).length:Int) (0:Int) else none else none else none else bif (qbw s0) then bif (qda s0) then qcu (0:Int) (z131 s0) (3:Int) else bif (qbw s0) then bif (qeL s0) then qcZ (qcd n) n (z131 s0) (qeM s0) (qce s0) ((qce s0).length:Int) (0:Int) else none else none else none else none else none
def qbx (s24:List Int):Option AV:=some (.tup [(.tup []),.bad,(.pbox (.osl 21 (.int .i32)) s24 none)])
def qdx (k0:List Int→Option AV) (next:List UInt8→List Int→Option AV) (_n:Nat) (s0:List UInt8) (s24:List Int):Option AV :=
 bif (decide ((0:Int) < (s0.length:Int))) then
 bif ((qpy s0)&&true) then
 bif (qyv ((z102 s0).1) ((z102 s0).2.2) s24) then
 bif (((decide (0≤((z102 s0).2.1)))&&(decide (((z102 s0).2.1)≤(s0.length:Int))))&&(decide ((s0.length:Int)≤(s0.length:Int)))) then
 next (List.drop ((z102 s0).2.1).toNat (List.take (s0.length:Int).toNat s0)) (z62 ((z102 s0).1) ((z102 s0).2.2) s24)
 else none
 else none
 else none
 else
 k0 s24
def qbK (k0:List Int→Option AV):Nat→List UInt8→List Int→Option AV
 | 0=>fun _ _=>none
 | n+1=>qdx k0 (qbK k0 n) n
def qbi (_n:Nat) (s24:List Int):Option AV :=
 qbx s24
def qkZ (n:Nat) (s0:List UInt8) (f1:List Int):Option AV :=
 qbK (qbi n) n s0 f1
def qBy (s2:List Int):Option AV:=some (.dat (.sl (.int .i32)) s2 none)
def qDA (_n:Nat) (s0:List UInt8):Option AV :=
 bif (qdk s0 ([]:List Int)) then
 qBy (qCH s0 ([]:List Int))
 else none
def qow (s2:List Int):Option AV:=some (.dat (.sl (.int .i32)) s2 (some (2,21)))
def qdy (k0:List Int→Option AV) (next:List Int→List UInt8→Int→Int→Option AV) (_n:Nat) (t3:List Int) (s9:List UInt8) (s10:Int) (s11:Int):Option AV :=
 bif (decide (s11 < s10)) then
 bif ((decide (0≤s11))&&(decide (s11 < s9.length))) then
 bif ((decide (0≤s11))&&(decide (s11 < t3.length))) then
 next (List.set t3 s11.toNat (IntKind.wrap .i32 ((UInt8.toNat (s9.getD s11.toNat (0:UInt8)):Nat):Int))) s9 s10 (IntKind.wrap .i64 (s11+1))
 else none
 else none
 else
 k0 t3
def qhS (k0:List Int→Option AV):Nat→List Int→List UInt8→Int→Int→Option AV
 | 0=>fun _ _ _ _=>none
 | n+1=>qdy k0 (qhS k0 n) n
def qeN (_n:Nat) (t3:List Int):Option AV :=
 qow t3
def qqs (n:Nat) (s0:List UInt8):Option AV :=
 bif (((decide (0≤(s0.length:Int)))&&(decide ((s0.length:Int)≤(s0.length:Int))))&&(decide ((s0.length:Int)≤(room:Int)))) then
 qhS (qeN n) n (List.replicate (s0.length:Int).toNat 0) s0 (s0.length:Int) (0:Int)
 else none
def qox (s2:Int):Option AV:=some (.dat (.int .i32) s2 none)
def qwz (_n:Nat) (c0:Int):Option AV :=
 bif (decide ((128:Int)≤c0)) then
 qox (65533:Int)
 else
 qox c0
def qoy (s2:List Int):Option AV:=some (.dat (.sl (.int .i32)) s2 (some (2,21)))
def qdz (k0:List Int→Option AV) (next:List Int→Int→Int→Option AV) (_n:Nat) (t3:List Int) (s10:Int) (s11:Int):Option AV :=
 bif (decide (s11 < s10)) then
 bif ((decide (0≤s11))&&(decide (s11 < t3.length))) then
 bif ((decide (0≤s11))&&(decide (s11 < t3.length))) then
 next (List.set t3 s11.toNat (z134 (t3.getD s11.toNat 0))) s10 (IntKind.wrap .i64 (s11+1))
 else none
 else none
 else
 k0 t3
def qhT (k0:List Int→Option AV):Nat→List Int→Int→Int→Option AV
 | 0=>fun _ _ _=>none
 | n+1=>qdz k0 (qhT k0 n) n
def qeO (_n:Nat) (t3:List Int):Option AV :=
 qoy t3
def qqt (n:Nat) (s0:List UInt8):Option AV :=
 bif ((qiI s0)&&true) then
 qhT (qeO n) n (z106 s0) ((z106 s0).length:Int) (0:Int)
 else none
def qwA (s0:List (UInt8×(Int×Unit))):Option AV:=some (.dat (.arr 8 (.pair .byte (.pair (.int .i32) .unit))) s0 none)
def qBz (_n:Nat):Option AV :=
 qwA ([((164:UInt8),((8364:Int),())),((166:UInt8),((352:Int),())),((168:UInt8),((353:Int),())),((180:UInt8),((381:Int),())),((184:UInt8),((382:Int),())),((188:UInt8),((338:Int),())),((189:UInt8),((339:Int),())),((190:UInt8),((376:Int),()))]:List (UInt8×(Int×Unit)))
def qaI (s2:Int):Option AV:=some (.dat (.int .i32) s2 none)
def qqu (ret:Int→Option AV) (k0:UInt8→Option AV) (next:UInt8→List (UInt8×(Int×Unit))→Int→Option AV) (_n:Nat) (x0:UInt8) (s5:List (UInt8×(Int×Unit))) (s6:Int):Option AV :=
 bif (decide (s6 < (8:Int))) then
 bif ((decide (0≤s6))&&(decide (s6 < (8:Nat)))) then
 bif ((s5.getD s6.toNat ((0:UInt8),((0:Int),()))).1==x0) then
 ret (s5.getD s6.toNat ((0:UInt8),((0:Int),()))).2.1
 else
 next x0 s5 (IntKind.wrap .i64 (s6+1))
 else none
 else
 k0 x0
def qiS (ret:Int→Option AV) (k0:UInt8→Option AV):Nat→UInt8→List (UInt8×(Int×Unit))→Int→Option AV
 | 0=>fun _ _ _=>none
 | n+1=>qqu ret k0 (qiS ret k0 n) n
def qgy (_n:Nat) (x0:UInt8):Option AV :=
 qaI (IntKind.wrap .i32 ((UInt8.toNat x0:Nat):Int))
def qqv (n:Nat) (x0:UInt8):Option AV :=
 qiS qaI (qgy n) n x0 z161 (0:Int)
def qwB (s2:List Int):Option AV:=some (.dat (.sl (.int .i32)) s2 (some (2,21)))
def qdA (k0:List Int→Option AV) (next:List Int→List UInt8→Int→Int→Option AV) (_n:Nat) (t3:List Int) (s6:List UInt8) (s7:Int) (s8:Int):Option AV :=
 bif (decide (s8 < s7)) then
 bif ((decide (0≤s8))&&(decide (s8 < s6.length))) then
 bif (decide (t3.length+List.length ([(z135 (s6.getD s8.toNat (0:UInt8)))]:List Int)≤room)) then
 next (t3++([(z135 (s6.getD s8.toNat (0:UInt8)))]:List Int)) s6 s7 (IntKind.wrap .i64 (s8+1))
 else none
 else none
 else
 k0 t3
def qhU (k0:List Int→Option AV):Nat→List Int→List UInt8→Int→Int→Option AV
 | 0=>fun _ _ _ _=>none
 | n+1=>qdA k0 (qhU k0 n) n
def qdB (_n:Nat) (t3:List Int):Option AV :=
 qwB t3
def qqw (n:Nat) (s0:List UInt8):Option AV :=
 qhU (qdB n) n ([]:List Int) s0 (s0.length:Int) (0:Int)
def qwC (s0:List Int):Option AV:=some (.dat (.sl (.int .i32)) s0 none)
def qBA (_n:Nat):Option AV :=
 qwC (List.drop 0 (List.take 32 ([(8364:Int),(0:Int),(8218:Int),(402:Int),(8222:Int),(8230:Int),(8224:Int),(8225:Int),(710:Int),(8240:Int),(352:Int),(8249:Int),(338:Int),(0:Int),(381:Int),(0:Int),(0:Int),(8216:Int),(8217:Int),(8220:Int),(8221:Int),(8226:Int),(8211:Int),(8212:Int),(732:Int),(8482:Int),(353:Int),(8250:Int),(339:Int),(0:Int),(382:Int),(376:Int)]:List Int)))
def qhV (s2:Int):Option AV:=some (.dat (.int .i32) s2 none)
def qdb (x0:UInt8):=((UInt8.toNat (x0 - (128:UInt8)):Nat):Int)
def qwD (_n:Nat) (x0:UInt8):Option AV :=
 bif (decide (x0 < (128:UInt8))) then qhV (IntKind.wrap .i32 ((UInt8.toNat x0:Nat):Int)) else bif (decide ((160:UInt8)≤x0)) then qhV (IntKind.wrap .i32 ((UInt8.toNat x0:Nat):Int)) else bif ((decide (0≤(qdb x0)))&&(decide ((qdb x0) < z162.length))) then bif ((z162.getD (qdb x0).toNat 0) != (0:Int)) then qhV (z162.getD (qdb x0).toNat 0) else qhV (65533:Int) else none
def qwE (s2:List Int):Option AV:=some (.dat (.sl (.int .i32)) s2 (some (2,21)))
def qdC (k0:List Int→Option AV) (next:List Int→List UInt8→Int→Int→Option AV) (_n:Nat) (t3:List Int) (s9:List UInt8) (s10:Int) (s11:Int):Option AV :=
 bif (decide (s11 < s10)) then
 bif ((decide (0≤s11))&&(decide (s11 < s9.length))) then
 bif (decide (t3.length+List.length ([(z136 (s9.getD s11.toNat (0:UInt8)))]:List Int)≤room)) then
 next (t3++([(z136 (s9.getD s11.toNat (0:UInt8)))]:List Int)) s9 s10 (IntKind.wrap .i64 (s11+1))
 else none
 else none
 else
 k0 t3
def qhW (k0:List Int→Option AV):Nat→List Int→List UInt8→Int→Int→Option AV
 | 0=>fun _ _ _ _=>none
 | n+1=>qdC k0 (qhW k0 n) n
def qdD (_n:Nat) (t3:List Int):Option AV :=
 qwE t3
def qqx (n:Nat) (s0:List UInt8):Option AV :=
 bif (((decide (0≤(0:Int)))&&(decide (0≤(s0.length:Int))))&&(decide ((s0.length:Int)≤(room:Int)))) then
 qhW (qdD n) n (List.replicate (0:Int).toNat 0) s0 (s0.length:Int) (0:Int)
 else none
def qiT (s4:List Int):Option AV:=some (.dat (.sl (.int .i32)) s4 none)
def qDB (_n:Nat) (charset0:Int) (s1:List UInt8):Option AV :=
 bif (charset0==(1:Int)) then
 bif ((qpB s1)&&true) then
 qiT (z103 s1)
 else none
 else
 bif (charset0==(3:Int)) then
 bif ((qpz s1)&&true) then
 qiT (z104 s1)
 else none
 else
 bif (charset0==(4:Int)) then
 bif ((qpA s1)&&true) then
 qiT (z105 s1)
 else none
 else
 bif (charset0==(5:Int)) then
 bif ((qfX s1)&&true) then
 qiT (z38 s1)
 else none
 else
 bif ((qiI s1)&&true) then
 qiT (z106 s1)
 else none
def qby (V:Sigma Inv) (xv:Den V.1) (s29:List UInt8):Option AV:=some (.tup [(.tup []),(.abs V.1 V.2 xv),(.pbox (.leaf (.sl .byte)) s29 none)])
def qw (s7:List UInt8) (s9:Int):=(s7.getD s9.toNat (0:UInt8))
def qdE (V:Sigma Inv) (ret:Den V.1→List UInt8→Option AV) (k0:Den V.1→List UInt8→Option AV) (next:List UInt8→Int→Int→Den V.1→List UInt8→Option AV) (_n:Nat) (s7:List UInt8) (s8:Int) (s9:Int) (xv:Den V.1) (s29:List UInt8):Option AV :=
 bif (decide (s9 < s8)) then bif ((decide (0≤s9))&&(decide (s9 < s7.length))) then bif ((qw s7 s9)==(61:UInt8)) then ret xv s29 else bif (!((z121 (qw s7 s9)).2)) then bif (V.2.spec xv [⟨.byte,(qw s7 s9)⟩,⟨(.int .i64),(-1:Int)⟩]).1 then bif (!(V.2.spec xv [⟨.byte,(qw s7 s9)⟩,⟨(.int .i64),(-1:Int)⟩]).2.1) then ret (V.2.spec xv [⟨.byte,(qw s7 s9)⟩,⟨(.int .i64),(-1:Int)⟩]).2.2 s29 else next s7 s8 (IntKind.wrap .i64 (s9+1)) (V.2.spec xv [⟨.byte,(qw s7 s9)⟩,⟨(.int .i64),(-1:Int)⟩]).2.2 s29 else none else bif (V.2.spec xv [⟨.byte,(qw s7 s9)⟩,⟨(.int .i64),((z121 (qw s7 s9)).1)⟩]).1 then bif (!(V.2.spec xv [⟨.byte,(qw s7 s9)⟩,⟨(.int .i64),((z121 (qw s7 s9)).1)⟩]).2.1) then ret (V.2.spec xv [⟨.byte,(qw s7 s9)⟩,⟨(.int .i64),((z121 (qw s7 s9)).1)⟩]).2.2 s29 else next s7 s8 (IntKind.wrap .i64 (s9+1)) (V.2.spec xv [⟨.byte,(qw s7 s9)⟩,⟨(.int .i64),((z121 (qw s7 s9)).1)⟩]).2.2 s29 else none else none else k0 xv s29
def qeP (V:Sigma Inv) (ret:Den V.1→List UInt8→Option AV) (k0:Den V.1→List UInt8→Option AV):Nat→List UInt8→Int→Int→Den V.1→List UInt8→Option AV
 | 0=>fun _ _ _ _ _=>none
 | n+1=>(qdE V) ret k0 ((qeP V) ret k0 n) n
def qcv (V:Sigma Inv) (_n:Nat) (xv:Den V.1) (s29:List UInt8):Option AV :=
 (qby V) xv s29
def qqy (V:Sigma Inv) (n:Nat) (x0:Den V.1) (x1:List UInt8):Option AV :=
 (qeP V) (qby V) ((qcv V) n) n x1 (x1.length:Int) (0:Int) x0 x1
def qHY (_n:Nat) (s0:List UInt8):Option AV :=
 some (.abs (qdS [.leaf (.sl .byte)]) (clInv 173 [.leaf (.sl .byte)]) (s0,()))
def qoz (s2:List UInt8) (s3:Int):Option AV:=some (.tup [(da s2),(dc s3)])
def qfI (n:Nat) (x:Bool×(List UInt8)×Int×Int×Unit) (y0:UInt8) (y1:Int):Bool×Bool×(Bool×(List UInt8)×Int×Int×Unit) :=
 bif x.1 then (false,false,x) else yfin (.pair (.sl .byte) (.pair (.int .i64) (.pair (.int .i64) .unit))) x (
 bif (decide (y1 < (0:Int))) then
 some (.dat (.pair .bool (.pair (.sl .byte) (.pair (.int .i64) (.pair (.int .i64) .unit)))) (false,(x.2.1,(x.2.2.1,(x.2.2.2.1,())))) none)
 else
 bif (decide ((8:Int)≤(IntKind.wrap .i64 (x.2.2.2.1+(6:Int))))) then
 bif (decide (0≤(IntKind.wrap .i64 ((IntKind.wrap .i64 (x.2.2.2.1+(6:Int))) - (8:Int))))) then
 bif (decide (List.length x.2.1+List.length ([(UInt8.ofNat (IntKind.wrap .u8 (Int.fdiv (bits .or .i64 (IntKind.wrap .i64 (x.2.2.1*2 ^ (min (6:Int).toNat (IntKind.bits .i64)))) y1) (2 ^ (min (IntKind.wrap .i64 ((IntKind.wrap .i64 (x.2.2.2.1+(6:Int))) - (8:Int))).toNat (IntKind.bits .i64))))).toNat)]:List UInt8)≤room)) then
 bif (decide (0≤(IntKind.wrap .i64 ((IntKind.wrap .i64 (x.2.2.2.1+(6:Int))) - (8:Int))))) then
 some (.dat (.pair .bool (.pair (.sl .byte) (.pair (.int .i64) (.pair (.int .i64) .unit)))) (false,((x.2.1++([(UInt8.ofNat (IntKind.wrap .u8 (Int.fdiv (bits .or .i64 (IntKind.wrap .i64 (x.2.2.1*2 ^ (min (6:Int).toNat (IntKind.bits .i64)))) y1) (2 ^ (min (IntKind.wrap .i64 ((IntKind.wrap .i64 (x.2.2.2.1+(6:Int))) - (8:Int))).toNat (IntKind.bits .i64))))).toNat)]:List UInt8)),((bits .and .i64 (bits .or .i64 (IntKind.wrap .i64 (x.2.2.1*2 ^ (min (6:Int).toNat (IntKind.bits .i64)))) y1) (IntKind.wrap .i64 ((IntKind.wrap .i64 ((1:Int)*2 ^ (min (IntKind.wrap .i64 ((IntKind.wrap .i64 (x.2.2.2.1+(6:Int))) - (8:Int))).toNat (IntKind.bits .i64)))) - (1:Int)))),((IntKind.wrap .i64 ((IntKind.wrap .i64 (x.2.2.2.1+(6:Int))) - (8:Int))),())))) none)
 else none
 else none
 else none
 else
 some (.dat (.pair .bool (.pair (.sl .byte) (.pair (.int .i64) (.pair (.int .i64) .unit)))) (false,(x.2.1,((bits .or .i64 (IntKind.wrap .i64 (x.2.2.1*2 ^ (min (6:Int).toNat (IntKind.bits .i64)))) y1),((IntKind.wrap .i64 (x.2.2.2.1+(6:Int))),())))) none))
def qdc (n:Nat) (s0:List UInt8):=(z173 (qfI n) (false,(([]:List UInt8),((0:Int),((0:Int),())))) s0)
def qeQ (n:Nat) (s0:List UInt8):=( qoz (qdc n s0).2.1.2.1 (qdc n s0).2.1.2.2.2.1)
def qwF (n:Nat) (s0:List UInt8):Option AV :=
 bif (qdc n s0).1 then bif (qdc n s0).2.1.1 then qoz ([]:List UInt8) (0:Int) else both ( both (qeQ n s0) (qeQ n s0)) (qeQ n s0) else none
def qwG (s2:List UInt8):Option AV:=some (da s2)
def qwH (_n:Nat) (s0:List UInt8):Option AV :=
 bif ((qpD s0)&&true) then
 qwG ((z137 s0).1)
 else none
def qwI (s2:List UInt8):Option AV:=some (da s2)
def qwJ (_n:Nat) (s0:List UInt8):Option AV :=
 bif ((qiJ s0)&&true) then
 qwI ((z124 s0).1)
 else none
def qwK (s2:List UInt8):Option AV:=some (da s2)
def qDC (_n:Nat) (w0:(List UInt8)×(Int×((List UInt8)×Unit))):Option AV :=
 bif (w0.2.1==(1:Int)) then
 bif ((qpE w0.2.2.1)&&true) then
 qwK (z107 w0.2.2.1)
 else none
 else
 bif ((qpF w0.2.2.1)&&true) then
 qwK (z108 w0.2.2.1)
 else none
def qwL (s2:List Int) (s3:Bool):Option AV:=some (.tup [(.dat (.sl (.int .i32)) s2 none),(dg s3)])
def qgz (s0:List UInt8):=( bif ((qru ((z51 s0).1))&&true) then bif ((qyw ((z51 s0).1))&&true) then bif ((qym (z52 ((z51 s0).1)) (z64 ((z51 s0).1)))&&true) then qwL (z63 (z52 ((z51 s0).1)) (z64 ((z51 s0).1))) true else none else none else none)
def qDD (_n:Nat) (s0:List UInt8):Option AV :=
 bif ((qiw s0)&&true) then bif (((z51 s0).2) != (0:Int)) then qwL ([]:List Int) false else both ( both (qgz s0) (qgz s0)) (qgz s0) else none
def qhX (s14:Int):Option AV:=some (.tup [(.tup []),.bad,.bad,(.pbox (.leaf (.int .i64)) s14 none)])
def qla (_n:Nat) (p0:Int×((List UInt8)×Unit)) (_x1:List Int) (x2:Int):Option AV :=
 bif (p0.1==(3:Int)) then
 bif (qok p0.2.1 x2) then
 qhX (z32 p0.2.1 x2)
 else none
 else
 qhX x2
def qhY (s14:List Int):Option AV:=some (.tup [(.tup []),.bad,.bad,(.pbox (.osl 3 (.int .i64)) s14 none)])
def qlb (_n:Nat) (p0:Int×((List UInt8)×Unit)) (_x1:List Int) (x2:List Int):Option AV :=
 bif (p0.1==(3:Int)) then
 bif (qol p0.2.1 x2) then
 qhY (z30 p0.2.1 x2)
 else none
 else
 qhY x2
def qhZ (s36:List Int):Option AV:=some (.tup [(.tup []),.bad,(.pbox (.osl 21 (.int .i32)) s36 none)])
def qr (s9:List (Int×((List UInt8)×Unit))) (s11:Int):=(s9.getD s11.toNat ((0:Int),(([]:List UInt8),())))
def qay (next:List (Int×((List UInt8)×Unit))→Int→Int→List Int→Option AV) (s9:List (Int×((List UInt8)×Unit))) (s10:Int) (s11:Int) (s36:List Int):=( bif ((qfX (qr s9 s11).2.1)&&true) then bif (qvD (qr s9 s11) (z38 (qr s9 s11).2.1) s36) then next s9 s10 (IntKind.wrap .i64 (s11+1)) (z21 (qr s9 s11) (z38 (qr s9 s11).2.1) s36) else none else none)
def qbj (k0:List Int→Option AV) (next:List (Int×((List UInt8)×Unit))→Int→Int→List Int→Option AV) (_n:Nat) (s9:List (Int×((List UInt8)×Unit))) (s10:Int) (s11:Int) (s36:List Int):Option AV :=
 bif (decide (s11 < s10)) then bif ((decide (0≤s11))&&(decide (s11 < s9.length))) then bif ((qr s9 s11).1 != (3:Int)) then both (qay next s9 s10 s11 s36) ( both (qay next s9 s10 s11 s36) (qay next s9 s10 s11 s36)) else bif ((qir (qr s9 s11).2.1)&&true) then bif (qvD (qr s9 s11) ((z39 (qr s9 s11).2.1).1) s36) then next s9 s10 (IntKind.wrap .i64 (s11+1)) (z21 (qr s9 s11) ((z39 (qr s9 s11).2.1).1) s36) else none else none else none else k0 s36
def qcw (k0:List Int→Option AV):Nat→List (Int×((List UInt8)×Unit))→Int→Int→List Int→Option AV
 | 0=>fun _ _ _ _=>none
 | n+1=>qbj k0 (qcw k0 n) n
def qcf (_n:Nat) (s36:List Int):Option AV :=
 qhZ s36
def qgA (n:Nat) (s0:List UInt8) (f1:List Int):Option AV :=
 bif ((qix s0)&&true) then
 qcw (qcf n) n (z37 s0) ((z37 s0).length:Int) (0:Int) f1
 else none
def qia (s36:List (List Int)):Option AV:=some (.tup [(.tup []),.bad,(.pbox (.osl 25 (.sl (.int .i32))) s36 none)])
def qt (s9:List (Int×((List UInt8)×Unit))) (s11:Int):=(s9.getD s11.toNat ((0:Int),(([]:List UInt8),())))
def qaz (next:List (Int×((List UInt8)×Unit))→Int→Int→List (List Int)→Option AV) (s9:List (Int×((List UInt8)×Unit))) (s10:Int) (s11:Int) (s36:List (List Int)):=( bif ((qfX (qt s9 s11).2.1)&&true) then bif (qvE (qt s9 s11) (z38 (qt s9 s11).2.1) s36) then next s9 s10 (IntKind.wrap .i64 (s11+1)) (z28 (qt s9 s11) (z38 (qt s9 s11).2.1) s36) else none else none)
def qbk (k0:List (List Int)→Option AV) (next:List (Int×((List UInt8)×Unit))→Int→Int→List (List Int)→Option AV) (_n:Nat) (s9:List (Int×((List UInt8)×Unit))) (s10:Int) (s11:Int) (s36:List (List Int)):Option AV :=
 bif (decide (s11 < s10)) then bif ((decide (0≤s11))&&(decide (s11 < s9.length))) then bif ((qt s9 s11).1 != (3:Int)) then both (qaz next s9 s10 s11 s36) ( both (qaz next s9 s10 s11 s36) (qaz next s9 s10 s11 s36)) else bif ((qir (qt s9 s11).2.1)&&true) then bif (qvE (qt s9 s11) ((z39 (qt s9 s11).2.1).1) s36) then next s9 s10 (IntKind.wrap .i64 (s11+1)) (z28 (qt s9 s11) ((z39 (qt s9 s11).2.1).1) s36) else none else none else none else k0 s36
def qcx (k0:List (List Int)→Option AV):Nat→List (Int×((List UInt8)×Unit))→Int→Int→List (List Int)→Option AV
 | 0=>fun _ _ _ _=>none
 | n+1=>qbk k0 (qcx k0 n) n
def qcg (_n:Nat) (s36:List (List Int)):Option AV :=
 qia s36
def qgB (n:Nat) (s0:List UInt8) (f1:List (List Int)):Option AV :=
 bif ((qix s0)&&true) then
 qcx (qcg n) n (z37 s0) ((z37 s0).length:Int) (0:Int) f1
 else none
def qib (s36:Int):Option AV:=some (.tup [(.tup []),.bad,(.pbox (.leaf (.int .i64)) s36 none)])
def qu (s9:List (Int×((List UInt8)×Unit))) (s11:Int):=(s9.getD s11.toNat ((0:Int),(([]:List UInt8),())))
def qaA (next:List (Int×((List UInt8)×Unit))→Int→Int→Int→Option AV) (s9:List (Int×((List UInt8)×Unit))) (s10:Int) (s11:Int) (s36:Int):=( bif ((qfX (qu s9 s11).2.1)&&true) then bif (qco (qu s9 s11) (z38 (qu s9 s11).2.1) s36) then next s9 s10 (IntKind.wrap .i64 (s11+1)) (qis (qu s9 s11) (z38 (qu s9 s11).2.1) s36) else none else none)
def qbl (k0:Int→Option AV) (next:List (Int×((List UInt8)×Unit))→Int→Int→Int→Option AV) (_n:Nat) (s9:List (Int×((List UInt8)×Unit))) (s10:Int) (s11:Int) (s36:Int):Option AV :=
 bif (decide (s11 < s10)) then bif ((decide (0≤s11))&&(decide (s11 < s9.length))) then bif ((qu s9 s11).1 != (3:Int)) then both (qaA next s9 s10 s11 s36) ( both (qaA next s9 s10 s11 s36) (qaA next s9 s10 s11 s36)) else bif ((qir (qu s9 s11).2.1)&&true) then bif (qco (qu s9 s11) ((z39 (qu s9 s11).2.1).1) s36) then next s9 s10 (IntKind.wrap .i64 (s11+1)) (qis (qu s9 s11) ((z39 (qu s9 s11).2.1).1) s36) else none else none else none else k0 s36
def qcy (k0:Int→Option AV):Nat→List (Int×((List UInt8)×Unit))→Int→Int→Int→Option AV
 | 0=>fun _ _ _ _=>none
 | n+1=>qbl k0 (qcy k0 n) n
def qch (_n:Nat) (s36:Int):Option AV :=
 qib s36
def qgC (n:Nat) (s0:List UInt8) (f1:Int):Option AV :=
 bif ((qix s0)&&true) then
 qcy (qch n) n (z37 s0) ((z37 s0).length:Int) (0:Int) f1
 else none
def qic (s36:List Int):Option AV:=some (.tup [(.tup []),.bad,(.pbox (.osl 3 (.int .i64)) s36 none)])
def qv (s9:List (Int×((List UInt8)×Unit))) (s11:Int):=(s9.getD s11.toNat ((0:Int),(([]:List UInt8),())))
def qaB (next:List (Int×((List UInt8)×Unit))→Int→Int→List Int→Option AV) (s9:List (Int×((List UInt8)×Unit))) (s10:Int) (s11:Int) (s36:List Int):=( bif ((qfX (qv s9 s11).2.1)&&true) then bif (qcp (qv s9 s11) (z38 (qv s9 s11).2.1) s36) then next s9 s10 (IntKind.wrap .i64 (s11+1)) (qit (qv s9 s11) (z38 (qv s9 s11).2.1) s36) else none else none)
def qbm (k0:List Int→Option AV) (next:List (Int×((List UInt8)×Unit))→Int→Int→List Int→Option AV) (_n:Nat) (s9:List (Int×((List UInt8)×Unit))) (s10:Int) (s11:Int) (s36:List Int):Option AV :=
 bif (decide (s11 < s10)) then bif ((decide (0≤s11))&&(decide (s11 < s9.length))) then bif ((qv s9 s11).1 != (3:Int)) then both (qaB next s9 s10 s11 s36) ( both (qaB next s9 s10 s11 s36) (qaB next s9 s10 s11 s36)) else bif ((qir (qv s9 s11).2.1)&&true) then bif (qcp (qv s9 s11) ((z39 (qv s9 s11).2.1).1) s36) then next s9 s10 (IntKind.wrap .i64 (s11+1)) (qit (qv s9 s11) ((z39 (qv s9 s11).2.1).1) s36) else none else none else none else k0 s36
def qcz (k0:List Int→Option AV):Nat→List (Int×((List UInt8)×Unit))→Int→Int→List Int→Option AV
 | 0=>fun _ _ _ _=>none
 | n+1=>qbm k0 (qcz k0 n) n
def qci (_n:Nat) (s36:List Int):Option AV :=
 qic s36
def qgD (n:Nat) (s0:List UInt8) (f1:List Int):Option AV :=
 bif ((qix s0)&&true) then
 qcz (qci n) n (z37 s0) ((z37 s0).length:Int) (0:Int) f1
 else none
def qwM (s2:List Int):Option AV:=some (.dat (.sl (.int .i32)) s2 none)
def qDE (_n:Nat) (s0:List UInt8):Option AV :=
 bif (qdl s0 ([]:List Int)) then
 qwM (qsb s0 ([]:List Int))
 else none
def qwN (before4:List UInt8) (after5:List UInt8) (found6:Bool):Option AV:=some (.tup [(da before4),(da after5),(dg found6)])
def qDF (_n:Nat) (s0:List UInt8) (sep1:List UInt8):Option AV :=
 bif ((qmP s0 sep1)&&true) then
 bif (decide (0≤(z57 s0 sep1))) then
 bif (((decide (0≤((0:Nat):Int)))&&(decide (((0:Nat):Int)≤(z57 s0 sep1))))&&(decide ((z57 s0 sep1)≤(s0.length:Int)))) then
 bif (((decide (0≤(IntKind.wrap .i64 ((z57 s0 sep1)+(sep1.length:Int)))))&&(decide ((IntKind.wrap .i64 ((z57 s0 sep1)+(sep1.length:Int)))≤(s0.length:Int))))&&(decide ((s0.length:Int)≤(s0.length:Int)))) then
 qwN (List.drop ((0:Nat):Int).toNat (List.take (z57 s0 sep1).toNat s0)) (List.drop (IntKind.wrap .i64 ((z57 s0 sep1)+(sep1.length:Int))).toNat (List.take (s0.length:Int).toNat s0)) true
 else none
 else none
 else
 qwN s0 ([]:List UInt8) false
 else none
def qqz (s2:List UInt8):Option AV:=some (db s2 (some (2,5)))
def qE (s0:List UInt8):=(z35 s0 ([(13:UInt8),(10:UInt8)]:List UInt8))
def qlc (ret:List UInt8→Option AV) (next:List UInt8→List UInt8→Option AV) (_n:Nat) (s0:List UInt8) (out3:List UInt8):Option AV :=
 bif ((qsB s0 ([(13:UInt8),(10:UInt8)]:List UInt8))&&true) then bif (decide (out3.length+List.length ((qE s0).1)≤room)) then bif (!((qE s0).2.2)) then ret (out3++((qE s0).1)) else bif ((((qE s0).2.1).length:Int)==(0:Int)) then bif (decide (List.length (out3++((qE s0).1))+List.length ([13,10]:List UInt8)≤room)) then next ((qE s0).2.1) ((out3++((qE s0).1))++([13,10]:List UInt8)) else none else bif ((decide (0≤(0:Int)))&&(decide ((0:Int) < ((qE s0).2.1).length))) then bif (!(z36 (((qE s0).2.1).getD (0:Int).toNat (0:UInt8)) (2:Int))) then bif (decide (List.length (out3++((qE s0).1))+List.length ([13,10]:List UInt8)≤room)) then next ((qE s0).2.1) ((out3++((qE s0).1))++([13,10]:List UInt8)) else none else next ((qE s0).2.1) (out3++((qE s0).1)) else none else none else none
def qld (ret:List UInt8→Option AV):Nat→List UInt8→List UInt8→Option AV
 | 0=>fun _ _=>none
 | n+1=>qlc ret (qld ret n) n
def qDG (n:Nat) (s0:List UInt8):Option AV :=
 qld qqz n s0 ([]:List UInt8)
def qHZ (s2:List Int):Option AV:=some (.dat (.sl (.int .i32)) s2 none)
def z9_sh (_n:Nat) (s0:List UInt8):Option AV :=
 bif ((qiy s0)&&true) then
 bif ((qzD (z19 s0))&&true) then
 qHZ (z11 (z19 s0))
 else none
 else none
def qwO (s2:List (List Int)):Option AV:=some (.dat (.sl (.sl (.int .i32))) s2 none)
def qDH (_n:Nat) (s0:List UInt8):Option AV :=
 bif ((qiy s0)&&true) then
 bif (qdm (z19 s0) ([]:List (List Int))) then
 qwO (qsc (z19 s0) ([]:List (List Int)))
 else none
 else none
def qmx (s9:Int):Option AV:=some (.tup [(.tup []),.bad,(.pbox (.leaf (.int .i64)) s9 none)])
def qle (_n:Nat) (s0:List UInt8) (f1:Int):Option AV :=
 bif ((qiy s0)&&true) then
 bif (qdn (z19 s0) f1) then
 qmx (qsd (z19 s0) f1)
 else none
 else none
def qmy (s9:List Int):Option AV:=some (.tup [(.tup []),.bad,(.pbox (.osl 3 (.int .i64)) s9 none)])
def qlf (_n:Nat) (s0:List UInt8) (f1:List Int):Option AV :=
 bif ((qiy s0)&&true) then
 bif (qdo (z19 s0) f1) then
 qmy (qse (z19 s0) f1)
 else none
 else none
def qwP (s2:List Int):Option AV:=some (.dat (.sl (.int .i64)) s2 none)
def qDI (_n:Nat) (s0:List UInt8):Option AV :=
 bif (qdq s0 ([]:List Int)) then
 qwP (qvG s0 ([]:List Int))
 else none
def qwQ (s2:Int):Option AV:=some (dc s2)
def qDJ (_n:Nat) (s0:List UInt8):Option AV :=
 bif (qdp s0 (0:Int)) then
 qwQ (qvF s0 (0:Int))
 else none
def qwR (s0:Bool):Option AV:=some (dg s0)
def qbS:=([(97:UInt8),(32:UInt8),(61:UInt8),(63:UInt8),(117:UInt8),(116:UInt8),(102:UInt8),(45:UInt8),(56:UInt8),(63:UInt8),(81:UInt8),(63:UInt8),(98:UInt8),(63:UInt8),(61:UInt8),(13:UInt8),(10:UInt8),(32:UInt8),(61:UInt8),(63:UInt8),(117:UInt8),(116:UInt8),(102:UInt8),(45:UInt8),(56:UInt8),(63:UInt8),(81:UInt8),(63:UInt8),(99:UInt8),(63:UInt8),(61:UInt8)]:List UInt8)
def z7_sh (_n:Nat):Option AV :=
 bif ((z9_ok (qbS))&&true) then bif ((z8_ok (z9 (qbS)) ([(97:Int),(32:Int),(98:Int),(99:Int)]:List Int))&&true) then bif (z8 (z9 (qbS)) ([(97:Int),(32:Int),(98:Int),(99:Int)]:List Int)) then bif ((qCS (qbS))&&true) then bif ((z17 (qbS))==(0:Int)) then bif ((qvC (qbS))&&true) then bif (((z16 (qbS)).length:Int)==(2:Int)) then bif ((qCT (qbS))&&true) then qwR (((z15 (qbS)).length:Int)==(4:Int)) else none else qwR false else none else qwR false else none else qwR false else none else none
def qoA (s2:Bool):Option AV:=some (dg s2)
def qaQ (s13:List UInt8) (s15:Int):=([(s13.getD s15.toNat (0:UInt8))]:List UInt8)
def qiU (k0:List UInt8→Option AV) (next:List UInt8→List UInt8→Int→Int→Option AV) (_n:Nat) (plain3:List UInt8) (s13:List UInt8) (s14:Int) (s15:Int):Option AV :=
 bif (decide (s15 < s14)) then bif ((decide (0≤s15))&&(decide (s15 < s13.length))) then bif (decide ((s13.getD s15.toNat (0:UInt8)) < (32:UInt8))) then next plain3 s13 s14 (IntKind.wrap .i64 (s15+1)) else bif (decide ((126:UInt8) < (s13.getD s15.toNat (0:UInt8)))) then next plain3 s13 s14 (IntKind.wrap .i64 (s15+1)) else bif ((s13.getD s15.toNat (0:UInt8))==(63:UInt8)) then bif (decide ((0:Int) < (plain3.length:Int))) then bif ((decide (0≤(IntKind.wrap .i64 ((plain3.length:Int) - (1:Int)))))&&(decide ((IntKind.wrap .i64 ((plain3.length:Int) - (1:Int))) < plain3.length))) then bif ((plain3.getD (IntKind.wrap .i64 ((plain3.length:Int) - (1:Int))).toNat (0:UInt8))==(61:UInt8)) then next plain3 s13 s14 (IntKind.wrap .i64 (s15+1)) else bif (decide (plain3.length+List.length (qaQ s13 s15)≤room)) then next (plain3++(qaQ s13 s15)) s13 s14 (IntKind.wrap .i64 (s15+1)) else none else none else bif (decide (plain3.length+List.length (qaQ s13 s15)≤room)) then next (plain3++(qaQ s13 s15)) s13 s14 (IntKind.wrap .i64 (s15+1)) else none else bif (decide (plain3.length+List.length (qaQ s13 s15)≤room)) then next (plain3++(qaQ s13 s15)) s13 s14 (IntKind.wrap .i64 (s15+1)) else none else none else k0 plain3
def z6_l5 (k0:List UInt8→Option AV):Nat→List UInt8→List UInt8→Int→Int→Option AV
 | 0=>fun _ _ _ _=>none
 | n+1=>qiU k0 (z6_l5 k0 n) n
def qfu (ret:Bool→Option AV) (k2:List UInt8→Option AV) (next:List UInt8→List Int→List UInt8→Int→Int→Option AV) (_n:Nat) (plain3:List UInt8) (t6:List Int) (s55:List UInt8) (s56:Int) (s57:Int):Option AV :=
 bif (decide (s57 < s56)) then
 bif ((decide (0≤s57))&&(decide (s57 < s55.length))) then
 bif ((decide (0≤s57))&&(decide (s57 < t6.length))) then
 bif ((t6.getD s57.toNat 0) != (IntKind.wrap .i32 ((UInt8.toNat (s55.getD s57.toNat (0:UInt8)):Nat):Int))) then
 ret false
 else
 next plain3 t6 s55 s56 (IntKind.wrap .i64 (s57+1))
 else none
 else none
 else
 k2 plain3
def qoB (ret:Bool→Option AV) (k2:List UInt8→Option AV):Nat→List UInt8→List Int→List UInt8→Int→Int→Option AV
 | 0=>fun _ _ _ _ _=>none
 | n+1=>qfu ret k2 (qoB ret k2 n) n
def qid (_n:Nat) (plain3:List UInt8):Option AV :=
 bif ((qvC plain3)&&true) then
 bif (((z16 plain3).length:Int)==(0:Int)) then
 qoA z7
 else
 qoA false
 else none
def qiV (n:Nat) (plain3:List UInt8):Option AV :=
 bif ((z9_ok plain3)&&true) then
 bif (((z9 plain3).length:Int) != (plain3.length:Int)) then
 qoA false
 else
 qoB qoA (qid n) n plain3 (z9 plain3) plain3 (plain3.length:Int) (0:Int)
 else none
def z6_sh (n:Nat) (s0:List UInt8):Option AV :=
 bif (decide ((500:Int) < (s0.length:Int))) then
 qoA z7
 else
 z6_l5 (qiV n) n ([]:List UInt8) s0 (s0.length:Int) (0:Int)
end
end Go.Av
