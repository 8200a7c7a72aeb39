import Derived.Test.YtnfehbljinflbaaGreatDoorRRRRErM
import Derived.Test.YtnfehbljinflbaaGreatDoorRRRRAvE
namespace Go.Av
set_option linter.unusedSimpArgs false
set_option linter.unusedVariables false
noncomputable section
def qsr (s4:Bool):Option AV:=some (dg s4)
def qiL (ret:Bool→Option AV) (k0:Option AV) (next:List Int→List Int→Int→Option AV) (_n:Nat) (a0:List Int) (b1:List Int) (i5:Int):Option AV :=
 bif (decide (i5 < (a0.length:Int))) then
 bif ((decide (0≤i5))&&(decide (i5 < a0.length))) then
 bif ((decide (0≤i5))&&(decide (i5 < b1.length))) then
 bif ((a0.getD i5.toNat 0) != (b1.getD i5.toNat 0)) then
 ret false
 else
 next a0 b1 (IntKind.wrap .i64 (i5+1))
 else none
 else none
 else
 k0
def z8_l4 (ret:Bool→Option AV) (k0:Option AV):Nat→List Int→List Int→Int→Option AV
 | 0=>fun _ _ _=>none
 | n+1=>qiL ret k0 (z8_l4 ret k0 n) n
def qqh (_n:Nat):Option AV :=
 qsr true
def z8_sh (n:Nat) (a0:List Int) (b1:List Int):Option AV :=
 bif ((a0.length:Int) != (b1.length:Int)) then
 qsr false
 else
 z8_l4 qsr (qqh n) n a0 b1 (0:Int)
def qBp (s10:List Int):Option AV:=some (.tup [(.tup []),.bad,.bad,(.pbox (.osl 21 (.int .i32)) s10 none)])
def qDt (_n:Nat) (_x0:Int×((List UInt8)×Unit)) (t1:List Int) (x2:List Int):Option AV :=
 bif (decide (x2.length+t1.length≤room)) then
 qBp (x2++t1)
 else none
def qBq (s11:List (List Int)):Option AV:=some (.tup [(.tup []),.bad,.bad,(.pbox (.osl 25 (.sl (.int .i32))) s11 none)])
def qDu (_n:Nat) (_x0:Int×((List UInt8)×Unit)) (t1:List Int) (x2:List (List Int)):Option AV :=
 bif (decide (x2.length+List.length ([t1]:List (List Int))≤room)) then
 qBq (x2++([t1]:List (List Int)))
 else none
def qBr (s4:Int):Option AV:=some (dc s4)
def qIp (_n:Nat) (b0:List UInt8) (c1:UInt8):Option AV :=
 qBr (z123 b0 c1)
def qBs (s4:Bool):Option AV:=some (dg s4)
def qIq (_n:Nat) (a0:List UInt8) (b1:List UInt8):Option AV :=
 qBs (a0==b1)
def qhC (s4:Int):Option AV:=some (dc s4)
def qqi (ret:Int→Option AV) (next:List UInt8→List UInt8→Int→Option AV) (_n:Nat) (s0:List UInt8) (sep1:List UInt8) (n5:Int):Option AV :=
 bif ((qmP s0 sep1)&&true) then
 bif ((z57 s0 sep1)==(-1:Int)) then
 ret n5
 else
 bif (((decide (0≤(IntKind.wrap .i64 ((z57 s0 sep1)+(sep1.length:Int)))))&&(decide ((IntKind.wrap .i64 ((z57 s0 sep1)+(sep1.length:Int)))≤(s0.length:Int))))&&(decide ((s0.length:Int)≤(s0.length:Int)))) then
 next (List.drop (IntKind.wrap .i64 ((z57 s0 sep1)+(sep1.length:Int))).toNat (List.take (s0.length:Int).toNat s0)) sep1 (IntKind.wrap .i64 (n5+1))
 else none
 else none
def qiM (ret:Int→Option AV):Nat→List UInt8→List UInt8→Int→Option AV
 | 0=>fun _ _ _=>none
 | n+1=>qqi ret (qiM ret n) n
def qvP (n:Nat) (s0:List UInt8) (sep1:List UInt8):Option AV :=
 bif ((sep1.length:Int)==(0:Int)) then
 bif ((qBX s0)&&true) then
 qhC (IntKind.wrap .i64 ((z164 s0)+1))
 else none
 else
 bif ((sep1.length:Int)==(1:Int)) then
 bif ((decide (0≤(0:Int)))&&(decide ((0:Int) < sep1.length))) then
 qhC (z165 s0 (sep1.getD (0:Int).toNat (0:UInt8)))
 else none
 else
 qiM qhC n s0 sep1 (0:Int)
def qhD (s8:List (List UInt8)):Option AV:=some (.dat (.sl (.sl .byte)) s8 none)
def qbX (k0:List UInt8→List (List UInt8)→Int→Option AV) (next:List UInt8→List UInt8→Int→Int→List (List UInt8)→Int→Option AV) (_n:Nat) (s0:List UInt8) (sep1:List UInt8) (sepSave2:Int) (n3:Int) (a9:List (List UInt8)) (i10:Int):Option AV :=
 bif (decide (i10 < n3)) then
 bif ((qmP s0 sep1)&&true) then
 bif (decide ((z57 s0 sep1) < (0:Int))) then
 k0 s0 a9 i10
 else
 bif ((((decide (0≤((0:Nat):Int)))&&(decide (((0:Nat):Int)≤(IntKind.wrap .i64 ((z57 s0 sep1)+sepSave2)))))&&(decide ((IntKind.wrap .i64 ((z57 s0 sep1)+sepSave2))≤(IntKind.wrap .i64 ((z57 s0 sep1)+sepSave2)))))&&(decide ((IntKind.wrap .i64 ((z57 s0 sep1)+sepSave2))≤(s0.length:Int)))) then
 bif ((decide (0≤i10))&&(decide (i10 < a9.length))) then
 bif (((decide (0≤(IntKind.wrap .i64 ((z57 s0 sep1)+(sep1.length:Int)))))&&(decide ((IntKind.wrap .i64 ((z57 s0 sep1)+(sep1.length:Int)))≤(s0.length:Int))))&&(decide ((s0.length:Int)≤(s0.length:Int)))) then
 next (List.drop (IntKind.wrap .i64 ((z57 s0 sep1)+(sep1.length:Int))).toNat (List.take (s0.length:Int).toNat s0)) sep1 sepSave2 n3 (List.set a9 i10.toNat (List.drop ((0:Nat):Int).toNat (List.take (IntKind.wrap .i64 ((z57 s0 sep1)+sepSave2)).toNat s0))) (IntKind.wrap .i64 (i10+1))
 else none
 else none
 else none
 else none
 else
 k0 s0 a9 i10
def qbO (k0:List UInt8→List (List UInt8)→Int→Option AV):Nat→List UInt8→List UInt8→Int→Int→List (List UInt8)→Int→Option AV
 | 0=>fun _ _ _ _ _ _=>none
 | n+1=>qbX k0 (qbO k0 n) n
def qad (_n:Nat) (s0:List UInt8) (a9:List (List UInt8)) (i10:Int):Option AV :=
 bif ((decide (0≤i10))&&(decide (i10 < a9.length))) then
 bif (((decide (0≤((0:Nat):Int)))&&(decide (((0:Nat):Int)≤(IntKind.wrap .i64 (i10+1)))))&&(decide ((IntKind.wrap .i64 (i10+1))≤((List.set a9 i10.toNat s0).length:Int)))) then
 qhD (List.drop ((0:Nat):Int).toNat (List.take (IntKind.wrap .i64 (i10+1)).toNat (List.set a9 i10.toNat s0)))
 else none
 else none
def qaO (s0:List UInt8) (sep1:List UInt8):=(bif (decide ((IntKind.wrap .i64 ((s0.length:Int)+1)) < (IntKind.wrap .i64 ((z142 s0 sep1)+1)))) then (IntKind.wrap .i64 ((s0.length:Int)+1)) else (IntKind.wrap .i64 ((z142 s0 sep1)+1)))
def qaP (s0:List UInt8) (n3:Int):=(bif (decide ((IntKind.wrap .i64 ((s0.length:Int)+1)) < n3)) then (IntKind.wrap .i64 ((s0.length:Int)+1)) else n3)
def qqj (n:Nat) (s0:List UInt8) (sep1:List UInt8) (sepSave2:Int) (n3:Int):Option AV :=
 bif (n3==(0:Int)) then qhD ([]:List (List UInt8)) else bif ((sep1.length:Int)==(0:Int)) then bif ((qBY s0 n3)&&true) then qhD (z141 s0 n3) else none else bif (decide (n3 < (0:Int))) then bif ((qja s0 sep1)&&true) then bif (((decide (0≤(qaO s0 sep1)))&&(decide ((qaO s0 sep1)≤(qaO s0 sep1))))&&(decide ((qaO s0 sep1)≤(room:Int)))) then qbO (qad n) n s0 sep1 sepSave2 (IntKind.wrap .i64 ((qaO s0 sep1) - (1:Int))) (List.replicate (qaO s0 sep1).toNat ([]:List UInt8)) (0:Int) else none else none else bif (((decide (0≤(qaP s0 n3)))&&(decide ((qaP s0 n3)≤(qaP s0 n3))))&&(decide ((qaP s0 n3)≤(room:Int)))) then qbO (qad n) n s0 sep1 sepSave2 (IntKind.wrap .i64 ((qaP s0 n3) - (1:Int))) (List.replicate (qaP s0 n3).toNat ([]:List UInt8)) (0:Int) else none
def qBt (s4:List (List UInt8)):Option AV:=some (.dat (.sl (.sl .byte)) s4 none)
def qDv (_n:Nat) (s0:List UInt8) (sep1:List UInt8):Option AV :=
 bif ((qjb s0 sep1 (0:Int) (-1:Int))&&true) then
 qBt (z116 s0 sep1 (0:Int) (-1:Int))
 else none
def qkQ (s2:UInt8):Option AV:=some (dm s2 none)
def qvQ (_n:Nat) (c0:UInt8):Option AV :=
 bif (decide ((65:UInt8)≤c0)) then
 bif (decide (c0≤(90:UInt8))) then
 qkQ (c0 ||| (32:UInt8))
 else
 qkQ c0
 else
 qkQ c0
def qBu (s2:List UInt8):Option AV:=some (db s2 (some (2,5)))
def qfn (k0:List UInt8→Option AV) (next:List UInt8→Int→Int→Option AV) (_n:Nat) (out3:List UInt8) (s9:Int) (s10:Int):Option AV :=
 bif (decide (s10 < s9)) then
 bif ((decide (0≤s10))&&(decide (s10 < out3.length))) then
 bif ((decide (0≤s10))&&(decide (s10 < out3.length))) then
 next (List.set out3 s10.toNat (z118 (out3.getD s10.toNat (0:UInt8)))) s9 (IntKind.wrap .i64 (s10+1))
 else none
 else none
 else
 k0 out3
def qkR (k0:List UInt8→Option AV):Nat→List UInt8→Int→Int→Option AV
 | 0=>fun _ _ _=>none
 | n+1=>qfn k0 (qkR k0 n) n
def qhE (_n:Nat) (out3:List UInt8):Option AV :=
 qBu out3
def qzP (n:Nat) (s0:List UInt8):Option AV :=
 bif ((qfX s0)&&true) then
 qkR (qhE n) n (z83 s0) ((z83 s0).length:Int) (0:Int)
 else none
def qmu (s2:Int):Option AV:=some (dc s2)
def qDw (_n:Nat) (s0:List UInt8):Option AV :=
 bif ((qsE s0)&&true) then
 bif ((z87 s0)==([98]:List UInt8)) then
 qmu (1:Int)
 else
 bif ((z87 s0)==([113]:List UInt8)) then
 qmu (2:Int)
 else
 qmu (0:Int)
 else none
def qk (s2:Int):Option AV:=some (dc s2)
def qag:=(bits .or .i64 (bits .or .i64 (0:Int) (1:Int)) (656:Int))
def qeA:=(bits .or .i64 (bits .or .i64 (0:Int) (1:Int)) (2:Int))
def qDx (_n:Nat) (c0:UInt8):Option AV :=
 bif (decide (c0 < (32:UInt8))) then bif (c0==(32:UInt8)) then qk (qeA) else bif (c0==(9:UInt8)) then qk (qeA) else bif (decide ((48:UInt8)≤c0)) then bif (decide (c0≤(57:UInt8))) then qk (bits .or .i64 (bits .or .i64 (0:Int) (1:Int)) (648:Int)) else bif (decide ((65:UInt8)≤c0)) then bif (decide (c0≤(90:UInt8))) then bif (decide (c0≤(90:UInt8))) then qk (qag) else qk (bits .or .i64 (0:Int) (1:Int)) else bif (decide ((97:UInt8)≤c0)) then bif (decide (c0≤(122:UInt8))) then qk (qag) else qk (bits .or .i64 (0:Int) (1:Int)) else qk (bits .or .i64 (0:Int) (1:Int)) else bif (decide ((97:UInt8)≤c0)) then bif (decide (c0≤(122:UInt8))) then qk (qag) else qk (bits .or .i64 (0:Int) (1:Int)) else qk (bits .or .i64 (0:Int) (1:Int)) else bif (decide ((65:UInt8)≤c0)) then bif (decide (c0≤(90:UInt8))) then bif (decide (c0≤(90:UInt8))) then qk (qag) else qk (bits .or .i64 (0:Int) (1:Int)) else bif (decide ((97:UInt8)≤c0)) then bif (decide (c0≤(122:UInt8))) then qk (qag) else qk (bits .or .i64 (0:Int) (1:Int)) else qk (bits .or .i64 (0:Int) (1:Int)) else bif (decide ((97:UInt8)≤c0)) then bif (decide (c0≤(122:UInt8))) then qk (qag) else qk (bits .or .i64 (0:Int) (1:Int)) else qk (bits .or .i64 (0:Int) (1:Int)) else bif (c0==(127:UInt8)) then bif (c0==(32:UInt8)) then qk (qeA) else bif (c0==(9:UInt8)) then qk (qeA) else bif (decide ((48:UInt8)≤c0)) then bif (decide (c0≤(57:UInt8))) then qk (bits .or .i64 (bits .or .i64 (0:Int) (1:Int)) (648:Int)) else bif (decide ((65:UInt8)≤c0)) then bif (decide (c0≤(90:UInt8))) then bif (decide (c0≤(90:UInt8))) then qk (qag) else qk (bits .or .i64 (0:Int) (1:Int)) else bif (decide ((97:UInt8)≤c0)) then bif (decide (c0≤(122:UInt8))) then qk (qag) else qk (bits .or .i64 (0:Int) (1:Int)) else qk (bits .or .i64 (0:Int) (1:Int)) else bif (decide ((97:UInt8)≤c0)) then bif (decide (c0≤(122:UInt8))) then qk (qag) else qk (bits .or .i64 (0:Int) (1:Int)) else qk (bits .or .i64 (0:Int) (1:Int)) else bif (decide ((65:UInt8)≤c0)) then bif (decide (c0≤(90:UInt8))) then bif (decide (c0≤(90:UInt8))) then qk (qag) else qk (bits .or .i64 (0:Int) (1:Int)) else bif (decide ((97:UInt8)≤c0)) then bif (decide (c0≤(122:UInt8))) then qk (qag) else qk (bits .or .i64 (0:Int) (1:Int)) else qk (bits .or .i64 (0:Int) (1:Int)) else bif (decide ((97:UInt8)≤c0)) then bif (decide (c0≤(122:UInt8))) then qk (qag) else qk (bits .or .i64 (0:Int) (1:Int)) else qk (bits .or .i64 (0:Int) (1:Int)) else bif (c0==(32:UInt8)) then qk (bits .or .i64 (0:Int) (2:Int)) else bif (c0==(9:UInt8)) then qk (bits .or .i64 (0:Int) (2:Int)) else bif (decide ((48:UInt8)≤c0)) then bif (decide (c0≤(57:UInt8))) then qk (bits .or .i64 (0:Int) (648:Int)) else bif (decide ((65:UInt8)≤c0)) then bif (decide (c0≤(90:UInt8))) then bif (decide (c0≤(90:UInt8))) then qk (bits .or .i64 (0:Int) (656:Int)) else qk (0:Int) else bif (decide ((97:UInt8)≤c0)) then bif (decide (c0≤(122:UInt8))) then qk (bits .or .i64 (0:Int) (656:Int)) else qk (0:Int) else qk (0:Int) else bif (decide ((97:UInt8)≤c0)) then bif (decide (c0≤(122:UInt8))) then qk (bits .or .i64 (0:Int) (656:Int)) else qk (0:Int) else qk (0:Int) else bif (decide ((65:UInt8)≤c0)) then bif (decide (c0≤(90:UInt8))) then bif (decide (c0≤(90:UInt8))) then qk (bits .or .i64 (0:Int) (656:Int)) else qk (0:Int) else bif (decide ((97:UInt8)≤c0)) then bif (decide (c0≤(122:UInt8))) then qk (bits .or .i64 (0:Int) (656:Int)) else qk (0:Int) else qk (0:Int) else bif (decide ((97:UInt8)≤c0)) then bif (decide (c0≤(122:UInt8))) then qk (bits .or .i64 (0:Int) (656:Int)) else qk (0:Int) else qk (0:Int)
def qvR (s4:Int):Option AV:=some (dc s4)
def qBv (_n:Nat) (s0:List UInt8) (c1:UInt8):Option AV :=
 qvR (z150 s0 c1)
def qvS (s4:Int):Option AV:=some (dc s4)
def qBw (_n:Nat) (s0:List UInt8) (c1:UInt8):Option AV :=
 qvS (z145 s0 c1)
def qBx (s4:Bool):Option AV:=some (dg s4)
def qIr (_n:Nat) (s0:List UInt8) (c1:UInt8):Option AV :=
 qBx (decide (0≤(z126 s0 c1)))
def qbq (s2:Int):Option AV:=some (dc s2)
def qbD (c0:UInt8):=(bits .or .i64 (z97 c0) (4:Int))
def qeB (c0:UInt8):=(z98 ([40,41,60,62,64,44,59,58,92,34,47,91,93,63,61]:List UInt8) c0)
def qcr (c0:UInt8):=(bits .or .i64 (qbD c0) (128:Int))
def qDy (_n:Nat) (c0:UInt8):Option AV :=
 bif (decide (c0 < (33:UInt8))) then qbq (z97 c0) else bif (decide ((126:UInt8) < c0)) then qbq (z97 c0) else bif (z98 ([33,42,43,45,47]:List UInt8) c0) then bif (z98 ([43,47]:List UInt8) c0) then bif (qeB c0) then qbq (bits .or .i64 (bits .or .i64 (qcr c0) (512:Int)) (32:Int)) else bif (!(z98 ([42,39,37]:List UInt8) c0)) then qbq (bits .or .i64 (bits .or .i64 (bits .or .i64 (qcr c0) (512:Int)) (64:Int)) (256:Int)) else qbq (bits .or .i64 (bits .or .i64 (qcr c0) (512:Int)) (64:Int)) else bif (qeB c0) then qbq (bits .or .i64 (qcr c0) (32:Int)) else bif (!(z98 ([42,39,37]:List UInt8) c0)) then qbq (bits .or .i64 (bits .or .i64 (qcr c0) (64:Int)) (256:Int)) else qbq (bits .or .i64 (qcr c0) (64:Int)) else bif (z98 ([43,47]:List UInt8) c0) then bif (qeB c0) then qbq (bits .or .i64 (bits .or .i64 (qbD c0) (512:Int)) (32:Int)) else bif (!(z98 ([42,39,37]:List UInt8) c0)) then qbq (bits .or .i64 (bits .or .i64 (bits .or .i64 (qbD c0) (512:Int)) (64:Int)) (256:Int)) else qbq (bits .or .i64 (bits .or .i64 (qbD c0) (512:Int)) (64:Int)) else bif (qeB c0) then qbq (bits .or .i64 (qbD c0) (32:Int)) else bif (!(z98 ([42,39,37]:List UInt8) c0)) then qbq (bits .or .i64 (bits .or .i64 (qbD c0) (64:Int)) (256:Int)) else qbq (bits .or .i64 (qbD c0) (64:Int))
def qBy (s4:Bool):Option AV:=some (dg s4)
def qIs (_n:Nat) (c0:UInt8) (kinds1:Int):Option AV :=
 qBy ((bits .and .i64 (z58 c0) kinds1) != (0:Int))
def qvT (s4:Int):Option AV:=some (dc s4)
def qdr (k0:Int→Option AV) (next:Int→Int→List UInt8→Int→Int→Option AV) (_n:Nat) (kinds1:Int) (n5:Int) (s8:List UInt8) (s9:Int) (s10:Int):Option AV :=
 bif (decide (s10 < s9)) then
 bif ((decide (0≤s10))&&(decide (s10 < s8.length))) then
 bif (z36 (s8.getD s10.toNat (0:UInt8)) kinds1) then
 next kinds1 (IntKind.wrap .i64 (n5+1)) s8 s9 (IntKind.wrap .i64 (s10+1))
 else
 next kinds1 n5 s8 s9 (IntKind.wrap .i64 (s10+1))
 else none
 else
 k0 n5
def qeC (k0:Int→Option AV):Nat→Int→Int→List UInt8→Int→Int→Option AV
 | 0=>fun _ _ _ _ _=>none
 | n+1=>qdr k0 (qeC k0 n) n
def qeD (_n:Nat) (n5:Int):Option AV :=
 qvT n5
def qqk (n:Nat) (s0:List UInt8) (kinds1:Int):Option AV :=
 qeC (qeD n) n kinds1 (0:Int) s0 (s0.length:Int) (0:Int)
def qvU (s4:Bool):Option AV:=some (dg s4)
def qDz (_n:Nat) (s0:List UInt8) (kinds1:Int):Option AV :=
 bif ((qqS s0 kinds1)&&true) then
 qvU ((z122 s0 kinds1)==(s0.length:Int))
 else none
def qvV (s4:Bool):Option AV:=some (dg s4)
def qDA (_n:Nat) (s0:List UInt8) (kinds1:Int):Option AV :=
 bif (decide ((0:Int) < (s0.length:Int))) then
 bif ((qsF s0 kinds1)&&true) then
 qvV (z90 s0 kinds1)
 else none
 else
 qvV false
def qX (s2:(List UInt8)×(Int×((List UInt8)×Unit))) (s3:Int):Option AV:=some (.tup [(.dat (.pair (.sl .byte) (.pair (.int .i64) (.pair (.sl .byte) .unit))) s2 none),(dc s3)])
def qy (s0:List UInt8):=((z83 ((z82 s0 ([(63:UInt8)]:List UInt8)).getD (1:Int).toNat ([]:List UInt8))),((z84 ((z82 s0 ([(63:UInt8)]:List UInt8)).getD (2:Int).toNat ([]:List UInt8))),((z83 ((z82 s0 ([(63:UInt8)]:List UInt8)).getD (3:Int).toNat ([]:List UInt8))),())))
def qG:=(([]:List UInt8),((0:Int),(([]:List UInt8),())))
def qkS (s0:List UInt8):=( bif ((qy s0).2.1==(0:Int)) then qX (qG) (3:Int) else bif ((qfV (qy s0).1 (64:Int))&&true) then bif (!(z85 (qy s0).1 (64:Int))) then qX (qG) (3:Int) else bif ((qfV (qy s0).2.2.1 (4:Int))&&true) then bif (!(z85 (qy s0).2.2.1 (4:Int))) then qX (qG) (3:Int) else bif (decide ((75:Int) < (s0.length:Int))) then qX (qG) (12:Int) else qX (qy s0) (0:Int) else none else none)
def qbE (s0:List UInt8):=(z82 s0 ([(63:UInt8)]:List UInt8))
def qeE (s0:List UInt8):=((qfX ((qbE s0).getD (3:Int).toNat ([]:List UInt8)))&&true)
def qgl (s0:List UInt8):=((qBa ((qbE s0).getD (2:Int).toNat ([]:List UInt8)))&&true)
def qcs (s0:List UInt8):=(qbE s0).length
def qDB (_n:Nat) (s0:List UInt8):Option AV :=
 bif ((qxx s0 ([(63:UInt8)]:List UInt8))&&true) then bif (((qcs s0):Int) != (5:Int)) then qX (qG) (3:Int) else bif ((decide (0≤(0:Int)))&&(decide ((0:Int) < (qcs s0)))) then bif (((qbE s0).getD (0:Int).toNat ([]:List UInt8)) != ([61]:List UInt8)) then qX (qG) (3:Int) else bif ((decide (0≤(4:Int)))&&(decide ((4:Int) < (qcs s0)))) then bif (((qbE s0).getD (4:Int).toNat ([]:List UInt8)) != ([61]:List UInt8)) then qX (qG) (3:Int) else bif ((decide (0≤(1:Int)))&&(decide ((1:Int) < (qcs s0)))) then bif ((decide (0≤(2:Int)))&&(decide ((2:Int) < (qcs s0)))) then bif ((decide (0≤(3:Int)))&&(decide ((3:Int) < (qcs s0)))) then both ( bif ((qfX ((qbE s0).getD (1:Int).toNat ([]:List UInt8)))&&true) then both ( bif (qgl s0) then both ( bif (qeE s0) then both (qkS s0) (qkS s0) else none) ( bif (qeE s0) then bif ((qy s0).2.1==(0:Int)) then qX (qG) (3:Int) else bif ((qfV (qy s0).1 (64:Int))&&true) then bif (!(z85 (qy s0).1 (64:Int))) then qX (qG) (3:Int) else bif ((qfV (qy s0).2.2.1 (4:Int))&&true) then bif (!(z85 (qy s0).2.2.1 (4:Int))) then qX (qG) (3:Int) else bif (decide ((75:Int) < (s0.length:Int))) then qX (qG) (12:Int) else qX (qy s0) (0:Int) else none else none else none) else none) ( bif (qgl s0) then bif (qeE s0) then bif ((qy s0).2.1==(0:Int)) then qX (qG) (3:Int) else bif ((qfV (qy s0).1 (64:Int))&&true) then bif (!(z85 (qy s0).1 (64:Int))) then qX (qG) (3:Int) else bif ((qfV (qy s0).2.2.1 (4:Int))&&true) then bif (!(z85 (qy s0).2.2.1 (4:Int))) then qX (qG) (3:Int) else bif (decide ((75:Int) < (s0.length:Int))) then qX (qG) (12:Int) else qX (qy s0) (0:Int) else none else none else none else none) else none) ( bif ((qfX ((qbE s0).getD (1:Int).toNat ([]:List UInt8)))&&true) then bif (qgl s0) then bif (qeE s0) then bif ((qy s0).2.1==(0:Int)) then qX (qG) (3:Int) else bif ((qfV (qy s0).1 (64:Int))&&true) then bif (!(z85 (qy s0).1 (64:Int))) then qX (qG) (3:Int) else bif ((qfV (qy s0).2.2.1 (4:Int))&&true) then bif (!(z85 (qy s0).2.2.1 (4:Int))) then qX (qG) (3:Int) else bif (decide ((75:Int) < (s0.length:Int))) then qX (qG) (12:Int) else qX (qy s0) (0:Int) else none else none else none else none else none) else none else none else none else none else none else none
def qdV (s2:List (List UInt8)):Option AV:=some (.dat (.sl .str) s2 (some (2,9)))
def qvW (_n:Nat) (charset0:Int):Option AV :=
 bif (charset0==(1:Int)) then
 qdV ([([117,115,45,97,115,99,105,105]:List UInt8),([97,115,99,105,105]:List UInt8),([97,110,115,105,95,120,51,46,52,45,49,57,54,56]:List UInt8),([105,115,111,54,52,54,45,117,115]:List UInt8)]:List (List UInt8))
 else
 bif (charset0==(2:Int)) then
 qdV ([([105,115,111,45,56,56,53,57,45,49]:List UInt8),([105,115,111,95,56,56,53,57,45,49]:List UInt8),([108,97,116,105,110,49]:List UInt8),([108,49]:List UInt8)]:List (List UInt8))
 else
 bif (charset0==(3:Int)) then
 qdV ([([105,115,111,45,56,56,53,57,45,49,53]:List UInt8),([105,115,111,95,56,56,53,57,45,49,53]:List UInt8),([108,97,116,105,110,45,57]:List UInt8)]:List (List UInt8))
 else
 bif (charset0==(4:Int)) then
 qdV ([([119,105,110,100,111,119,115,45,49,50,53,50]:List UInt8),([99,112,49,50,53,50]:List UInt8)]:List (List UInt8))
 else
 bif (charset0==(5:Int)) then
 qdV ([([117,116,102,45,56]:List UInt8),([117,116,102,56]:List UInt8)]:List (List UInt8))
 else
 qdV ([]:List (List UInt8))
def qBz (s0:List ((List UInt8)×Int)):Option AV:=some (.abs (.sl (.pair .str (.int .i64))) (qjD .str (.int .i64)) s0)
def qvX (k2:List ((List UInt8)×Int)→Int→Option AV) (next:List ((List UInt8)×Int)→Int→List (List UInt8)→Int→Int→Option AV) (_n:Nat) (m1:List ((List UInt8)×Int)) (n2:Int) (s11:List (List UInt8)) (s12:Int) (s13:Int):Option AV :=
 bif (decide (s13 < s12)) then
 bif ((decide (0≤s13))&&(decide (s13 < s11.length))) then
 next (@putM .str (.int .i64) (s11.getD s13.toNat ([]:List UInt8)) n2 m1) n2 s11 s12 (IntKind.wrap .i64 (s13+1))
 else none
 else
 k2 m1 n2
def qss (k2:List ((List UInt8)×Int)→Int→Option AV):Nat→List ((List UInt8)×Int)→Int→List (List UInt8)→Int→Int→Option AV
 | 0=>fun _ _ _ _ _=>none
 | n+1=>qvX k2 (qss k2 n) n
def qkT (_k0:List ((List UInt8)×Int)→Option AV) (next:List ((List UInt8)×Int)→Int→Option AV) (_n:Nat) (m1:List ((List UInt8)×Int)) (n2:Int):Option AV :=
 next m1 (IntKind.wrap .i64 (n2+1))
def qop (k0:List ((List UInt8)×Int)→Option AV) (next:List ((List UInt8)×Int)→Int→Option AV) (n:Nat) (m1:List ((List UInt8)×Int)) (n2:Int):Option AV :=
 bif (decide (n2≤(5:Int))) then
 qss (qkT k0 next n) n m1 n2 (z117 n2) ((z117 n2).length:Int) (0:Int)
 else
 k0 m1
def qst (k0:List ((List UInt8)×Int)→Option AV):Nat→List ((List UInt8)×Int)→Int→Option AV
 | 0=>fun _ _=>none
 | n+1=>qop k0 (qst k0 n) n
def qkU (_n:Nat) (m1:List ((List UInt8)×Int)):Option AV :=
 qBz m1
def qDC (n:Nat):Option AV :=
 qst (qkU n) n ([]:List ((List UInt8)×Int)) (1:Int)
def qoq (s4:List UInt8):Option AV:=some (da s4)
def qql (k0:List UInt8→Option AV) (next:List UInt8→UInt8→Option AV) (_n:Nat) (s0:List UInt8) (c1:UInt8):Option AV :=
 bif (decide ((0:Int) < (s0.length:Int))) then
 bif ((decide (0≤(0:Int)))&&(decide ((0:Int) < s0.length))) then
 bif ((s0.getD (0:Int).toNat (0:UInt8))==c1) then
 bif (((decide (0≤(1:Int)))&&(decide ((1:Int)≤(s0.length:Int))))&&(decide ((s0.length:Int)≤(s0.length:Int)))) then
 next (List.drop (1:Int).toNat (List.take (s0.length:Int).toNat s0)) c1
 else none
 else
 k0 s0
 else none
 else
 k0 s0
def qiN (k0:List UInt8→Option AV):Nat→List UInt8→UInt8→Option AV
 | 0=>fun _ _=>none
 | n+1=>qql k0 (qiN k0 n) n
def qgm (_n:Nat) (s0:List UInt8):Option AV :=
 bif ((s0.length:Int)==(0:Int)) then
 qoq ([]:List UInt8)
 else
 qoq s0
def qvY (n:Nat) (s0:List UInt8) (c1:UInt8):Option AV :=
 qiN (qgm n) n s0 c1
def qhF (as2:List Bool) (ok3:Bool):Option AV:=some (.tup [(.dat (.arr 256 .bool) as2 none),(dg ok3)])
def qds (ret:List Bool→Bool→Option AV) (k0:List Bool→Option AV) (next:List UInt8→List Bool→Int→Option AV) (_n:Nat) (chars0:List UInt8) (as2:List Bool) (i4:Int):Option AV :=
 bif (decide (i4 < (chars0.length:Int))) then
 bif ((decide (0≤i4))&&(decide (i4 < chars0.length))) then
 bif (decide ((128:UInt8)≤(chars0.getD i4.toNat (0:UInt8)))) then
 ret as2 false
 else
 bif ((decide (0≤((UInt8.toNat (chars0.getD i4.toNat (0:UInt8)):Nat):Int)))&&(decide (((UInt8.toNat (chars0.getD i4.toNat (0:UInt8)):Nat):Int) < (256:Nat)))) then
 next chars0 (List.set as2 ((UInt8.toNat (chars0.getD i4.toNat (0:UInt8)):Nat):Int).toNat true) (IntKind.wrap .i64 (i4+1))
 else none
 else none
 else
 k0 as2
def qeF (ret:List Bool→Bool→Option AV) (k0:List Bool→Option AV):Nat→List UInt8→List Bool→Int→Option AV
 | 0=>fun _ _ _=>none
 | n+1=>qds ret k0 (qeF ret k0 n) n
def qeG (_n:Nat) (as2:List Bool):Option AV :=
 qhF as2 true
def qvZ (n:Nat) (chars0:List UInt8):Option AV :=
 qeF qhF (qeG n) n chars0 (List.replicate 256 false) (0:Int)
def qwa (s4:Bool):Option AV:=some (dg s4)
def qwb (_n:Nat) (as0:List Bool) (c1:UInt8):Option AV :=
 bif ((decide (0≤((UInt8.toNat c1:Nat):Int)))&&(decide (((UInt8.toNat c1:Nat):Int) < (256:Nat)))) then
 qwa (as0.getD ((UInt8.toNat c1:Nat):Int).toNat false)
 else none
def qor (s4:List UInt8):Option AV:=some (da s4)
def qgn (k0:List UInt8→Option AV) (next:List UInt8→List Bool→Option AV) (_n:Nat) (s0:List UInt8) (as1:List Bool):Option AV :=
 bif (decide ((0:Int) < (s0.length:Int))) then
 bif ((decide (0≤(0:Int)))&&(decide ((0:Int) < s0.length))) then
 bif (!(z153 as1 (s0.getD (0:Int).toNat (0:UInt8)))) then
 k0 s0
 else
 bif (((decide (0≤(1:Int)))&&(decide ((1:Int)≤(s0.length:Int))))&&(decide ((s0.length:Int)≤(s0.length:Int)))) then
 next (List.drop (1:Int).toNat (List.take (s0.length:Int).toNat s0)) as1
 else none
 else none
 else
 k0 s0
def qfC (k0:List UInt8→Option AV):Nat→List UInt8→List Bool→Option AV
 | 0=>fun _ _=>none
 | n+1=>qgn k0 (qfC k0 n) n
def qeH (_n:Nat) (s0:List UInt8):Option AV :=
 bif ((s0.length:Int)==(0:Int)) then
 qor ([]:List UInt8)
 else
 qor s0
def qqm (n:Nat) (s0:List UInt8) (as1:List Bool):Option AV :=
 qfC (qeH n) n s0 as1
def qwc (s4:List UInt8):Option AV:=some (da s4)
def qaG (s0:List UInt8):=(IntKind.wrap .i64 ((s0.length:Int) - (1:Int)))
def qqn (k0:List UInt8→Option AV) (next:List UInt8→UInt8→Option AV) (_n:Nat) (s0:List UInt8) (c1:UInt8):Option AV :=
 bif (decide ((0:Int) < (s0.length:Int))) then bif ((decide (0≤(qaG s0)))&&(decide ((qaG s0) < s0.length))) then bif ((s0.getD (qaG s0).toNat (0:UInt8))==c1) then bif (((decide (0≤((0:Nat):Int)))&&(decide (((0:Nat):Int)≤(qaG s0))))&&(decide ((qaG s0)≤(s0.length:Int)))) then next (List.drop ((0:Nat):Int).toNat (List.take (qaG s0).toNat s0)) c1 else none else k0 s0 else none else k0 s0
def qiO (k0:List UInt8→Option AV):Nat→List UInt8→UInt8→Option AV
 | 0=>fun _ _=>none
 | n+1=>qqn k0 (qiO k0 n) n
def qgo (_n:Nat) (s0:List UInt8):Option AV :=
 qwc s0
def qwd (n:Nat) (s0:List UInt8) (c1:UInt8):Option AV :=
 qiO (qgo n) n s0 c1
def qwe (s4:List UInt8):Option AV:=some (da s4)
def qan (s0:List UInt8):=(IntKind.wrap .i64 ((s0.length:Int) - (1:Int)))
def qgp (k0:List UInt8→Option AV) (next:List UInt8→List Bool→Option AV) (_n:Nat) (s0:List UInt8) (as1:List Bool):Option AV :=
 bif (decide ((0:Int) < (s0.length:Int))) then bif ((decide (0≤(qan s0)))&&(decide ((qan s0) < s0.length))) then bif (!(z153 as1 (s0.getD (qan s0).toNat (0:UInt8)))) then k0 s0 else bif (((decide (0≤((0:Nat):Int)))&&(decide (((0:Nat):Int)≤(qan s0))))&&(decide ((qan s0)≤(s0.length:Int)))) then next (List.drop ((0:Nat):Int).toNat (List.take (qan s0).toNat s0)) as1 else none else none else k0 s0
def qfD (k0:List UInt8→Option AV):Nat→List UInt8→List Bool→Option AV
 | 0=>fun _ _=>none
 | n+1=>qgp k0 (qfD k0 n) n
def qgq (_n:Nat) (s0:List UInt8):Option AV :=
 qwe s0
def qqo (n:Nat) (s0:List UInt8) (as1:List Bool):Option AV :=
 qfD (qgq n) n s0 as1
def qcU (s4:List UInt8):Option AV:=some (da s4)
def qbr (cutset1:List UInt8):=(cutset1.getD (0:Int).toNat (0:UInt8))
def qeI (cutset1:List UInt8):=((decide (0≤(0:Int)))&&(decide ((0:Int) < cutset1.length)))
def qwf (_n:Nat) (s0:List UInt8) (cutset1:List UInt8):Option AV :=
 bif ((s0.length:Int)==(0:Int)) then qcU ([]:List UInt8) else bif (cutset1==([]:List UInt8)) then qcU s0 else bif ((cutset1.length:Int)==(1:Int)) then bif (qeI cutset1) then bif (decide ((qbr cutset1) < (128:UInt8))) then bif (qeI cutset1) then bif (qeI cutset1) then bif ((qxD s0 (qbr cutset1))&&true) then bif ((qqR (z156 s0 (qbr cutset1)) (qbr cutset1))&&true) then qcU (z146 (z156 s0 (qbr cutset1)) (qbr cutset1)) else none else none else none else none else bif ((qbK cutset1)&&true) then bif ((z147 cutset1).2) then bif ((qmS s0 ((z147 cutset1).1))&&true) then bif ((qfL (z157 s0 ((z147 cutset1).1)) ((z147 cutset1).1))&&true) then qcU (z148 (z157 s0 ((z147 cutset1).1)) ((z147 cutset1).1)) else none else none else bif ((qxE s0 cutset1)&&true) then bif ((qmQ (z158 s0 cutset1) cutset1)&&true) then qcU (z149 (z158 s0 cutset1) cutset1) else none else none else none else none else bif ((qbK cutset1)&&true) then bif ((z147 cutset1).2) then bif ((qmS s0 ((z147 cutset1).1))&&true) then bif ((qfL (z157 s0 ((z147 cutset1).1)) ((z147 cutset1).1))&&true) then qcU (z148 (z157 s0 ((z147 cutset1).1)) ((z147 cutset1).1)) else none else none else bif ((qxE s0 cutset1)&&true) then bif ((qmQ (z158 s0 cutset1) cutset1)&&true) then qcU (z149 (z158 s0 cutset1) cutset1) else none else none else none
def qwg (s2:List UInt8):Option AV:=some (db s2 (some (2,5)))
def qwh (_n:Nat) (s0:List UInt8):Option AV :=
 bif ((qeS s0 ([32,9]:List UInt8))&&true) then
 bif ((qfX (z129 s0 ([32,9]:List UInt8)))&&true) then
 qwg (z83 (z129 s0 ([32,9]:List UInt8)))
 else none
 else none
def qwi (s2:List UInt8):Option AV:=some (db s2 (some (2,5)))
def qDD (_n:Nat) (s0:List UInt8):Option AV :=
 bif (decide (0≤(z91 s0 (42:UInt8)))) then
 bif (((decide (0≤((0:Nat):Int)))&&(decide (((0:Nat):Int)≤(z91 s0 (42:UInt8)))))&&(decide ((z91 s0 (42:UInt8))≤(s0.length:Int)))) then
 bif ((qjd (List.drop ((0:Nat):Int).toNat (List.take (z91 s0 (42:UInt8)).toNat s0)))&&true) then
 qwi (z119 (List.drop ((0:Nat):Int).toNat (List.take (z91 s0 (42:UInt8)).toNat s0)))
 else none
 else none
 else
 bif ((qjd s0)&&true) then
 qwi (z119 s0)
 else none
def qwj (s2:Int) (s3:Int):Option AV:=some (.tup [(dc s2),(dc s3)])
def qDE (_n:Nat) (s0:List UInt8):Option AV :=
 bif ((qyu s0)&&true) then
 bif ((qsE (z88 s0))&&true) then
 bif (!(Option.isSome (@findM .str (.int .i64) (z87 (z88 s0)) z86))) then
 qwj (0:Int) (10:Int)
 else
 qwj (Option.getD (@findM .str (.int .i64) (z87 (z88 s0)) z86) (0:Int)) (0:Int)
 else none
 else none
def qwk (s2:Int):Option AV:=some (dc s2)
def qDF (_n:Nat) (w0:(List UInt8)×(Int×((List UInt8)×Unit))):Option AV :=
 bif ((qrw w0.1)&&true) then
 bif (((z53 w0.1).2) != (0:Int)) then
 qwk (2:Int)
 else
 qwk ((z53 w0.1).1)
 else none
def qwl (s2:Int):Option AV:=some (dc s2)
def qDG (_n:Nat) (s0:List UInt8):Option AV :=
 bif ((qiv s0)&&true) then
 bif (((z51 s0).2) != (0:Int)) then
 qwl (0:Int)
 else
 bif ((qrx ((z51 s0).1))&&true) then
 qwl (z52 ((z51 s0).1))
 else none
 else none
def qBA (s9:List Int):Option AV:=some (.tup [(.tup []),.bad,(.pbox (.osl 3 (.int .i64)) s9 none)])
def qDH (_n:Nat) (w0:List UInt8) (x1:List Int):Option AV :=
 bif ((qyB w0)&&true) then
 bif (decide (x1.length+List.length ([(z31 w0)]:List Int)≤room)) then
 qBA (x1++([(z31 w0)]:List Int))
 else none
 else none
def qos (s4:Bool):Option AV:=some (dg s4)
def qwm (_n:Nat) (s0:List UInt8) (suffix1:List UInt8):Option AV :=
 bif (decide ((suffix1.length:Int)≤(s0.length:Int))) then
 bif (((decide (0≤(IntKind.wrap .i64 ((s0.length:Int) - (suffix1.length:Int)))))&&(decide ((IntKind.wrap .i64 ((s0.length:Int) - (suffix1.length:Int)))≤(s0.length:Int))))&&(decide ((s0.length:Int)≤(s0.length:Int)))) then
 qos (z93 (List.drop (IntKind.wrap .i64 ((s0.length:Int) - (suffix1.length:Int))).toNat (List.take (s0.length:Int).toNat s0)) suffix1)
 else none
 else
 qos false
def qot (s4:List UInt8):Option AV:=some (da s4)
def qwn (_n:Nat) (s0:List UInt8) (suffix1:List UInt8):Option AV :=
 bif ((qpH s0 suffix1)&&true) then
 bif (z166 s0 suffix1) then
 bif (((decide (0≤((0:Nat):Int)))&&(decide (((0:Nat):Int)≤(IntKind.wrap .i64 ((s0.length:Int) - (suffix1.length:Int))))))&&(decide ((IntKind.wrap .i64 ((s0.length:Int) - (suffix1.length:Int)))≤(s0.length:Int)))) then
 qot (List.drop ((0:Nat):Int).toNat (List.take (IntKind.wrap .i64 ((s0.length:Int) - (suffix1.length:Int))).toNat s0))
 else none
 else
 qot s0
 else none
def qou (s2:List UInt8):Option AV:=some (da s2)
def qqp (k0:List UInt8→Option AV) (next:List UInt8→Int→Option AV) (_n:Nat) (s0:List UInt8) (s3:Int):Option AV :=
 bif (decide (s3 < (2:Int))) then
 bif ((qhf s0 ([(61:UInt8)]:List UInt8))&&true) then
 next (z143 s0 ([(61:UInt8)]:List UInt8)) (IntKind.wrap .i64 (s3+1))
 else none
 else
 k0 s0
def qiP (k0:List UInt8→Option AV):Nat→List UInt8→Int→Option AV
 | 0=>fun _ _=>none
 | n+1=>qqp k0 (qiP k0 n) n
def qgr (_n:Nat) (s0:List UInt8):Option AV :=
 qou s0
def qqq (n:Nat) (s0:List UInt8):Option AV :=
 qiP (qgr n) n s0 (0:Int)
def qov (s2:Int) (s3:Bool):Option AV:=some (.tup [(dc s2),(dg s3)])
def qhG (c0:UInt8):=(z126 ([65,66,67,68,69,70,71,72,73,74,75,76,77,78,79,80,81,82,83,84,85,86,87,88,89,90,97,98,99,100,101,102,103,104,105,106,107,108,109,110,111,112,113,114,115,116,117,118,119,120,121,122,48,49,50,51,52,53,54,55,56,57,43,47]:List UInt8) c0)
def qBB (_n:Nat) (c0:UInt8):Option AV :=
 qov (bif (decide ((0:Int) > (qhG c0))) then (0:Int) else (qhG c0)) (decide (0≤(qhG c0)))
def qbF (s2:List UInt8) (s3:Int):Option AV:=some (.tup [(da s2),(dc s3)])
def qbe (held5:Int) (s12:List UInt8) (s14:Int):=(bits .or .i64 (IntKind.wrap .i64 (held5*2 ^ (min (6:Int).toNat (IntKind.bits .i64)))) ((z121 (s12.getD s14.toNat (0:UInt8))).1))
def qaq (many6:Int):=(IntKind.wrap .i64 ((IntKind.wrap .i64 (many6+(6:Int))) - (8:Int)))
def qfo (ret:List UInt8→Int→Option AV) (k0:List UInt8→List UInt8→Int→Option AV) (next:List UInt8→List UInt8→Int→Int→List UInt8→Int→Int→Option AV) (_n:Nat) (s0:List UInt8) (out4:List UInt8) (held5:Int) (many6:Int) (s12:List UInt8) (s13:Int) (s14:Int):Option AV :=
 bif (decide (s14 < s13)) then bif ((decide (0≤s14))&&(decide (s14 < s12.length))) then bif (!((z121 (s12.getD s14.toNat (0:UInt8))).2)) then ret ([]:List UInt8) (3:Int) else bif (decide ((8:Int)≤(IntKind.wrap .i64 (many6+(6:Int))))) then bif (decide (0≤(qaq many6))) then bif (decide (out4.length+List.length ([(UInt8.ofNat (IntKind.wrap .u8 (Int.fdiv (qbe held5 s12 s14) (2 ^ (min (qaq many6).toNat (IntKind.bits .i64))))).toNat)]:List UInt8)≤room)) then bif (decide (0≤(qaq many6))) then next s0 (out4++([(UInt8.ofNat (IntKind.wrap .u8 (Int.fdiv (qbe held5 s12 s14) (2 ^ (min (qaq many6).toNat (IntKind.bits .i64))))).toNat)]:List UInt8)) (bits .and .i64 (qbe held5 s12 s14) (IntKind.wrap .i64 ((IntKind.wrap .i64 ((1:Int)*2 ^ (min (qaq many6).toNat (IntKind.bits .i64)))) - (1:Int)))) (qaq many6) s12 s13 (IntKind.wrap .i64 (s14+1)) else none else none else none else next s0 out4 (qbe held5 s12 s14) (IntKind.wrap .i64 (many6+(6:Int))) s12 s13 (IntKind.wrap .i64 (s14+1)) else none else k0 s0 out4 held5
def qit (ret:List UInt8→Int→Option AV) (k0:List UInt8→List UInt8→Int→Option AV):Nat→List UInt8→List UInt8→Int→Int→List UInt8→Int→Int→Option AV
 | 0=>fun _ _ _ _ _ _ _=>none
 | n+1=>qfo ret k0 (qit ret k0 n) n
def qct (_n:Nat) (s0:List UInt8) (out4:List UInt8) (held5:Int):Option AV :=
 bif ((Int.tmod (s0.length:Int) (4:Int)) != (0:Int)) then
 qbF ([]:List UInt8) (4:Int)
 else
 bif (held5 != (0:Int)) then
 qbF ([]:List UInt8) (3:Int)
 else
 qbF out4 (0:Int)
def qzQ (n:Nat) (s0:List UInt8):Option AV :=
 bif ((qpD s0)&&true) then
 qit qbF (qct n) n s0 ([]:List UInt8) (0:Int) (0:Int) (z120 s0) ((z120 s0).length:Int) (0:Int)
 else none
def qBC (s2:Bool):Option AV:=some (dg s2)
def qDI (_n:Nat) (s0:List UInt8):Option AV :=
 bif ((qyw s0)&&true) then
 qBC (((z89 s0).2)==(0:Int))
 else none
def qhH (s2:Int) (s3:Bool):Option AV:=some (.tup [(dc s2),(dg s3)])
def qwo (_n:Nat) (c0:UInt8):Option AV :=
 bif (z36 (z118 c0) (8:Int)) then
 qhH (IntKind.wrap .i64 ((UInt8.toNat ((z118 c0) - (48:UInt8)):Nat):Int)) true
 else
 bif (decide ((97:UInt8)≤(z118 c0))) then
 bif (decide ((z118 c0)≤(102:UInt8))) then
 qhH (IntKind.wrap .i64 ((IntKind.wrap .i64 ((UInt8.toNat ((z118 c0) - (97:UInt8)):Nat):Int))+(10:Int))) true
 else
 qhH (0:Int) false
 else
 qhH (0:Int) false
def qkV (s4:UInt8) (s5:Bool):Option AV:=some (.tup [(dm s4 none),(dg s5)])
def qwp (_n:Nat) (a0:UInt8) (b1:UInt8):Option AV :=
 bif (!((z175 a0).2)) then
 qkV (0:UInt8) false
 else
 bif (!((z175 b1).2)) then
 qkV (0:UInt8) false
 else
 qkV (UInt8.ofNat (IntKind.wrap .u8 (bits .or .i64 (IntKind.wrap .i64 (((z175 a0).1)*2 ^ (min (4:Int).toNat (IntKind.bits .i64)))) ((z175 b1).1))).toNat) true
def qhI (s6:UInt8) (s7:Bool):Option AV:=some (.tup [(dm s6 none),(dg s7)])
def qhJ (s0:List UInt8) (at1:Int):=(z167 (s0.getD (IntKind.wrap .i64 (at1+1)).toNat (0:UInt8)) (s0.getD (IntKind.wrap .i64 (at1+(2:Int))).toNat (0:UInt8)))
def qwq (_n:Nat) (s0:List UInt8) (at1:Int) (sign2:UInt8):Option AV :=
 bif (decide (at1 < (0:Int))) then qhI (0:UInt8) false else bif (decide ((IntKind.wrap .i64 ((s0.length:Int) - (3:Int))) < at1)) then qhI (0:UInt8) false else bif ((decide (0≤at1))&&(decide (at1 < s0.length))) then bif ((s0.getD at1.toNat (0:UInt8)) != sign2) then qhI (0:UInt8) false else bif ((decide (0≤(IntKind.wrap .i64 (at1+1))))&&(decide ((IntKind.wrap .i64 (at1+1)) < s0.length))) then bif ((decide (0≤(IntKind.wrap .i64 (at1+(2:Int)))))&&(decide ((IntKind.wrap .i64 (at1+(2:Int))) < s0.length))) then qhI ((qhJ s0 at1).1) ((qhJ s0 at1).2) else none else none else none
def qhK (s2:List UInt8) (s3:Int):Option AV:=some (.tup [(da s2),(dc s3)])
def qao (s0:List UInt8) (at6:Int):=(s0.getD at6.toNat (0:UInt8))
def qgs (k0:List UInt8→Int→Option AV) (next:List UInt8→List UInt8→Int→Int→Option AV) (_n:Nat) (s0:List UInt8) (out4:List UInt8) (strange5:Int) (at6:Int):Option AV :=
 bif (decide (at6 < (s0.length:Int))) then bif ((decide (0≤at6))&&(decide (at6 < s0.length))) then bif ((qao s0 at6)==(95:UInt8)) then bif (decide (out4.length+List.length ([(32:UInt8)]:List UInt8)≤room)) then next s0 (out4++([(32:UInt8)]:List UInt8)) strange5 (IntKind.wrap .i64 (at6+1)) else none else bif ((qao s0 at6)==(61:UInt8)) then bif ((qpy s0 at6 (61:UInt8))&&true) then bif ((z144 s0 at6 (61:UInt8)).2) then bif (decide (out4.length+List.length ([((z144 s0 at6 (61:UInt8)).1)]:List UInt8)≤room)) then next s0 (out4++([((z144 s0 at6 (61:UInt8)).1)]:List UInt8)) strange5 (IntKind.wrap .i64 (at6+(3:Int))) else none else bif (decide (out4.length+List.length ([(qao s0 at6)]:List UInt8)≤room)) then next s0 (out4++([(qao s0 at6)]:List UInt8)) (IntKind.wrap .i64 (strange5+1)) (IntKind.wrap .i64 (at6+1)) else none else none else bif (decide (out4.length+List.length ([(qao s0 at6)]:List UInt8)≤room)) then next s0 (out4++([(qao s0 at6)]:List UInt8)) strange5 (IntKind.wrap .i64 (at6+1)) else none else none else k0 out4 strange5
def qhL (k0:List UInt8→Int→Option AV):Nat→List UInt8→List UInt8→Int→Int→Option AV
 | 0=>fun _ _ _ _=>none
 | n+1=>qgs k0 (qhL k0 n) n
def qeJ (_n:Nat) (out4:List UInt8) (strange5:Int):Option AV :=
 qhK out4 strange5
def qwr (n:Nat) (s0:List UInt8):Option AV :=
 qhL (qeJ n) n s0 ([]:List UInt8) (0:Int) (0:Int)
def qBD (s2:Int):Option AV:=some (dc s2)
def qDJ (_n:Nat) (s0:List UInt8):Option AV :=
 bif ((qiJ s0)&&true) then
 qBD ((z124 s0).2)
 else none
def qmv (s2:Int):Option AV:=some (dc s2)
def qDK (_n:Nat) (s0:List UInt8):Option AV :=
 bif ((qsF s0 (4:Int))&&true) then
 bif (!(z90 s0 (4:Int))) then
 qmv (3:Int)
 else
 bif (decide (0≤(z91 s0 (63:UInt8)))) then
 qmv (3:Int)
 else
 bif ((qyy s0)&&true) then
 bif (decide ((0:Int) < (z92 s0))) then
 qmv (3:Int)
 else
 qmv (0:Int)
 else none
 else none
def qiQ (s2:Bool):Option AV:=some (dg s2)
def qDL (_n:Nat) (s0:List UInt8):Option AV :=
 bif ((qiv s0)&&true) then
 bif (((z51 s0).2) != (0:Int)) then
 qiQ false
 else
 bif ((qrw ((z51 s0).1).1)&&true) then
 bif (((z51 s0).1).2.1==(1:Int)) then
 bif (((z53 ((z51 s0).1).1).2)==(0:Int)) then
 bif ((qyx ((z51 s0).1).2.2.1)&&true) then
 qiQ (z54 ((z51 s0).1).2.2.1)
 else none
 else
 qiQ false
 else
 bif (((z53 ((z51 s0).1).1).2)==(0:Int)) then
 bif ((qyz ((z51 s0).1).2.2.1)&&true) then
 qiQ ((z55 ((z51 s0).1).2.2.1)==(0:Int))
 else none
 else
 qiQ false
 else none
 else none
def qws (s9:Int):Option AV:=some (.tup [(.tup []),.bad,(.pbox (.leaf (.int .i64)) s9 none)])
def qDM (_n:Nat) (w0:List UInt8) (x1:Int):Option AV :=
 bif ((qyA w0)&&true) then
 bif (!(z33 w0)) then
 qws (IntKind.wrap .i64 (x1+1))
 else
 qws x1
 else none
def qcV (s4:List UInt8):Option AV:=some (da s4)
def qwt (_n:Nat) (s0:List UInt8) (cutset1:List UInt8):Option AV :=
 bif ((s0.length:Int)==(0:Int)) then
 qcV ([]:List UInt8)
 else
 bif (cutset1==([]:List UInt8)) then
 qcV s0
 else
 bif ((cutset1.length:Int)==(1:Int)) then
 bif ((decide (0≤(0:Int)))&&(decide ((0:Int) < cutset1.length))) then
 bif (decide ((cutset1.getD (0:Int).toNat (0:UInt8)) < (128:UInt8))) then
 bif ((decide (0≤(0:Int)))&&(decide ((0:Int) < cutset1.length))) then
 bif ((qqR s0 (cutset1.getD (0:Int).toNat (0:UInt8)))&&true) then
 qcV (z146 s0 (cutset1.getD (0:Int).toNat (0:UInt8)))
 else none
 else none
 else
 bif ((qbK cutset1)&&true) then
 bif ((z147 cutset1).2) then
 bif ((qfL s0 ((z147 cutset1).1))&&true) then
 qcV (z148 s0 ((z147 cutset1).1))
 else none
 else
 bif ((qmQ s0 cutset1)&&true) then
 qcV (z149 s0 cutset1)
 else none
 else none
 else none
 else
 bif ((qbK cutset1)&&true) then
 bif ((z147 cutset1).2) then
 bif ((qfL s0 ((z147 cutset1).1))&&true) then
 qcV (z148 s0 ((z147 cutset1).1))
 else none
 else
 bif ((qmQ s0 cutset1)&&true) then
 qcV (z149 s0 cutset1)
 else none
 else none
def qBE (s2:Int):Option AV:=some (dc s2)
def qDN (_n:Nat) (s0:List UInt8):Option AV :=
 bif ((qmI s0 ([32,9,13,10]:List UInt8))&&true) then
 qBE (IntKind.wrap .i64 ((s0.length:Int) - ((z127 s0 ([32,9,13,10]:List UInt8)).length:Int)))
 else none
def qwu (s2:Bool):Option AV:=some (dg s2)
def qBF (_n:Nat) (bufLen0:Int):Option AV :=
 qwu (decide ((8:Int) < bufLen0))
def qI (s4:Int):Option AV:=some (dc s4)
def qdt (m0:Int) (ret:Int→Option AV) (k0:Option AV) (next:List UInt8→Nat→Option AV) (_n:Nat) (s28:List UInt8) (s28p:Nat):Option AV :=
 bif (decide (s28p < s28.length)) then
 bif (decide (s28p < s28.length)) then
 bif ((decL s28 s28p).1==(65533:Int)) then
 ret (0:Int)
 else
 next s28 (bif (decide (s28p < s28.length)) then s28p+(decL s28 s28p).2 else s28p)
 else none
 else
 k0
def qeK (m0:Int) (ret:Int→Option AV) (k0:Option AV):Nat→List UInt8→Nat→Option AV
 | 0=>fun _ _=>none
 | n+1=>(qdt m0) ret k0 ((qeK m0) ret k0 n) n
def qgt (m0:Int) (_n:Nat):Option AV :=
 qI (-1:Int)
def qbY (m0:Int) (ret:Int→Option AV) (k2:Option AV) (next:List Bool→List UInt8→Int→Int→Option AV) (_n:Nat) (as7:List Bool) (s60:List UInt8) (s61:Int) (s62:Int):Option AV :=
 bif (decide (s62 < s61)) then
 bif ((decide (0≤s62))&&(decide (s62 < s60.length))) then
 bif (z153 as7 (s60.getD s62.toNat (0:UInt8))) then
 ret s62
 else
 next as7 s60 s61 (IntKind.wrap .i64 (s62+1))
 else none
 else
 k2
def qcu (m0:Int) (ret:Int→Option AV) (k2:Option AV):Nat→List Bool→List UInt8→Int→Int→Option AV
 | 0=>fun _ _ _ _=>none
 | n+1=>(qbY m0) ret k2 ((qcu m0) ret k2 n) n
def qcW (m0:Int) (_n:Nat):Option AV :=
 qI (-1:Int)
def qbZ (m0:Int) (ret:Int→Option AV) (k6:List UInt8→List UInt8→Int→Int→Option AV) (next:List UInt8→List UInt8→Int→Int→Int→List UInt8→Nat→Option AV) (_n:Nat) (s0:List UInt8) (chars1:List UInt8) (width11:Int) (i12:Int) (r13:Int) (s121:List UInt8) (s121p:Nat):Option AV :=
 bif (decide (s121p < s121.length)) then
 bif (decide (s121p < s121.length)) then
 bif (r13==(decL s121 s121p).1) then
 ret i12
 else
 next s0 chars1 width11 i12 r13 s121 (bif (decide (s121p < s121.length)) then s121p+(decL s121 s121p).2 else s121p)
 else none
 else
 k6 s0 chars1 width11 i12
def qbs (m0:Int) (ret:Int→Option AV) (k6:List UInt8→List UInt8→Int→Int→Option AV):Nat→List UInt8→List UInt8→Int→Int→Int→List UInt8→Nat→Option AV
 | 0=>fun _ _ _ _ _ _ _=>none
 | n+1=>(qbZ m0) ret k6 ((qbs m0) ret k6 n) n
def qca (m0:Int) (_ret:Int→Option AV) (_k4:Option AV) (next:List UInt8→List UInt8→Int→Option AV) (_n:Nat) (s0:List UInt8) (chars1:List UInt8) (width11:Int) (i12:Int):Option AV :=
 next s0 chars1 (IntKind.wrap .i64 (i12+width11))
def qx (s0:List UInt8) (i12:Int):=(z154 (List.drop i12.toNat (List.take (s0.length:Int).toNat s0)))
def qcX (m0:Int) (ret:Int→Option AV) (k4:Option AV) (next:List UInt8→List UInt8→Int→Option AV) (n:Nat) (s0:List UInt8) (chars1:List UInt8) (i12:Int):Option AV :=
 bif (decide (i12 < (s0.length:Int))) then bif ((decide (0≤i12))&&(decide (i12 < s0.length))) then bif (decide ((IntKind.wrap .i32 ((UInt8.toNat (s0.getD i12.toNat (0:UInt8)):Nat):Int)) < (128:Int))) then bif ((decide (0≤i12))&&(decide (i12 < s0.length))) then bif (decide (0≤(z150 chars1 (s0.getD i12.toNat (0:UInt8))))) then ret i12 else next s0 chars1 (IntKind.wrap .i64 (i12+1)) else none else bif (((decide (0≤i12))&&(decide (i12≤(s0.length:Int))))&&(decide ((s0.length:Int)≤(s0.length:Int)))) then bif ((qmO (List.drop i12.toNat (List.take (s0.length:Int).toNat s0)))&&true) then bif (((qx s0 i12).1) != (65533:Int)) then bif ((chars1.length:Int)==((qx s0 i12).2)) then bif (chars1==(Utf8.encode ((qx s0 i12).1)).data.toList) then ret i12 else next s0 chars1 (IntKind.wrap .i64 (i12+((qx s0 i12).2))) else bif (decide (((qx s0 i12).2)≤m0)) then bif ((qmN m0 chars1 (Utf8.encode ((qx s0 i12).1)).data.toList)&&true) then bif (decide (0≤(z155 chars1 (Utf8.encode ((qx s0 i12).1)).data.toList))) then ret i12 else next s0 chars1 (IntKind.wrap .i64 (i12+((qx s0 i12).2))) else none else (qbs m0) ret ((qca m0) ret k4 next n) n s0 chars1 ((qx s0 i12).2) i12 ((qx s0 i12).1) chars1 0 else (qbs m0) ret ((qca m0) ret k4 next n) n s0 chars1 ((qx s0 i12).2) i12 ((qx s0 i12).1) chars1 0 else none else none else none else k4
def qbt (m0:Int) (ret:Int→Option AV) (k4:Option AV):Nat→List UInt8→List UInt8→Int→Option AV
 | 0=>fun _ _ _=>none
 | n+1=>(qcX m0) ret k4 ((qbt m0) ret k4 n) n
def qcb (m0:Int) (_n:Nat):Option AV :=
 qI (-1:Int)
def qcY (chars1:List UInt8):=(IntKind.wrap .i32 ((UInt8.toNat (chars1.getD (0:Int).toNat (0:UInt8)):Nat):Int))
def qqr (m0:Int) (n:Nat) (s0:List UInt8) (chars1:List UInt8):Option AV :=
 bif (chars1==([]:List UInt8)) then qI (-1:Int) else bif ((s0.length:Int)==(1:Int)) then bif ((decide (0≤(0:Int)))&&(decide ((0:Int) < s0.length))) then bif (decide ((128:Int)≤(IntKind.wrap .i32 ((UInt8.toNat (s0.getD (0:Int).toNat (0:UInt8)):Nat):Int)))) then (qeK m0) qI ((qgt m0) n) n chars1 0 else bif ((decide (0≤(0:Int)))&&(decide ((0:Int) < s0.length))) then bif (decide (0≤(z150 chars1 (s0.getD (0:Int).toNat (0:UInt8))))) then qI (0:Int) else qI (-1:Int) else none else none else bif ((chars1.length:Int)==(1:Int)) then bif ((decide (0≤(0:Int)))&&(decide ((0:Int) < chars1.length))) then bif (decide ((128:Int)≤(qcY chars1))) then bif ((qxC s0 (65533:Int))&&true) then qI (z151 s0 (65533:Int)) else none else bif ((qxC s0 (qcY chars1))&&true) then qI (z151 s0 (qcY chars1)) else none else none else bif (z152 (s0.length:Int)) then bif ((qbK chars1)&&true) then bif ((z147 chars1).2) then (qcu m0) qI ((qcW m0) n) n ((z147 chars1).1) s0 (s0.length:Int) (0:Int) else (qbt m0) qI ((qcb m0) n) n s0 chars1 (0:Int) else none else (qbt m0) qI ((qcb m0) n) n s0 chars1 (0:Int)
def qow (s2:Int):Option AV:=some (dc s2)
def qwv (_n:Nat) (s0:List UInt8):Option AV :=
 bif ((qjc s0 ([32,9,13,10]:List UInt8))&&true) then
 bif (decide ((z128 s0 ([32,9,13,10]:List UInt8)) < (0:Int))) then
 qow (s0.length:Int)
 else
 qow (z128 s0 ([32,9,13,10]:List UInt8))
 else none
def qww (s2:Bool):Option AV:=some (dg s2)
def qwx (_n:Nat) (s0:List UInt8):Option AV :=
 bif ((qiv s0)&&true) then
 qww (((z51 s0).2)==(0:Int))
 else none
def qfp (s2:Int):Option AV:=some (dc s2)
def qwy (_n:Nat) (run0:List UInt8):Option AV :=
 bif (decide ((0:Int) < (run0.length:Int))) then
 bif ((qeS run0 ([32,9,13,10]:List UInt8))&&true) then
 bif (((z129 run0 ([32,9,13,10]:List UInt8)).length:Int)==(0:Int)) then
 qfp (1:Int)
 else
 bif ((qmK run0)&&true) then
 bif (z130 run0) then
 qfp (3:Int)
 else
 qfp (2:Int)
 else none
 else none
 else
 bif ((qmK run0)&&true) then
 bif (z130 run0) then
 qfp (3:Int)
 else
 qfp (2:Int)
 else none
def qBG (s2:List (Int×((List UInt8)×Unit))):Option AV:=some (.dat (.sl (.pair (.int .i64) (.pair (.sl .byte) .unit))) s2 (some (2,41)))
def qar (s0:List UInt8):=(bif (decide ((z100 s0) > (z99 s0))) then (z100 s0) else (z99 s0))
def qbf (s0:List UInt8):=(List.drop ((0:Nat):Int).toNat (List.take (qar s0).toNat s0))
def qdu (s0:List UInt8):=(((decide (0≤((0:Nat):Int)))&&(decide (((0:Nat):Int)≤(qar s0))))&&(decide ((qar s0)≤(s0.length:Int))))
def qdv (s0:List UInt8):=([((z101 (qbf s0)),((z83 (qbf s0)),()))]:List (Int×((List UInt8)×Unit)))
def qfq (k0:List (Int×((List UInt8)×Unit))→Option AV) (next:List UInt8→List (Int×((List UInt8)×Unit))→Option AV) (_n:Nat) (s0:List UInt8) (l3:List (Int×((List UInt8)×Unit))):Option AV :=
 bif (decide ((0:Int) < (s0.length:Int))) then bif ((qBb s0)&&true) then bif ((qqP s0)&&true) then bif (qdu s0) then bif (qdu s0) then bif ((qqO (qbf s0))&&true) then bif ((qfX (qbf s0))&&true) then bif (decide (l3.length+List.length (qdv s0)≤room)) then bif (((decide (0≤(qar s0)))&&(decide ((qar s0)≤(s0.length:Int))))&&(decide ((s0.length:Int)≤(s0.length:Int)))) then next (List.drop (qar s0).toNat (List.take (s0.length:Int).toNat s0)) (l3++(qdv s0)) else none else none else none else none else none else none else none else none else k0 l3
def qkW (k0:List (Int×((List UInt8)×Unit))→Option AV):Nat→List UInt8→List (Int×((List UInt8)×Unit))→Option AV
 | 0=>fun _ _=>none
 | n+1=>qfq k0 (qkW k0 n) n
def qhM (_n:Nat) (l3:List (Int×((List UInt8)×Unit))):Option AV :=
 qBG l3
def qzR (n:Nat) (s0:List UInt8):Option AV :=
 qkW (qhM n) n s0 ([]:List (Int×((List UInt8)×Unit)))
def qBH (s2:List Bool):Option AV:=some (.dat (.sl .bool) s2 (some (2,4)))
def qfr (k0:List Bool→Option AV) (next:List (Int×((List UInt8)×Unit))→List Bool→List (Int×((List UInt8)×Unit))→Int→Int→Option AV) (_n:Nat) (l0:List (Int×((List UInt8)×Unit))) (out3:List Bool) (s9:List (Int×((List UInt8)×Unit))) (s10:Int) (s11:Int):Option AV :=
 bif (decide (s11 < s10)) then
 bif ((decide (0≤s11))&&(decide (s11 < s9.length))) then
 bif (decide ((0:Int) < s11)) then
 bif (decide ((IntKind.wrap .i64 (s11+1)) < (l0.length:Int))) then
 bif ((s9.getD s11.toNat ((0:Int),(([]:List UInt8),()))).1==(1:Int)) then
 bif ((decide (0≤(IntKind.wrap .i64 (s11 - (1:Int)))))&&(decide ((IntKind.wrap .i64 (s11 - (1:Int))) < l0.length))) then
 bif ((l0.getD (IntKind.wrap .i64 (s11 - (1:Int))).toNat ((0:Int),(([]:List UInt8),()))).1==(3:Int)) then
 bif ((decide (0≤(IntKind.wrap .i64 (s11+1))))&&(decide ((IntKind.wrap .i64 (s11+1)) < l0.length))) then
 bif ((decide (0≤s11))&&(decide (s11 < out3.length))) then
 next l0 (List.set out3 s11.toNat ((l0.getD (IntKind.wrap .i64 (s11+1)).toNat ((0:Int),(([]:List UInt8),()))).1==(3:Int))) s9 s10 (IntKind.wrap .i64 (s11+1))
 else none
 else none
 else
 bif ((decide (0≤s11))&&(decide (s11 < out3.length))) then
 next l0 (List.set out3 s11.toNat false) s9 s10 (IntKind.wrap .i64 (s11+1))
 else none
 else none
 else
 next l0 out3 s9 s10 (IntKind.wrap .i64 (s11+1))
 else
 next l0 out3 s9 s10 (IntKind.wrap .i64 (s11+1))
 else
 next l0 out3 s9 s10 (IntKind.wrap .i64 (s11+1))
 else none
 else
 k0 out3
def qiu (k0:List Bool→Option AV):Nat→List (Int×((List UInt8)×Unit))→List Bool→List (Int×((List UInt8)×Unit))→Int→Int→Option AV
 | 0=>fun _ _ _ _ _=>none
 | n+1=>qfr k0 (qiu k0 n) n
def qhN (_n:Nat) (out3:List Bool):Option AV :=
 qBH out3
def qzS (n:Nat) (l0:List (Int×((List UInt8)×Unit))):Option AV :=
 bif (((decide (0≤(l0.length:Int)))&&(decide ((l0.length:Int)≤(l0.length:Int))))&&(decide ((l0.length:Int)≤(room:Int)))) then
 qiu (qhN n) n l0 (List.replicate (l0.length:Int).toNat false) l0 (l0.length:Int) (0:Int)
 else none
def qBI (s2:List (Int×((List UInt8)×Unit))):Option AV:=some (.dat (.sl (.pair (.int .i64) (.pair (.sl .byte) .unit))) s2 (some (2,41)))
def qfs (k0:List (Int×((List UInt8)×Unit))→Option AV) (next:List (Int×((List UInt8)×Unit))→List (Int×((List UInt8)×Unit))→List Bool→Int→Int→Option AV) (_n:Nat) (out3:List (Int×((List UInt8)×Unit))) (l4:List (Int×((List UInt8)×Unit))) (s10:List Bool) (s11:Int) (s12:Int):Option AV :=
 bif (decide (s12 < s11)) then
 bif ((decide (0≤s12))&&(decide (s12 < s10.length))) then
 bif (!(s10.getD s12.toNat false)) then
 bif ((decide (0≤s12))&&(decide (s12 < l4.length))) then
 bif (decide (out3.length+List.length ([(l4.getD s12.toNat ((0:Int),(([]:List UInt8),())))]:List (Int×((List UInt8)×Unit)))≤room)) then
 next (out3++([(l4.getD s12.toNat ((0:Int),(([]:List UInt8),())))]:List (Int×((List UInt8)×Unit)))) l4 s10 s11 (IntKind.wrap .i64 (s12+1))
 else none
 else none
 else
 next out3 l4 s10 s11 (IntKind.wrap .i64 (s12+1))
 else none
 else
 k0 out3
def qkX (k0:List (Int×((List UInt8)×Unit))→Option AV):Nat→List (Int×((List UInt8)×Unit))→List (Int×((List UInt8)×Unit))→List Bool→Int→Int→Option AV
 | 0=>fun _ _ _ _ _=>none
 | n+1=>qfs k0 (qkX k0 n) n
def qhO (_n:Nat) (out3:List (Int×((List UInt8)×Unit))):Option AV :=
 qBI out3
def qzT (n:Nat) (s0:List UInt8):Option AV :=
 bif ((qBc s0)&&true) then
 bif ((qBd (z59 s0))&&true) then
 qkX (qhO n) n ([]:List (Int×((List UInt8)×Unit))) (z59 s0) (z60 (z59 s0)) ((z60 (z59 s0)).length:Int) (0:Int)
 else none
 else none
def qwz (s13:List Int):Option AV:=some (.tup [(.tup []),.bad,.bad,(.pbox (.osl 21 (.int .i32)) s13 none)])
def qDO (_n:Nat) (c0:Int) (e1:Int) (x2:List Int):Option AV :=
 bif (e1 != (0:Int)) then
 bif (decide (x2.length+List.length ([(65533:Int)]:List Int)≤room)) then
 qwz (x2++([(65533:Int)]:List Int))
 else none
 else
 bif (decide (x2.length+List.length ([c0]:List Int)≤room)) then
 qwz (x2++([c0]:List Int))
 else none
def qdW (s2:Int):Option AV:=some (dc s2)
def qwA (_n:Nat) (c0:UInt8):Option AV :=
 bif (decide (c0 < (128:UInt8))) then
 qdW (1:Int)
 else
 bif (decide (c0 < (194:UInt8))) then
 qdW (0:Int)
 else
 bif (decide ((244:UInt8) < c0)) then
 qdW (0:Int)
 else
 bif (decide (c0 < (224:UInt8))) then
 qdW (2:Int)
 else
 bif (decide (c0 < (240:UInt8))) then
 qdW (3:Int)
 else
 qdW (4:Int)
def qwB (s2:Bool):Option AV:=some (dg s2)
def qwC (_n:Nat) (c0:UInt8):Option AV :=
 qwB ((c0 &&& ~~~ (63:UInt8))==(128:UInt8))
def qbP (s4:Bool):Option AV:=some (dg s4)
def qwD (_n:Nat) (first0:UInt8) (c1:UInt8):Option AV :=
 bif (first0==(224:UInt8)) then
 bif (decide ((160:UInt8)≤c1)) then
 qbP (z159 c1)
 else
 qbP false
 else
 bif (first0==(237:UInt8)) then
 bif (decide (c1 < (160:UInt8))) then
 qbP (z159 c1)
 else
 qbP false
 else
 bif (first0==(240:UInt8)) then
 bif (decide ((144:UInt8)≤c1)) then
 qbP (z159 c1)
 else
 qbP false
 else
 bif (first0==(244:UInt8)) then
 bif (decide (c1 < (144:UInt8))) then
 qbP (z159 c1)
 else
 qbP false
 else
 qbP (z159 c1)
def qaH (s2:Int):Option AV:=some (dc s2)
def qbG (ret:Int→Option AV) (k0:List UInt8→Int→Option AV) (next:List UInt8→Int→Option AV) (_n:Nat) (s0:List UInt8) (n3:Int):Option AV :=
 bif ((decide (0≤(0:Int)))&&(decide ((0:Int) < s0.length))) then
 bif (decide (n3 < (z132 (s0.getD (0:Int).toNat (0:UInt8))))) then
 bif (decide (n3 < (s0.length:Int))) then
 bif ((decide (0≤n3))&&(decide (n3 < s0.length))) then
 bif (!(z159 (s0.getD n3.toNat (0:UInt8)))) then
 ret n3
 else
 bif (n3==(1:Int)) then
 bif ((decide (0≤(0:Int)))&&(decide ((0:Int) < s0.length))) then
 bif ((decide (0≤(1:Int)))&&(decide ((1:Int) < s0.length))) then
 bif (!(z160 (s0.getD (0:Int).toNat (0:UInt8)) (s0.getD (1:Int).toNat (0:UInt8)))) then
 ret n3
 else
 next s0 (IntKind.wrap .i64 (n3+1))
 else none
 else none
 else
 next s0 (IntKind.wrap .i64 (n3+1))
 else none
 else
 k0 s0 n3
 else
 k0 s0 n3
 else none
def qfE (ret:Int→Option AV) (k0:List UInt8→Int→Option AV):Nat→List UInt8→Int→Option AV
 | 0=>fun _ _=>none
 | n+1=>qbG ret k0 (qfE ret k0 n) n
def qah (_n:Nat) (s0:List UInt8) (n3:Int):Option AV :=
 bif ((decide (0≤(0:Int)))&&(decide ((0:Int) < s0.length))) then
 qaH (bif (decide ((z132 (s0.getD (0:Int).toNat (0:UInt8))) < n3)) then (z132 (s0.getD (0:Int).toNat (0:UInt8))) else n3)
 else none
def qqs (n:Nat) (s0:List UInt8):Option AV :=
 qfE qaH (qah n) n s0 (1:Int)
def qhP (s2:UInt8):Option AV:=some (dm s2 none)
def qwE (_n:Nat) (n0:Int):Option AV :=
 bif (n0==(2:Int)) then
 qhP (192:UInt8)
 else
 bif (n0==(3:Int)) then
 qhP (224:UInt8)
 else
 bif (n0==(4:Int)) then
 qhP (240:UInt8)
 else
 qhP (0:UInt8)
def qcv (s2:Int) (s3:Int) (s4:Int):Option AV:=some (.tup [(di s2 none),(dc s3),(dc s4)])
def qcc (k1:Int→Int→Option AV) (next:Int→Int→List UInt8→Int→Int→Option AV) (_n:Nat) (n5:Int) (c6:Int) (s48:List UInt8) (s49:Int) (s50:Int):Option AV :=
 bif (decide (s50 < s49)) then
 bif ((decide (0≤s50))&&(decide (s50 < s48.length))) then
 next n5 (bits .or .i32 (IntKind.wrap .i32 (c6*2 ^ (min (6:Int).toNat (IntKind.bits .i32)))) (IntKind.wrap .i32 ((UInt8.toNat ((s48.getD s50.toNat (0:UInt8)) &&& (63:UInt8)):Nat):Int))) s48 s49 (IntKind.wrap .i64 (s50+1))
 else none
 else
 k1 n5 c6
def qcZ (k1:Int→Int→Option AV):Nat→Int→Int→List UInt8→Int→Int→Option AV
 | 0=>fun _ _ _ _ _=>none
 | n+1=>qcc k1 (qcZ k1 n) n
def qcd (_n:Nat) (n5:Int) (c6:Int):Option AV :=
 qcv c6 n5 (0:Int)
def qbu (s0:List UInt8):=((decide (0≤(0:Int)))&&(decide ((0:Int) < s0.length)))
def qce (s0:List UInt8):=(List.drop (1:Int).toNat (List.take (z131 s0).toNat s0))
def qda (s0:List UInt8):=(decide ((z131 s0) < (z132 (s0.getD (0:Int).toNat (0:UInt8)))))
def qeL (s0:List UInt8):=(((decide (0≤(1:Int)))&&(decide ((1:Int)≤(z131 s0))))&&(decide ((z131 s0)≤(s0.length:Int))))
def qeM (s0:List UInt8):=(IntKind.wrap .i32 ((UInt8.toNat ((s0.getD (0:Int).toNat (0:UInt8)) &&& ~~~ (z133 (z131 s0))):Nat):Int))
def qqt (n:Nat) (s0:List UInt8):Option AV :=
 bif ((s0.length:Int)==(0:Int)) then qcv (0:Int) (0:Int) (4:Int) else bif ((qiH s0)&&true) then bif ((z131 s0)==(0:Int)) then qcv (0:Int) (1:Int) (3:Int) else bif (qbu s0) then bif (qda s0) then bif ((z131 s0)==(s0.length:Int)) then qcv (0:Int) (z131 s0) (4:Int) else bif (qbu s0) then bif (qda s0) then qcv (0:Int) (z131 s0) (3:Int) else bif (qbu s0) then bif (qeL s0) then qcZ (qcd n) n (z131 s0) (qeM s0) (qce s0) ((qce s0).length:Int) (0:Int) else none else none else none else bif (qbu s0) then bif (qda s0) then qcv (0:Int) (z131 s0) (3:Int) else bif (qbu s0) then bif (qeL s0) then qcZ (qcd n) n (z131 s0) (qeM s0) (qce s0) ((qce s0).length:Int) (0:Int) else none else none else none else none else none
def qbv (s24:List Int):Option AV:=some (.tup [(.tup []),.bad,(.pbox (.osl 21 (.int .i32)) s24 none)])
def qdw (k0:List Int→Option AV) (next:List UInt8→List Int→Option AV) (_n:Nat) (s0:List UInt8) (s24:List Int):Option AV :=
 bif (decide ((0:Int) < (s0.length:Int))) then
 bif ((qpz s0)&&true) then
 bif (qyC ((z102 s0).1) ((z102 s0).2.2) s24) then
 bif (((decide (0≤((z102 s0).2.1)))&&(decide (((z102 s0).2.1)≤(s0.length:Int))))&&(decide ((s0.length:Int)≤(s0.length:Int)))) then
 next (List.drop ((z102 s0).2.1).toNat (List.take (s0.length:Int).toNat s0)) (z62 ((z102 s0).1) ((z102 s0).2.2) s24)
 else none
 else none
 else none
 else
 k0 s24
def qbH (k0:List Int→Option AV):Nat→List UInt8→List Int→Option AV
 | 0=>fun _ _=>none
 | n+1=>qdw k0 (qbH k0 n) n
def qbg (_n:Nat) (s24:List Int):Option AV :=
 qbv s24
def qkY (n:Nat) (s0:List UInt8) (f1:List Int):Option AV :=
 qbH (qbg n) n s0 f1
def qBJ (s2:List Int):Option AV:=some (.dat (.sl (.int .i32)) s2 none)
def qDP (_n:Nat) (s0:List UInt8):Option AV :=
 bif (qdk s0 ([]:List Int)) then
 qBJ (qCS s0 ([]:List Int))
 else none
def qox (s2:List Int):Option AV:=some (.dat (.sl (.int .i32)) s2 (some (2,21)))
def qdx (k0:List Int→Option AV) (next:List Int→List UInt8→Int→Int→Option AV) (_n:Nat) (t3:List Int) (s9:List UInt8) (s10:Int) (s11:Int):Option AV :=
 bif (decide (s11 < s10)) then
 bif ((decide (0≤s11))&&(decide (s11 < s9.length))) then
 bif ((decide (0≤s11))&&(decide (s11 < t3.length))) then
 next (List.set t3 s11.toNat (IntKind.wrap .i32 ((UInt8.toNat (s9.getD s11.toNat (0:UInt8)):Nat):Int))) s9 s10 (IntKind.wrap .i64 (s11+1))
 else none
 else none
 else
 k0 t3
def qhQ (k0:List Int→Option AV):Nat→List Int→List UInt8→Int→Int→Option AV
 | 0=>fun _ _ _ _=>none
 | n+1=>qdx k0 (qhQ k0 n) n
def qeN (_n:Nat) (t3:List Int):Option AV :=
 qox t3
def qqu (n:Nat) (s0:List UInt8):Option AV :=
 bif (((decide (0≤(s0.length:Int)))&&(decide ((s0.length:Int)≤(s0.length:Int))))&&(decide ((s0.length:Int)≤(room:Int)))) then
 qhQ (qeN n) n (List.replicate (s0.length:Int).toNat 0) s0 (s0.length:Int) (0:Int)
 else none
def qoy (s2:Int):Option AV:=some (di s2 none)
def qwF (_n:Nat) (c0:Int):Option AV :=
 bif (decide ((128:Int)≤c0)) then
 qoy (65533:Int)
 else
 qoy c0
def qoz (s2:List Int):Option AV:=some (.dat (.sl (.int .i32)) s2 (some (2,21)))
def qdy (k0:List Int→Option AV) (next:List Int→Int→Int→Option AV) (_n:Nat) (t3:List Int) (s10:Int) (s11:Int):Option AV :=
 bif (decide (s11 < s10)) then
 bif ((decide (0≤s11))&&(decide (s11 < t3.length))) then
 bif ((decide (0≤s11))&&(decide (s11 < t3.length))) then
 next (List.set t3 s11.toNat (z134 (t3.getD s11.toNat 0))) s10 (IntKind.wrap .i64 (s11+1))
 else none
 else none
 else
 k0 t3
def qhR (k0:List Int→Option AV):Nat→List Int→Int→Int→Option AV
 | 0=>fun _ _ _=>none
 | n+1=>qdy k0 (qhR k0 n) n
def qeO (_n:Nat) (t3:List Int):Option AV :=
 qoz t3
def qqv (n:Nat) (s0:List UInt8):Option AV :=
 bif ((qiI s0)&&true) then
 qhR (qeO n) n (z106 s0) ((z106 s0).length:Int) (0:Int)
 else none
def qwG (s0:List (UInt8×(Int×Unit))):Option AV:=some (.dat (.arr 8 (.pair .byte (.pair (.int .i32) .unit))) s0 none)
def qBK (_n:Nat):Option AV :=
 qwG ([((164:UInt8),((8364:Int),())),((166:UInt8),((352:Int),())),((168:UInt8),((353:Int),())),((180:UInt8),((381:Int),())),((184:UInt8),((382:Int),())),((188:UInt8),((338:Int),())),((189:UInt8),((339:Int),())),((190:UInt8),((376:Int),()))]:List (UInt8×(Int×Unit)))
def qaI (s2:Int):Option AV:=some (di s2 none)
def qqw (ret:Int→Option AV) (k0:UInt8→Option AV) (next:UInt8→List (UInt8×(Int×Unit))→Int→Option AV) (_n:Nat) (x0:UInt8) (s5:List (UInt8×(Int×Unit))) (s6:Int):Option AV :=
 bif (decide (s6 < (8:Int))) then
 bif ((decide (0≤s6))&&(decide (s6 < (8:Nat)))) then
 bif ((s5.getD s6.toNat ((0:UInt8),((0:Int),()))).1==x0) then
 ret (s5.getD s6.toNat ((0:UInt8),((0:Int),()))).2.1
 else
 next x0 s5 (IntKind.wrap .i64 (s6+1))
 else none
 else
 k0 x0
def qiR (ret:Int→Option AV) (k0:UInt8→Option AV):Nat→UInt8→List (UInt8×(Int×Unit))→Int→Option AV
 | 0=>fun _ _ _=>none
 | n+1=>qqw ret k0 (qiR ret k0 n) n
def qgu (_n:Nat) (x0:UInt8):Option AV :=
 qaI (IntKind.wrap .i32 ((UInt8.toNat x0:Nat):Int))
def qqx (n:Nat) (x0:UInt8):Option AV :=
 qiR qaI (qgu n) n x0 z161 (0:Int)
def qwH (s2:List Int):Option AV:=some (.dat (.sl (.int .i32)) s2 (some (2,21)))
def qdz (k0:List Int→Option AV) (next:List Int→List UInt8→Int→Int→Option AV) (_n:Nat) (t3:List Int) (s6:List UInt8) (s7:Int) (s8:Int):Option AV :=
 bif (decide (s8 < s7)) then
 bif ((decide (0≤s8))&&(decide (s8 < s6.length))) then
 bif (decide (t3.length+List.length ([(z135 (s6.getD s8.toNat (0:UInt8)))]:List Int)≤room)) then
 next (t3++([(z135 (s6.getD s8.toNat (0:UInt8)))]:List Int)) s6 s7 (IntKind.wrap .i64 (s8+1))
 else none
 else none
 else
 k0 t3
def qhS (k0:List Int→Option AV):Nat→List Int→List UInt8→Int→Int→Option AV
 | 0=>fun _ _ _ _=>none
 | n+1=>qdz k0 (qhS k0 n) n
def qdA (_n:Nat) (t3:List Int):Option AV :=
 qwH t3
def qqy (n:Nat) (s0:List UInt8):Option AV :=
 qhS (qdA n) n ([]:List Int) s0 (s0.length:Int) (0:Int)
def qwI (s0:List Int):Option AV:=some (.dat (.sl (.int .i32)) s0 none)
def qBL (_n:Nat):Option AV :=
 qwI (List.drop 0 (List.take 32 ([(8364:Int),(0:Int),(8218:Int),(402:Int),(8222:Int),(8230:Int),(8224:Int),(8225:Int),(710:Int),(8240:Int),(352:Int),(8249:Int),(338:Int),(0:Int),(381:Int),(0:Int),(0:Int),(8216:Int),(8217:Int),(8220:Int),(8221:Int),(8226:Int),(8211:Int),(8212:Int),(732:Int),(8482:Int),(353:Int),(8250:Int),(339:Int),(0:Int),(382:Int),(376:Int)]:List Int)))
def qhT (s2:Int):Option AV:=some (di s2 none)
def qdb (x0:UInt8):=((UInt8.toNat (x0 - (128:UInt8)):Nat):Int)
def qwJ (_n:Nat) (x0:UInt8):Option AV :=
 bif (decide (x0 < (128:UInt8))) then qhT (IntKind.wrap .i32 ((UInt8.toNat x0:Nat):Int)) else bif (decide ((160:UInt8)≤x0)) then qhT (IntKind.wrap .i32 ((UInt8.toNat x0:Nat):Int)) else bif ((decide (0≤(qdb x0)))&&(decide ((qdb x0) < z162.length))) then bif ((z162.getD (qdb x0).toNat 0) != (0:Int)) then qhT (z162.getD (qdb x0).toNat 0) else qhT (65533:Int) else none
def qwK (s2:List Int):Option AV:=some (.dat (.sl (.int .i32)) s2 (some (2,21)))
def qdB (k0:List Int→Option AV) (next:List Int→List UInt8→Int→Int→Option AV) (_n:Nat) (t3:List Int) (s9:List UInt8) (s10:Int) (s11:Int):Option AV :=
 bif (decide (s11 < s10)) then
 bif ((decide (0≤s11))&&(decide (s11 < s9.length))) then
 bif (decide (t3.length+List.length ([(z136 (s9.getD s11.toNat (0:UInt8)))]:List Int)≤room)) then
 next (t3++([(z136 (s9.getD s11.toNat (0:UInt8)))]:List Int)) s9 s10 (IntKind.wrap .i64 (s11+1))
 else none
 else none
 else
 k0 t3
def qhU (k0:List Int→Option AV):Nat→List Int→List UInt8→Int→Int→Option AV
 | 0=>fun _ _ _ _=>none
 | n+1=>qdB k0 (qhU k0 n) n
def qdC (_n:Nat) (t3:List Int):Option AV :=
 qwK t3
def qqz (n:Nat) (s0:List UInt8):Option AV :=
 bif (((decide (0≤(0:Int)))&&(decide (0≤(s0.length:Int))))&&(decide ((s0.length:Int)≤(room:Int)))) then
 qhU (qdC n) n (List.replicate (0:Int).toNat 0) s0 (s0.length:Int) (0:Int)
 else none
def qiS (s4:List Int):Option AV:=some (.dat (.sl (.int .i32)) s4 none)
def qDQ (_n:Nat) (charset0:Int) (s1:List UInt8):Option AV :=
 bif (charset0==(1:Int)) then
 bif ((qpC s1)&&true) then
 qiS (z103 s1)
 else none
 else
 bif (charset0==(3:Int)) then
 bif ((qpA s1)&&true) then
 qiS (z104 s1)
 else none
 else
 bif (charset0==(4:Int)) then
 bif ((qpB s1)&&true) then
 qiS (z105 s1)
 else none
 else
 bif (charset0==(5:Int)) then
 bif ((qfU s1)&&true) then
 qiS (z38 s1)
 else none
 else
 bif ((qiI s1)&&true) then
 qiS (z106 s1)
 else none
def qbw (V:Sigma Inv) (xv:Den V.1) (s29:List UInt8):Option AV:=some (.tup [(.tup []),(.abs V.1 V.2 xv),(.pbox (.leaf (.sl .byte)) s29 none)])
def qw (s7:List UInt8) (s9:Int):=(s7.getD s9.toNat (0:UInt8))
def qdD (V:Sigma Inv) (ret:Den V.1→List UInt8→Option AV) (k0:Den V.1→List UInt8→Option AV) (next:List UInt8→Int→Int→Den V.1→List UInt8→Option AV) (_n:Nat) (s7:List UInt8) (s8:Int) (s9:Int) (xv:Den V.1) (s29:List UInt8):Option AV :=
 bif (decide (s9 < s8)) then bif ((decide (0≤s9))&&(decide (s9 < s7.length))) then bif ((qw s7 s9)==(61:UInt8)) then ret xv s29 else bif (!((z121 (qw s7 s9)).2)) then bif (V.2.spec xv [⟨.byte,(qw s7 s9)⟩,⟨(.int .i64),(-1:Int)⟩]).1 then bif (!(V.2.spec xv [⟨.byte,(qw s7 s9)⟩,⟨(.int .i64),(-1:Int)⟩]).2.1) then ret (V.2.spec xv [⟨.byte,(qw s7 s9)⟩,⟨(.int .i64),(-1:Int)⟩]).2.2 s29 else next s7 s8 (IntKind.wrap .i64 (s9+1)) (V.2.spec xv [⟨.byte,(qw s7 s9)⟩,⟨(.int .i64),(-1:Int)⟩]).2.2 s29 else none else bif (V.2.spec xv [⟨.byte,(qw s7 s9)⟩,⟨(.int .i64),((z121 (qw s7 s9)).1)⟩]).1 then bif (!(V.2.spec xv [⟨.byte,(qw s7 s9)⟩,⟨(.int .i64),((z121 (qw s7 s9)).1)⟩]).2.1) then ret (V.2.spec xv [⟨.byte,(qw s7 s9)⟩,⟨(.int .i64),((z121 (qw s7 s9)).1)⟩]).2.2 s29 else next s7 s8 (IntKind.wrap .i64 (s9+1)) (V.2.spec xv [⟨.byte,(qw s7 s9)⟩,⟨(.int .i64),((z121 (qw s7 s9)).1)⟩]).2.2 s29 else none else none else k0 xv s29
def qeP (V:Sigma Inv) (ret:Den V.1→List UInt8→Option AV) (k0:Den V.1→List UInt8→Option AV):Nat→List UInt8→Int→Int→Den V.1→List UInt8→Option AV
 | 0=>fun _ _ _ _ _=>none
 | n+1=>(qdD V) ret k0 ((qeP V) ret k0 n) n
def qcw (V:Sigma Inv) (_n:Nat) (xv:Den V.1) (s29:List UInt8):Option AV :=
 (qbw V) xv s29
def qqA (V:Sigma Inv) (n:Nat) (x0:Den V.1) (x1:List UInt8):Option AV :=
 (qeP V) (qbw V) ((qcw V) n) n x1 (x1.length:Int) (0:Int) x0 x1
def qIt (_n:Nat) (s0:List UInt8):Option AV :=
 some (.abs (qdR [.leaf (.sl .byte)]) (clInv 173 [.leaf (.sl .byte)]) (s0,()))
def qoA (s2:List UInt8) (s3:Int):Option AV:=some (.tup [(da s2),(dc s3)])
def qfF (n:Nat) (x:Bool×(List UInt8)×Int×Int×Unit) (y0:UInt8) (y1:Int):Bool×Bool×(Bool×(List UInt8)×Int×Int×Unit) :=
 bif x.1 then (false,false,x) else yfin (.pair (.sl .byte) (.pair (.int .i64) (.pair (.int .i64) .unit))) x (
 bif (decide (y1 < (0:Int))) then
 some (.dat (.pair .bool (.pair (.sl .byte) (.pair (.int .i64) (.pair (.int .i64) .unit)))) (false,(x.2.1,(x.2.2.1,(x.2.2.2.1,())))) none)
 else
 bif (decide ((8:Int)≤(IntKind.wrap .i64 (x.2.2.2.1+(6:Int))))) then
 bif (decide (0≤(IntKind.wrap .i64 ((IntKind.wrap .i64 (x.2.2.2.1+(6:Int))) - (8:Int))))) then
 bif (decide (List.length x.2.1+List.length ([(UInt8.ofNat (IntKind.wrap .u8 (Int.fdiv (bits .or .i64 (IntKind.wrap .i64 (x.2.2.1*2 ^ (min (6:Int).toNat (IntKind.bits .i64)))) y1) (2 ^ (min (IntKind.wrap .i64 ((IntKind.wrap .i64 (x.2.2.2.1+(6:Int))) - (8:Int))).toNat (IntKind.bits .i64))))).toNat)]:List UInt8)≤room)) then
 bif (decide (0≤(IntKind.wrap .i64 ((IntKind.wrap .i64 (x.2.2.2.1+(6:Int))) - (8:Int))))) then
 some (.dat (.pair .bool (.pair (.sl .byte) (.pair (.int .i64) (.pair (.int .i64) .unit)))) (false,((x.2.1++([(UInt8.ofNat (IntKind.wrap .u8 (Int.fdiv (bits .or .i64 (IntKind.wrap .i64 (x.2.2.1*2 ^ (min (6:Int).toNat (IntKind.bits .i64)))) y1) (2 ^ (min (IntKind.wrap .i64 ((IntKind.wrap .i64 (x.2.2.2.1+(6:Int))) - (8:Int))).toNat (IntKind.bits .i64))))).toNat)]:List UInt8)),((bits .and .i64 (bits .or .i64 (IntKind.wrap .i64 (x.2.2.1*2 ^ (min (6:Int).toNat (IntKind.bits .i64)))) y1) (IntKind.wrap .i64 ((IntKind.wrap .i64 ((1:Int)*2 ^ (min (IntKind.wrap .i64 ((IntKind.wrap .i64 (x.2.2.2.1+(6:Int))) - (8:Int))).toNat (IntKind.bits .i64)))) - (1:Int)))),((IntKind.wrap .i64 ((IntKind.wrap .i64 (x.2.2.2.1+(6:Int))) - (8:Int))),())))) none)
 else none
 else none
 else none
 else
 some (.dat (.pair .bool (.pair (.sl .byte) (.pair (.int .i64) (.pair (.int .i64) .unit)))) (false,(x.2.1,((bits .or .i64 (IntKind.wrap .i64 (x.2.2.1*2 ^ (min (6:Int).toNat (IntKind.bits .i64)))) y1),((IntKind.wrap .i64 (x.2.2.2.1+(6:Int))),())))) none))
def qdc (n:Nat) (s0:List UInt8):=(z173 (qfF n) (false,(([]:List UInt8),((0:Int),((0:Int),())))) s0)
def qeQ (n:Nat) (s0:List UInt8):=( qoA (qdc n s0).2.1.2.1 (qdc n s0).2.1.2.2.2.1)
def qwL (n:Nat) (s0:List UInt8):Option AV :=
 bif (qdc n s0).1 then bif (qdc n s0).2.1.1 then qoA ([]:List UInt8) (0:Int) else both ( both (qeQ n s0) (qeQ n s0)) (qeQ n s0) else none
def qwM (s2:List UInt8):Option AV:=some (da s2)
def qwN (_n:Nat) (s0:List UInt8):Option AV :=
 bif ((qpE s0)&&true) then
 qwM ((z137 s0).1)
 else none
def qwO (s2:List UInt8):Option AV:=some (da s2)
def qwP (_n:Nat) (s0:List UInt8):Option AV :=
 bif ((qiJ s0)&&true) then
 qwO ((z124 s0).1)
 else none
def qwQ (s2:List UInt8):Option AV:=some (da s2)
def qDR (_n:Nat) (w0:(List UInt8)×(Int×((List UInt8)×Unit))):Option AV :=
 bif (w0.2.1==(1:Int)) then
 bif ((qpF w0.2.2.1)&&true) then
 qwQ (z107 w0.2.2.1)
 else none
 else
 bif ((qpG w0.2.2.1)&&true) then
 qwQ (z108 w0.2.2.1)
 else none
def qwR (s2:List Int) (s3:Bool):Option AV:=some (.tup [(.dat (.sl (.int .i32)) s2 none),(dg s3)])
def qgv (s0:List UInt8):=( bif ((qrx ((z51 s0).1))&&true) then bif ((qyD ((z51 s0).1))&&true) then bif ((qyt (z52 ((z51 s0).1)) (z64 ((z51 s0).1)))&&true) then qwR (z63 (z52 ((z51 s0).1)) (z64 ((z51 s0).1))) true else none else none else none)
def qDS (_n:Nat) (s0:List UInt8):Option AV :=
 bif ((qiv s0)&&true) then bif (((z51 s0).2) != (0:Int)) then qwR ([]:List Int) false else both ( both (qgv s0) (qgv s0)) (qgv s0) else none
def qhV (s14:Int):Option AV:=some (.tup [(.tup []),.bad,.bad,(.pbox (.leaf (.int .i64)) s14 none)])
def qkZ (_n:Nat) (p0:Int×((List UInt8)×Unit)) (_x1:List Int) (x2:Int):Option AV :=
 bif (p0.1==(3:Int)) then
 bif (qol p0.2.1 x2) then
 qhV (z32 p0.2.1 x2)
 else none
 else
 qhV x2
def qhW (s14:List Int):Option AV:=some (.tup [(.tup []),.bad,.bad,(.pbox (.osl 3 (.int .i64)) s14 none)])
def qla (_n:Nat) (p0:Int×((List UInt8)×Unit)) (_x1:List Int) (x2:List Int):Option AV :=
 bif (p0.1==(3:Int)) then
 bif (qom p0.2.1 x2) then
 qhW (z30 p0.2.1 x2)
 else none
 else
 qhW x2
def qhX (s36:List Int):Option AV:=some (.tup [(.tup []),.bad,(.pbox (.osl 21 (.int .i32)) s36 none)])
def qr (s9:List (Int×((List UInt8)×Unit))) (s11:Int):=(s9.getD s11.toNat ((0:Int),(([]:List UInt8),())))
def qay (next:List (Int×((List UInt8)×Unit))→Int→Int→List Int→Option AV) (s9:List (Int×((List UInt8)×Unit))) (s10:Int) (s11:Int) (s36:List Int):=( bif ((qfU (qr s9 s11).2.1)&&true) then bif (qvI (qr s9 s11) (z38 (qr s9 s11).2.1) s36) then next s9 s10 (IntKind.wrap .i64 (s11+1)) (z21 (qr s9 s11) (z38 (qr s9 s11).2.1) s36) else none else none)
def qbh (k0:List Int→Option AV) (next:List (Int×((List UInt8)×Unit))→Int→Int→List Int→Option AV) (_n:Nat) (s9:List (Int×((List UInt8)×Unit))) (s10:Int) (s11:Int) (s36:List Int):Option AV :=
 bif (decide (s11 < s10)) then bif ((decide (0≤s11))&&(decide (s11 < s9.length))) then bif ((qr s9 s11).1 != (3:Int)) then both (qay next s9 s10 s11 s36) ( both (qay next s9 s10 s11 s36) (qay next s9 s10 s11 s36)) else bif ((qiq (qr s9 s11).2.1)&&true) then bif (qvI (qr s9 s11) ((z39 (qr s9 s11).2.1).1) s36) then next s9 s10 (IntKind.wrap .i64 (s11+1)) (z21 (qr s9 s11) ((z39 (qr s9 s11).2.1).1) s36) else none else none else none else k0 s36
def qcx (k0:List Int→Option AV):Nat→List (Int×((List UInt8)×Unit))→Int→Int→List Int→Option AV
 | 0=>fun _ _ _ _=>none
 | n+1=>qbh k0 (qcx k0 n) n
def qcf (_n:Nat) (s36:List Int):Option AV :=
 qhX s36
def qgw (n:Nat) (s0:List UInt8) (f1:List Int):Option AV :=
 bif ((qiw s0)&&true) then
 qcx (qcf n) n (z37 s0) ((z37 s0).length:Int) (0:Int) f1
 else none
def qhY (s36:List (List Int)):Option AV:=some (.tup [(.tup []),.bad,(.pbox (.osl 25 (.sl (.int .i32))) s36 none)])
def qt (s9:List (Int×((List UInt8)×Unit))) (s11:Int):=(s9.getD s11.toNat ((0:Int),(([]:List UInt8),())))
def qaz (next:List (Int×((List UInt8)×Unit))→Int→Int→List (List Int)→Option AV) (s9:List (Int×((List UInt8)×Unit))) (s10:Int) (s11:Int) (s36:List (List Int)):=( bif ((qfU (qt s9 s11).2.1)&&true) then bif (qvJ (qt s9 s11) (z38 (qt s9 s11).2.1) s36) then next s9 s10 (IntKind.wrap .i64 (s11+1)) (z28 (qt s9 s11) (z38 (qt s9 s11).2.1) s36) else none else none)
def qbi (k0:List (List Int)→Option AV) (next:List (Int×((List UInt8)×Unit))→Int→Int→List (List Int)→Option AV) (_n:Nat) (s9:List (Int×((List UInt8)×Unit))) (s10:Int) (s11:Int) (s36:List (List Int)):Option AV :=
 bif (decide (s11 < s10)) then bif ((decide (0≤s11))&&(decide (s11 < s9.length))) then bif ((qt s9 s11).1 != (3:Int)) then both (qaz next s9 s10 s11 s36) ( both (qaz next s9 s10 s11 s36) (qaz next s9 s10 s11 s36)) else bif ((qiq (qt s9 s11).2.1)&&true) then bif (qvJ (qt s9 s11) ((z39 (qt s9 s11).2.1).1) s36) then next s9 s10 (IntKind.wrap .i64 (s11+1)) (z28 (qt s9 s11) ((z39 (qt s9 s11).2.1).1) s36) else none else none else none else k0 s36
def qcy (k0:List (List Int)→Option AV):Nat→List (Int×((List UInt8)×Unit))→Int→Int→List (List Int)→Option AV
 | 0=>fun _ _ _ _=>none
 | n+1=>qbi k0 (qcy k0 n) n
def qcg (_n:Nat) (s36:List (List Int)):Option AV :=
 qhY s36
def qgx (n:Nat) (s0:List UInt8) (f1:List (List Int)):Option AV :=
 bif ((qiw s0)&&true) then
 qcy (qcg n) n (z37 s0) ((z37 s0).length:Int) (0:Int) f1
 else none
def qhZ (s36:Int):Option AV:=some (.tup [(.tup []),.bad,(.pbox (.leaf (.int .i64)) s36 none)])
def qu (s9:List (Int×((List UInt8)×Unit))) (s11:Int):=(s9.getD s11.toNat ((0:Int),(([]:List UInt8),())))
def qaA (next:List (Int×((List UInt8)×Unit))→Int→Int→Int→Option AV) (s9:List (Int×((List UInt8)×Unit))) (s10:Int) (s11:Int) (s36:Int):=( bif ((qfU (qu s9 s11).2.1)&&true) then bif (qcp (qu s9 s11) (z38 (qu s9 s11).2.1) s36) then next s9 s10 (IntKind.wrap .i64 (s11+1)) (qir (qu s9 s11) (z38 (qu s9 s11).2.1) s36) else none else none)
def qbj (k0:Int→Option AV) (next:List (Int×((List UInt8)×Unit))→Int→Int→Int→Option AV) (_n:Nat) (s9:List (Int×((List UInt8)×Unit))) (s10:Int) (s11:Int) (s36:Int):Option AV :=
 bif (decide (s11 < s10)) then bif ((decide (0≤s11))&&(decide (s11 < s9.length))) then bif ((qu s9 s11).1 != (3:Int)) then both (qaA next s9 s10 s11 s36) ( both (qaA next s9 s10 s11 s36) (qaA next s9 s10 s11 s36)) else bif ((qiq (qu s9 s11).2.1)&&true) then bif (qcp (qu s9 s11) ((z39 (qu s9 s11).2.1).1) s36) then next s9 s10 (IntKind.wrap .i64 (s11+1)) (qir (qu s9 s11) ((z39 (qu s9 s11).2.1).1) s36) else none else none else none else k0 s36
def qcz (k0:Int→Option AV):Nat→List (Int×((List UInt8)×Unit))→Int→Int→Int→Option AV
 | 0=>fun _ _ _ _=>none
 | n+1=>qbj k0 (qcz k0 n) n
def qch (_n:Nat) (s36:Int):Option AV :=
 qhZ s36
def qgy (n:Nat) (s0:List UInt8) (f1:Int):Option AV :=
 bif ((qiw s0)&&true) then
 qcz (qch n) n (z37 s0) ((z37 s0).length:Int) (0:Int) f1
 else none
def qia (s36:List Int):Option AV:=some (.tup [(.tup []),.bad,(.pbox (.osl 3 (.int .i64)) s36 none)])
def qv (s9:List (Int×((List UInt8)×Unit))) (s11:Int):=(s9.getD s11.toNat ((0:Int),(([]:List UInt8),())))
def qaB (next:List (Int×((List UInt8)×Unit))→Int→Int→List Int→Option AV) (s9:List (Int×((List UInt8)×Unit))) (s10:Int) (s11:Int) (s36:List Int):=( bif ((qfU (qv s9 s11).2.1)&&true) then bif (qcq (qv s9 s11) (z38 (qv s9 s11).2.1) s36) then next s9 s10 (IntKind.wrap .i64 (s11+1)) (qis (qv s9 s11) (z38 (qv s9 s11).2.1) s36) else none else none)
def qbk (k0:List Int→Option AV) (next:List (Int×((List UInt8)×Unit))→Int→Int→List Int→Option AV) (_n:Nat) (s9:List (Int×((List UInt8)×Unit))) (s10:Int) (s11:Int) (s36:List Int):Option AV :=
 bif (decide (s11 < s10)) then bif ((decide (0≤s11))&&(decide (s11 < s9.length))) then bif ((qv s9 s11).1 != (3:Int)) then both (qaB next s9 s10 s11 s36) ( both (qaB next s9 s10 s11 s36) (qaB next s9 s10 s11 s36)) else bif ((qiq (qv s9 s11).2.1)&&true) then bif (qcq (qv s9 s11) ((z39 (qv s9 s11).2.1).1) s36) then next s9 s10 (IntKind.wrap .i64 (s11+1)) (qis (qv s9 s11) ((z39 (qv s9 s11).2.1).1) s36) else none else none else none else k0 s36
def qcA (k0:List Int→Option AV):Nat→List (Int×((List UInt8)×Unit))→Int→Int→List Int→Option AV
 | 0=>fun _ _ _ _=>none
 | n+1=>qbk k0 (qcA k0 n) n
def qci (_n:Nat) (s36:List Int):Option AV :=
 qia s36
def qgz (n:Nat) (s0:List UInt8) (f1:List Int):Option AV :=
 bif ((qiw s0)&&true) then
 qcA (qci n) n (z37 s0) ((z37 s0).length:Int) (0:Int) f1
 else none
def qwT (s2:List Int):Option AV:=some (.dat (.sl (.int .i32)) s2 none)
def qDT (_n:Nat) (s0:List UInt8):Option AV :=
 bif (qdl s0 ([]:List Int)) then
 qwT (qse s0 ([]:List Int))
 else none
def qwU (before4:List UInt8) (after5:List UInt8) (found6:Bool):Option AV:=some (.tup [(da before4),(da after5),(dg found6)])
def qDU (_n:Nat) (s0:List UInt8) (sep1:List UInt8):Option AV :=
 bif ((qmP s0 sep1)&&true) then
 bif (decide (0≤(z57 s0 sep1))) then
 bif (((decide (0≤((0:Nat):Int)))&&(decide (((0:Nat):Int)≤(z57 s0 sep1))))&&(decide ((z57 s0 sep1)≤(s0.length:Int)))) then
 bif (((decide (0≤(IntKind.wrap .i64 ((z57 s0 sep1)+(sep1.length:Int)))))&&(decide ((IntKind.wrap .i64 ((z57 s0 sep1)+(sep1.length:Int)))≤(s0.length:Int))))&&(decide ((s0.length:Int)≤(s0.length:Int)))) then
 qwU (List.drop ((0:Nat):Int).toNat (List.take (z57 s0 sep1).toNat s0)) (List.drop (IntKind.wrap .i64 ((z57 s0 sep1)+(sep1.length:Int))).toNat (List.take (s0.length:Int).toNat s0)) true
 else none
 else none
 else
 qwU s0 ([]:List UInt8) false
 else none
def qqB (s2:List UInt8):Option AV:=some (db s2 (some (2,5)))
def qE (s0:List UInt8):=(z35 s0 ([(13:UInt8),(10:UInt8)]:List UInt8))
def qlb (ret:List UInt8→Option AV) (next:List UInt8→List UInt8→Option AV) (_n:Nat) (s0:List UInt8) (out3:List UInt8):Option AV :=
 bif ((qsD s0 ([(13:UInt8),(10:UInt8)]:List UInt8))&&true) then bif (decide (out3.length+List.length ((qE s0).1)≤room)) then bif (!((qE s0).2.2)) then ret (out3++((qE s0).1)) else bif ((((qE s0).2.1).length:Int)==(0:Int)) then bif (decide (List.length (out3++((qE s0).1))+List.length ([13,10]:List UInt8)≤room)) then next ((qE s0).2.1) ((out3++((qE s0).1))++([13,10]:List UInt8)) else none else bif ((decide (0≤(0:Int)))&&(decide ((0:Int) < ((qE s0).2.1).length))) then bif (!(z36 (((qE s0).2.1).getD (0:Int).toNat (0:UInt8)) (2:Int))) then bif (decide (List.length (out3++((qE s0).1))+List.length ([13,10]:List UInt8)≤room)) then next ((qE s0).2.1) ((out3++((qE s0).1))++([13,10]:List UInt8)) else none else next ((qE s0).2.1) (out3++((qE s0).1)) else none else none else none
def qlc (ret:List UInt8→Option AV):Nat→List UInt8→List UInt8→Option AV
 | 0=>fun _ _=>none
 | n+1=>qlb ret (qlc ret n) n
def qDV (n:Nat) (s0:List UInt8):Option AV :=
 qlc qqB n s0 ([]:List UInt8)
def qIu (s2:List Int):Option AV:=some (.dat (.sl (.int .i32)) s2 none)
def z9_sh (_n:Nat) (s0:List UInt8):Option AV :=
 bif ((qiy s0)&&true) then
 bif ((qzL (z19 s0))&&true) then
 qIu (z11 (z19 s0))
 else none
 else none
def qwV (s2:List (List Int)):Option AV:=some (.dat (.sl (.sl (.int .i32))) s2 none)
def qDW (_n:Nat) (s0:List UInt8):Option AV :=
 bif ((qiy s0)&&true) then
 bif (qdm (z19 s0) ([]:List (List Int))) then
 qwV (qsf (z19 s0) ([]:List (List Int)))
 else none
 else none
def qmw (s9:Int):Option AV:=some (.tup [(.tup []),.bad,(.pbox (.leaf (.int .i64)) s9 none)])
def qld (_n:Nat) (s0:List UInt8) (f1:Int):Option AV :=
 bif ((qiy s0)&&true) then
 bif (qdn (z19 s0) f1) then
 qmw (qsg (z19 s0) f1)
 else none
 else none
def qmx (s9:List Int):Option AV:=some (.tup [(.tup []),.bad,(.pbox (.osl 3 (.int .i64)) s9 none)])
def qle (_n:Nat) (s0:List UInt8) (f1:List Int):Option AV :=
 bif ((qiy s0)&&true) then
 bif (qdo (z19 s0) f1) then
 qmx (qsh (z19 s0) f1)
 else none
 else none
def qwW (s2:List Int):Option AV:=some (.dat (.sl (.int .i64)) s2 none)
def qDX (_n:Nat) (s0:List UInt8):Option AV :=
 bif (qdq s0 ([]:List Int)) then
 qwW (qvL s0 ([]:List Int))
 else none
def qwX (s2:Int):Option AV:=some (dc s2)
def qDY (_n:Nat) (s0:List UInt8):Option AV :=
 bif (qdp s0 (0:Int)) then
 qwX (qvK s0 (0:Int))
 else none
def qwY (s0:Bool):Option AV:=some (dg s0)
def qbQ:=([(97:UInt8),(32:UInt8),(61:UInt8),(63:UInt8),(117:UInt8),(116:UInt8),(102:UInt8),(45:UInt8),(56:UInt8),(63:UInt8),(81:UInt8),(63:UInt8),(98:UInt8),(63:UInt8),(61:UInt8),(13:UInt8),(10:UInt8),(32:UInt8),(61:UInt8),(63:UInt8),(117:UInt8),(116:UInt8),(102:UInt8),(45:UInt8),(56:UInt8),(63:UInt8),(81:UInt8),(63:UInt8),(99:UInt8),(63:UInt8),(61:UInt8)]:List UInt8)
def z7_sh (_n:Nat):Option AV :=
 bif ((z9_ok (qbQ))&&true) then bif ((z8_ok (z9 (qbQ)) ([(97:Int),(32:Int),(98:Int),(99:Int)]:List Int))&&true) then bif (z8 (z9 (qbQ)) ([(97:Int),(32:Int),(98:Int),(99:Int)]:List Int)) then bif ((qvF (qbQ))&&true) then bif ((z17 (qbQ))==(0:Int)) then bif ((qvG (qbQ))&&true) then bif (((z16 (qbQ)).length:Int)==(2:Int)) then bif ((qvH (qbQ))&&true) then qwY (((z15 (qbQ)).length:Int)==(4:Int)) else none else qwY false else none else qwY false else none else qwY false else none else none
def qwZ (s2:Bool):Option AV:=some (dg s2)
def qDZ (_n:Nat) (c0:Int):Option AV :=
 bif (decide ((55296:Int)≤c0)) then
 qwZ (decide (c0≤(57343:Int)))
 else
 qwZ false
def qqC (s2:Bool):Option AV:=some (dg s2)
def qEa (_n:Nat) (c0:Int):Option AV :=
 bif (decide (0≤c0)) then
 bif (decide (c0≤(1114111:Int))) then
 qqC (!(z56 c0))
 else
 qqC false
 else
 qqC false
def qib (s2:Int):Option AV:=some (dc s2)
def qft (ret:Int→Option AV) (k0:Option AV) (next:List Int→Int→Option AV) (_n:Nat) (t0:List Int) (i3:Int):Option AV :=
 bif (decide (i3 < (t0.length:Int))) then
 bif ((decide (0≤i3))&&(decide (i3 < t0.length))) then
 bif (!(z34 (t0.getD i3.toNat 0))) then
 ret i3
 else
 next t0 (IntKind.wrap .i64 (i3+1))
 else none
 else
 k0
def qoB (ret:Int→Option AV) (k0:Option AV):Nat→List Int→Int→Option AV
 | 0=>fun _ _=>none
 | n+1=>qft ret k0 (qoB ret k0 n) n
def qic (_n:Nat):Option AV :=
 qib (-1:Int)
def qzU (n:Nat) (t0:List Int):Option AV :=
 qoB qib (qic n) n t0 (0:Int)
def qoC (s2:Bool):Option AV:=some (dg s2)
def qiT (k0:List UInt8→List Int→List Int→Option AV) (next:List UInt8→List Int→List Int→List (List Int)→Int→Int→Option AV) (_n:Nat) (s0:List UInt8) (t3:List Int) (all4:List Int) (s14:List (List Int)) (s15:Int) (s16:Int):Option AV :=
 bif (decide (s16 < s15)) then
 bif ((decide (0≤s16))&&(decide (s16 < s14.length))) then
 bif (decide (all4.length+List.length (s14.getD s16.toNat ([]:List Int))≤room)) then
 next s0 t3 (all4++(s14.getD s16.toNat ([]:List Int))) s14 s15 (IntKind.wrap .i64 (s16+1))
 else none
 else none
 else
 k0 s0 t3 all4
def z5_l6 (k0:List UInt8→List Int→List Int→Option AV):Nat→List UInt8→List Int→List Int→List (List Int)→Int→Int→Option AV
 | 0=>fun _ _ _ _ _ _=>none
 | n+1=>qiT k0 (z5_l6 k0 n) n
def qmy (_n:Nat) (s0:List UInt8) (t3:List Int) (all4:List Int):Option AV :=
 bif ((qzM t3)&&true) then
 bif (decide ((z18 t3) < (0:Int))) then
 bif (decide ((t3.length:Int)≤(s0.length:Int))) then
 bif ((z8_ok all4 t3)&&true) then
 bif (z8 all4 t3) then
 bif ((qvF s0)&&true) then
 bif ((qvG s0)&&true) then
 bif (decide ((z17 s0)≤((z16 s0).length:Int))) then
 qoC z7
 else
 qoC false
 else none
 else none
 else
 qoC false
 else none
 else
 qoC false
 else
 qoC false
 else none
def z5_sh (n:Nat) (s0:List UInt8):Option AV :=
 bif (decide ((500:Int) < (s0.length:Int))) then
 qoC z7
 else
 bif ((z9_ok s0)&&true) then
 bif ((qvH s0)&&true) then
 z5_l6 (qmy n) n s0 (z9 s0) ([]:List Int) (z15 s0) ((z15 s0).length:Int) (0:Int)
 else none
 else none
end
end Go.Av
