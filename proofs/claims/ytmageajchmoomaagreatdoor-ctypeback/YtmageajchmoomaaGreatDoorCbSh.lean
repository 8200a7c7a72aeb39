import Derived.Test.YtmageajchmoomaaGreatDoorCbA
import Derived.Test.YtmageajchmoomaaGreatDoorAvE
namespace Go.Av
set_option linter.unusedSimpArgs false
set_option linter.unusedVariables false
section
open List (length drop take replicate set)
open UInt8 (ofNat toNat)
open IntKind (wrap)
abbrev OA:=Option AV
set_option linter.unusedSimpArgs false
set_option linter.unusedVariables false
noncomputable section
def qga (s2:Bool):OA:=some (dg s2)
def qjG (ret:Bool→OA) (k0:LU×(LU×((List (LU×(LI×Unit)))×Unit))→OA) (next:LU×(LU×((List (LU×(LI×Unit)))×Unit))→List (LU×(LI×Unit))→Int→Int→OA) (_n:Nat) (t1:LU×(LU×((List (LU×(LI×Unit)))×Unit))) (s11:List (LU×(LI×Unit))) (s12:Int) (s13:Int):OA :=
 bif (decide (s13 < s12)) then
 bif ((decide (0≤s13))&&(decide (s13 < s11.length))) then
 bif (decide ((100:Int) < ((s11.getD s13.toNat (([]:LU),(([]:LI),()))).1.length:Int))) then
 ret true
 else
 bif (decide ((80:Int) < ((s11.getD s13.toNat (([]:LU),(([]:LI),()))).2.1.length:Int))) then
 ret true
 else
 next t1 s11 s12 (wrap .i64 (s13+1))
 else none
 else
 k0 t1
def z5_l2 (ret:Bool→OA) (k0:LU×(LU×((List (LU×(LI×Unit)))×Unit))→OA):Nat→LU×(LU×((List (LU×(LI×Unit)))×Unit))→List (LU×(LI×Unit))→Int→Int→OA
 | 0=>fun _ _ _ _=>none
 | n+1=>qjG ret k0 (z5_l2 ret k0 n) n
def qee (_n:Nat) (t1:LU×(LU×((List (LU×(LI×Unit)))×Unit))):OA :=
 bif (decide ((6:Int) < (t1.2.2.1.length:Int))) then
 qga true
 else
 bif (decide ((100:Int) < (t1.1.length:Int))) then
 qga true
 else
 qga (decide ((100:Int) < (t1.2.1.length:Int)))
def qgb (t0:LU×(LU×((List (LU×(LI×Unit)))×Unit))):=(bif (decide ((6:Int) < (t0.2.2.1.length:Int))) then (6:Int) else (t0.2.2.1.length:Int))
def z5_sh (n:Nat) (t0:LU×(LU×((List (LU×(LI×Unit)))×Unit))):OA :=
 bif (((decide (0≤((0:Nat):Int)))&&(decide (((0:Nat):Int)≤(qgb t0))))&&(decide ((qgb t0)≤(t0.2.2.1.length:Int)))) then z5_l2 qga (qee n) n t0 (drop ((0:Nat):Int).toNat (take (qgb t0).toNat t0.2.2.1)) ((drop ((0:Nat):Int).toNat (take (qgb t0).toNat t0.2.2.1)).length:Int) (0:Int) else none
def qrK (s2:UInt8):OA:=some (dm s2)
def qPW (_n:Nat) (c0:UInt8):OA :=
 bif (decide ((65:UInt8)≤c0)) then
 bif (decide (c0≤(90:UInt8))) then
 qrK (c0 ||| (32:UInt8))
 else
 qrK c0
 else
 qrK c0
def qyD (s4:Int):OA:=some (dc s4)
def qPX (_n:Nat) (s0:LU) (at1:Int):OA :=
 qyD (bif (decide ((s0.length:Int) < (bif (decide ((0:Int) > at1)) then (0:Int) else at1))) then (s0.length:Int) else (bif (decide ((0:Int) > at1)) then (0:Int) else at1))
def qjH (s4:Bool) (s56:Int×(Int×(Bool×Unit))):OA:=some (.tup [(dg s4),(.pbox (.ppair (.leaf (.int .i64)) (.ppair (.leaf (.int .i64)) (.ppair (.leaf .bool) (.leaf .unit)))) s56 none),.bad])
def qcH (k0:Int×(Int×(Bool×Unit))):=((wrap .i64 (k0.1+1)),k0.2)
def qKv (_n:Nat) (k0:Int×(Int×(Bool×Unit))) (c1:UInt8):OA :=
 bif k0.2.2.1 then qjH false (k0.1,(k0.2.1,(false,k0.2.2.2))) else bif (c1==(92:UInt8)) then qjH false (k0.1,(k0.2.1,(true,k0.2.2.2))) else bif (c1==(40:UInt8)) then qjH false ((qcH k0).1,((bif (decide ((qcH k0).1 > (qcH k0).2.1)) then (qcH k0).1 else (qcH k0).2.1),(qcH k0).2.2)) else bif (c1==(41:UInt8)) then qjH (((wrap .i64 (k0.1 - (1:Int))),k0.2).1==(0:Int)) ((wrap .i64 (k0.1 - (1:Int))),k0.2) else qjH false k0
def qnb (s2:Int) (s3:Int):OA:=some (.tup [(dc s2),(dc s3)])
def qgc (ret:Int→Int→OA) (k0:LU→Int×(Int×(Bool×Unit))→OA) (next:LU→Int×(Int×(Bool×Unit))→LU→Int→Int→OA) (_n:Nat) (s0:LU) (k4:Int×(Int×(Bool×Unit))) (s12:LU) (s13:Int) (s14:Int):OA :=
 bif (decide (s14 < s13)) then
 bif ((decide (0≤s14))&&(decide (s14 < s12.length))) then
 bif (qGn k4 (s12.getD s14.toNat (0:UInt8))) then
 bif ((z54 k4 (s12.getD s14.toNat (0:UInt8))).1) then
 ret (wrap .i64 (s14+1)) ((z54 k4 (s12.getD s14.toNat (0:UInt8))).2).2.1
 else
 next s0 ((z54 k4 (s12.getD s14.toNat (0:UInt8))).2) s12 s13 (wrap .i64 (s14+1))
 else none
 else none
 else
 k0 s0 k4
def quh (ret:Int→Int→OA) (k0:LU→Int×(Int×(Bool×Unit))→OA):Nat→LU→Int×(Int×(Bool×Unit))→LU→Int→Int→OA
 | 0=>fun _ _ _ _ _=>none
 | n+1=>qgc ret k0 (quh ret k0 n) n
def qpB (_n:Nat) (s0:LU) (k4:Int×(Int×(Bool×Unit))):OA :=
 qnb (s0.length:Int) k4.2.1
def qKw (n:Nat) (s0:LU):OA :=
 quh qnb (qpB n) n s0 ((0:Int),((0:Int),(false,()))) s0 (s0.length:Int) (0:Int)
def qas:=(bits .or .i64 (bits .or .i64 (0:Int) (1:Int)) (656:Int))
def qfg:=(bits .or .i64 (bits .or .i64 (0:Int) (1:Int)) (2:Int))
def qPY (_n:Nat) (c0:UInt8):OA :=
 bif (decide (c0 < (32:UInt8))) then bif (c0==(32:UInt8)) then qyD (qfg) else bif (c0==(9:UInt8)) then qyD (qfg) else bif (decide ((48:UInt8)≤c0)) then bif (decide (c0≤(57:UInt8))) then qyD (bits .or .i64 (bits .or .i64 (0:Int) (1:Int)) (648:Int)) else bif (decide ((65:UInt8)≤c0)) then bif (decide (c0≤(90:UInt8))) then bif (decide (c0≤(90:UInt8))) then qyD (qas) else qyD (bits .or .i64 (0:Int) (1:Int)) else bif (decide ((97:UInt8)≤c0)) then bif (decide (c0≤(122:UInt8))) then qyD (qas) else qyD (bits .or .i64 (0:Int) (1:Int)) else qyD (bits .or .i64 (0:Int) (1:Int)) else bif (decide ((97:UInt8)≤c0)) then bif (decide (c0≤(122:UInt8))) then qyD (qas) else qyD (bits .or .i64 (0:Int) (1:Int)) else qyD (bits .or .i64 (0:Int) (1:Int)) else bif (decide ((65:UInt8)≤c0)) then bif (decide (c0≤(90:UInt8))) then bif (decide (c0≤(90:UInt8))) then qyD (qas) else qyD (bits .or .i64 (0:Int) (1:Int)) else bif (decide ((97:UInt8)≤c0)) then bif (decide (c0≤(122:UInt8))) then qyD (qas) else qyD (bits .or .i64 (0:Int) (1:Int)) else qyD (bits .or .i64 (0:Int) (1:Int)) else bif (decide ((97:UInt8)≤c0)) then bif (decide (c0≤(122:UInt8))) then qyD (qas) else qyD (bits .or .i64 (0:Int) (1:Int)) else qyD (bits .or .i64 (0:Int) (1:Int)) else bif (c0==(127:UInt8)) then bif (c0==(32:UInt8)) then qyD (qfg) else bif (c0==(9:UInt8)) then qyD (qfg) else bif (decide ((48:UInt8)≤c0)) then bif (decide (c0≤(57:UInt8))) then qyD (bits .or .i64 (bits .or .i64 (0:Int) (1:Int)) (648:Int)) else bif (decide ((65:UInt8)≤c0)) then bif (decide (c0≤(90:UInt8))) then bif (decide (c0≤(90:UInt8))) then qyD (qas) else qyD (bits .or .i64 (0:Int) (1:Int)) else bif (decide ((97:UInt8)≤c0)) then bif (decide (c0≤(122:UInt8))) then qyD (qas) else qyD (bits .or .i64 (0:Int) (1:Int)) else qyD (bits .or .i64 (0:Int) (1:Int)) else bif (decide ((97:UInt8)≤c0)) then bif (decide (c0≤(122:UInt8))) then qyD (qas) else qyD (bits .or .i64 (0:Int) (1:Int)) else qyD (bits .or .i64 (0:Int) (1:Int)) else bif (decide ((65:UInt8)≤c0)) then bif (decide (c0≤(90:UInt8))) then bif (decide (c0≤(90:UInt8))) then qyD (qas) else qyD (bits .or .i64 (0:Int) (1:Int)) else bif (decide ((97:UInt8)≤c0)) then bif (decide (c0≤(122:UInt8))) then qyD (qas) else qyD (bits .or .i64 (0:Int) (1:Int)) else qyD (bits .or .i64 (0:Int) (1:Int)) else bif (decide ((97:UInt8)≤c0)) then bif (decide (c0≤(122:UInt8))) then qyD (qas) else qyD (bits .or .i64 (0:Int) (1:Int)) else qyD (bits .or .i64 (0:Int) (1:Int)) else bif (c0==(32:UInt8)) then qyD (bits .or .i64 (0:Int) (2:Int)) else bif (c0==(9:UInt8)) then qyD (bits .or .i64 (0:Int) (2:Int)) else bif (decide ((48:UInt8)≤c0)) then bif (decide (c0≤(57:UInt8))) then qyD (bits .or .i64 (0:Int) (648:Int)) else bif (decide ((65:UInt8)≤c0)) then bif (decide (c0≤(90:UInt8))) then bif (decide (c0≤(90:UInt8))) then qyD (bits .or .i64 (0:Int) (656:Int)) else qyD (0:Int) else bif (decide ((97:UInt8)≤c0)) then bif (decide (c0≤(122:UInt8))) then qyD (bits .or .i64 (0:Int) (656:Int)) else qyD (0:Int) else qyD (0:Int) else bif (decide ((97:UInt8)≤c0)) then bif (decide (c0≤(122:UInt8))) then qyD (bits .or .i64 (0:Int) (656:Int)) else qyD (0:Int) else qyD (0:Int) else bif (decide ((65:UInt8)≤c0)) then bif (decide (c0≤(90:UInt8))) then bif (decide (c0≤(90:UInt8))) then qyD (bits .or .i64 (0:Int) (656:Int)) else qyD (0:Int) else bif (decide ((97:UInt8)≤c0)) then bif (decide (c0≤(122:UInt8))) then qyD (bits .or .i64 (0:Int) (656:Int)) else qyD (0:Int) else qyD (0:Int) else bif (decide ((97:UInt8)≤c0)) then bif (decide (c0≤(122:UInt8))) then qyD (bits .or .i64 (0:Int) (656:Int)) else qyD (0:Int) else qyD (0:Int)
def qPZ (_n:Nat) (s0:LU) (c1:UInt8):OA :=
 qyD (z162 s0 c1)
def qQa (_n:Nat) (s0:LU) (c1:UInt8):OA :=
 qyD (z142 s0 c1)
def qSP (_n:Nat) (s0:LU) (c1:UInt8):OA :=
 qga (decide (0≤(z108 s0 c1)))
def qbT (c0:UInt8):=(bits .or .i64 (z78 c0) (4:Int))
def qfh (c0:UInt8):=(z79 ([40,41,60,62,64,44,59,58,92,34,47,91,93,63,61]:LU) c0)
def qcI (c0:UInt8):=(bits .or .i64 (qbT c0) (128:Int))
def qQb (_n:Nat) (c0:UInt8):OA :=
 bif (decide (c0 < (33:UInt8))) then qyD (z78 c0) else bif (decide ((126:UInt8) < c0)) then qyD (z78 c0) else bif (z79 ([33,42,43,45,47]:LU) c0) then bif (z79 ([43,47]:LU) c0) then bif (qfh c0) then qyD (bits .or .i64 (bits .or .i64 (qcI c0) (512:Int)) (32:Int)) else bif (!(z79 ([42,39,37]:LU) c0)) then qyD (bits .or .i64 (bits .or .i64 (bits .or .i64 (qcI c0) (512:Int)) (64:Int)) (256:Int)) else qyD (bits .or .i64 (bits .or .i64 (qcI c0) (512:Int)) (64:Int)) else bif (qfh c0) then qyD (bits .or .i64 (qcI c0) (32:Int)) else bif (!(z79 ([42,39,37]:LU) c0)) then qyD (bits .or .i64 (bits .or .i64 (qcI c0) (64:Int)) (256:Int)) else qyD (bits .or .i64 (qcI c0) (64:Int)) else bif (z79 ([43,47]:LU) c0) then bif (qfh c0) then qyD (bits .or .i64 (bits .or .i64 (qbT c0) (512:Int)) (32:Int)) else bif (!(z79 ([42,39,37]:LU) c0)) then qyD (bits .or .i64 (bits .or .i64 (bits .or .i64 (qbT c0) (512:Int)) (64:Int)) (256:Int)) else qyD (bits .or .i64 (bits .or .i64 (qbT c0) (512:Int)) (64:Int)) else bif (qfh c0) then qyD (bits .or .i64 (qbT c0) (32:Int)) else bif (!(z79 ([42,39,37]:LU) c0)) then qyD (bits .or .i64 (bits .or .i64 (qbT c0) (64:Int)) (256:Int)) else qyD (bits .or .i64 (qbT c0) (64:Int))
def qSQ (_n:Nat) (c0:UInt8) (kinds1:Int):OA :=
 qga ((bits .and .i64 (z55 c0) kinds1) != (0:Int))
def qaY (s0:LU) (at1:Int):=(s0.getD at1.toNat (0:UInt8))
def qli (ret:Int→OA) (k0:Int→OA) (next:LU→Int→OA) (_n:Nat) (s0:LU) (at1:Int):OA :=
 bif (decide (at1 < (s0.length:Int))) then bif ((decide (0≤at1))&&(decide (at1 < s0.length))) then bif ((qaY s0 at1)==(40:UInt8)) then bif (((decide (0≤at1))&&(decide (at1≤(s0.length:Int))))&&(decide ((s0.length:Int)≤(s0.length:Int)))) then bif ((qGo (drop at1.toNat (take (s0.length:Int).toNat s0)))&&true) then next s0 (wrap .i64 (at1+((z34 (drop at1.toNat (take (s0.length:Int).toNat s0))).1))) else none else none else bif ((qaY s0 at1)==(13:UInt8)) then bif ((qaY s0 at1)==(13:UInt8)) then next s0 (wrap .i64 (at1+1)) else ret at1 else bif ((qaY s0 at1)==(10:UInt8)) then bif ((qaY s0 at1)==(10:UInt8)) then next s0 (wrap .i64 (at1+1)) else ret at1 else bif (z35 (qaY s0 at1) (2:Int)) then next s0 (wrap .i64 (at1+1)) else ret at1 else none else k0 at1
def qui (ret:Int→OA) (k0:Int→OA):Nat→LU→Int→OA
 | 0=>fun _ _=>none
 | n+1=>qli ret k0 (qui ret k0 n) n
def qpC (_n:Nat) (at1:Int):OA :=
 qyD at1
def qKx (n:Nat) (s0:LU) (at1:Int):OA :=
 qui qyD (qpC n) n s0 (z33 s0 at1)
def qrL (s6:Int) (s7:Bool):OA:=some (.tup [(dc s6),(dg s7)])
def qQc (_n:Nat) (s0:LU) (at1:Int) (c2:UInt8):OA :=
 bif ((qdy s0 at1)&&true) then
 bif ((z22 s0 at1)==(s0.length:Int)) then
 qrL (z33 s0 at1) false
 else
 bif ((decide (0≤(z22 s0 at1)))&&(decide ((z22 s0 at1) < s0.length))) then
 bif ((s0.getD (z22 s0 at1).toNat (0:UInt8)) != c2) then
 qrL (z33 s0 at1) false
 else
 qrL (wrap .i64 ((z22 s0 at1)+1)) true
 else none
 else none
def qrM (s4:LU) (s5:Int) (s6:Int):OA:=some (.tup [(da s4),(dc s5),(dc s6)])
def qgd (k0:LU→Int→Int→OA) (next:LU→Int→Int→OA) (_n:Nat) (s0:LU) (at1:Int) (n7:Int):OA :=
 bif (decide (n7 < (s0.length:Int))) then
 bif ((decide (0≤n7))&&(decide (n7 < s0.length))) then
 bif (z35 (s0.getD n7.toNat (0:UInt8)) (64:Int)) then
 next s0 at1 (wrap .i64 (n7+1))
 else
 k0 s0 at1 n7
 else none
 else
 k0 s0 at1 n7
def quj (k0:LU→Int→Int→OA):Nat→LU→Int→Int→OA
 | 0=>fun _ _ _=>none
 | n+1=>qgd k0 (quj k0 n) n
def qpD (_n:Nat) (s0:LU) (at1:Int) (n7:Int):OA :=
 bif (at1==(s0.length:Int)) then
 qrM ([]:LU) (0:Int) (4:Int)
 else
 bif (n7==at1) then
 qrM ([]:LU) (0:Int) (3:Int)
 else
 bif (((decide (0≤at1))&&(decide (at1≤n7)))&&(decide (n7≤(s0.length:Int)))) then
 bif ((qaH (drop at1.toNat (take n7.toNat s0)))&&true) then
 qrM (z20 (drop at1.toNat (take n7.toNat s0))) n7 (0:Int)
 else none
 else none
def qDX (n:Nat) (s0:LU) (at1:Int):OA :=
 quj (qpD n) n s0 (z33 s0 at1) (z33 s0 at1)
def qGY (s2:LU):OA:=some (db s2 (some (2,5)))
def qge (k0:LU→OA) (next:LU→Int→Int→OA) (_n:Nat) (out3:LU) (s9:Int) (s10:Int):OA :=
 bif (decide (s10 < s9)) then
 bif ((decide (0≤s10))&&(decide (s10 < out3.length))) then
 bif ((decide (0≤s10))&&(decide (s10 < out3.length))) then
 next (set out3 s10.toNat (z30 (out3.getD s10.toNat (0:UInt8)))) s9 (wrap .i64 (s10+1))
 else none
 else none
 else
 k0 out3
def qnc (k0:LU→OA):Nat→LU→Int→Int→OA
 | 0=>fun _ _ _=>none
 | n+1=>qge k0 (qnc k0 n) n
def qpE (_n:Nat) (out3:LU):OA :=
 qGY out3
def qDY (n:Nat) (s0:LU):OA :=
 bif ((qaH s0)&&true) then
 qnc (qpE n) n (z20 s0) ((z20 s0).length:Int) (0:Int)
 else none
def qnd (s2:LU×(LU×((List (LU×(LI×Unit)))×Unit))) (s3:Int) (s4:Int):OA:=some (.tup [(.dat (.pair (.sl .byte) (.pair (.sl .byte) (.pair (.sl (.pair (.sl .byte) (.pair (.sl (.int .i32)) .unit))) .unit))) s2 none),(dc s3),(dc s4)])
def qfi (s0:LU):=(z24 s0 ((z36 s0 (z22 s0 (0:Int))).2.1) (47:UInt8))
def qhv:=(([]:LU),(([]:LU),(([]:List (LU×(LI×Unit))),())))
def qfj (s0:LU):=(z36 s0 (z22 s0 ((qfi s0).1)))
def qQd (_n:Nat) (s0:LU):OA :=
 bif ((qdy s0 (0:Int))&&true) then bif ((qjv s0 (z22 s0 (0:Int)))&&true) then bif (((z36 s0 (z22 s0 (0:Int))).2.2) != (0:Int)) then qnd (qhv) (0:Int) (3:Int) else bif ((qnW s0 ((z36 s0 (z22 s0 (0:Int))).2.1) (47:UInt8))&&true) then bif (!((qfi s0).2)) then qnd (qhv) (0:Int) (3:Int) else bif ((qdy s0 ((qfi s0).1))&&true) then bif ((qjv s0 (z22 s0 ((qfi s0).1)))&&true) then bif (((qfj s0).2.2) != (0:Int)) then qnd (qhv) (0:Int) (3:Int) else bif ((qeE ((z36 s0 (z22 s0 (0:Int))).1))&&true) then bif ((qeE ((qfj s0).1))&&true) then qnd ((z37 ((z36 s0 (z22 s0 (0:Int))).1)),((z37 ((qfj s0).1)),(([]:List (LU×(LI×Unit))),()))) ((qfj s0).2.1) (0:Int) else none else none else none else none else none else none else none
def qSR (_n:Nat) (a0:LU) (b1:LU):OA :=
 qga (a0==b1)
def qQe (_n:Nat) (a0:LU) (b1:LU):OA :=
 bif ((qeE a0)&&true) then
 bif ((qeE b1)&&true) then
 qga (z60 (z37 a0) (z37 b1))
 else none
 else none
def qiy (s2:List LU):OA:=some (.dat (.sl .str) s2 (some (2,9)))
def qQf (_n:Nat) (charset0:Int):OA :=
 bif (charset0==(1:Int)) then
 qiy ([([117,115,45,97,115,99,105,105]:LU),([97,115,99,105,105]:LU),([97,110,115,105,95,120,51,46,52,45,49,57,54,56]:LU),([105,115,111,54,52,54,45,117,115]:LU)]:List LU)
 else
 bif (charset0==(2:Int)) then
 qiy ([([105,115,111,45,56,56,53,57,45,49]:LU),([105,115,111,95,56,56,53,57,45,49]:LU),([108,97,116,105,110,49]:LU),([108,49]:LU)]:List LU)
 else
 bif (charset0==(3:Int)) then
 qiy ([([105,115,111,45,56,56,53,57,45,49,53]:LU),([105,115,111,95,56,56,53,57,45,49,53]:LU),([108,97,116,105,110,45,57]:LU)]:List LU)
 else
 bif (charset0==(4:Int)) then
 qiy ([([119,105,110,100,111,119,115,45,49,50,53,50]:LU),([99,112,49,50,53,50]:LU)]:List LU)
 else
 bif (charset0==(5:Int)) then
 qiy ([([117,116,102,45,56]:LU),([117,116,102,56]:LU)]:List LU)
 else
 qiy ([]:List LU)
def qHb (s0:List (LU×Int)):OA:=some (.abs (.sl (.pair .str (.int .i64))) (qjm .str (.int .i64)) s0)
def qyG (k2:List (LU×Int)→Int→OA) (next:List (LU×Int)→Int→List LU→Int→Int→OA) (_n:Nat) (m1:List (LU×Int)) (n2:Int) (s11:List LU) (s12:Int) (s13:Int):OA :=
 bif (decide (s13 < s12)) then
 bif ((decide (0≤s13))&&(decide (s13 < s11.length))) then
 next (@putM .str (.int .i64) (s11.getD s13.toNat ([]:LU)) n2 m1) n2 s11 s12 (wrap .i64 (s13+1))
 else none
 else
 k2 m1 n2
def qyH (k2:List (LU×Int)→Int→OA):Nat→List (LU×Int)→Int→List LU→Int→Int→OA
 | 0=>fun _ _ _ _ _=>none
 | n+1=>qyG k2 (qyH k2 n) n
def qyI (_k0:List (LU×Int)→OA) (next:List (LU×Int)→Int→OA) (_n:Nat) (m1:List (LU×Int)) (n2:Int):OA :=
 next m1 (wrap .i64 (n2+1))
def qpF (k0:List (LU×Int)→OA) (next:List (LU×Int)→Int→OA) (n:Nat) (m1:List (LU×Int)) (n2:Int):OA :=
 bif (decide (n2≤(5:Int))) then
 qyH (qyI k0 next n) n m1 n2 (z61 n2) ((z61 n2).length:Int) (0:Int)
 else
 k0 m1
def qyJ (k0:List (LU×Int)→OA):Nat→List (LU×Int)→Int→OA
 | 0=>fun _ _=>none
 | n+1=>qpF k0 (qyJ k0 n) n
def qyK (_n:Nat) (m1:List (LU×Int)):OA :=
 qHb m1
def qKy (n:Nat):OA :=
 qyJ (qyK n) n ([]:List (LU×Int)) (1:Int)
def qSS (_n:Nat) (b0:LU) (c1:UInt8):OA :=
 qyD (z90 b0 c1)
def qpG (s4:LU):OA:=some (da s4)
def qrN (k0:LU→OA) (next:LU→UInt8→OA) (_n:Nat) (s0:LU) (c1:UInt8):OA :=
 bif (decide ((0:Int) < (s0.length:Int))) then
 bif ((decide (0≤(0:Int)))&&(decide ((0:Int) < s0.length))) then
 bif ((s0.getD (0:Int).toNat (0:UInt8))==c1) then
 bif (((decide (0≤(1:Int)))&&(decide ((1:Int)≤(s0.length:Int))))&&(decide ((s0.length:Int)≤(s0.length:Int)))) then
 next (drop (1:Int).toNat (take (s0.length:Int).toNat s0)) c1
 else none
 else
 k0 s0
 else none
 else
 k0 s0
def qne (k0:LU→OA):Nat→LU→UInt8→OA
 | 0=>fun _ _=>none
 | n+1=>qrN k0 (qne k0 n) n
def qrO (_n:Nat) (s0:LU):OA :=
 bif ((s0.length:Int)==(0:Int)) then
 qpG ([]:LU)
 else
 qpG s0
def qyL (n:Nat) (s0:LU) (c1:UInt8):OA :=
 qne (qrO n) n s0 c1
def qaZ (s0:LU):=(wrap .i64 ((s0.length:Int) - (1:Int)))
def qrP (k0:LU→OA) (next:LU→UInt8→OA) (_n:Nat) (s0:LU) (c1:UInt8):OA :=
 bif (decide ((0:Int) < (s0.length:Int))) then bif ((decide (0≤(qaZ s0)))&&(decide ((qaZ s0) < s0.length))) then bif ((s0.getD (qaZ s0).toNat (0:UInt8))==c1) then bif (((decide (0≤((0:Nat):Int)))&&(decide (((0:Nat):Int)≤(qaZ s0))))&&(decide ((qaZ s0)≤(s0.length:Int)))) then next (drop ((0:Nat):Int).toNat (take (qaZ s0).toNat s0)) c1 else none else k0 s0 else none else k0 s0
def qnf (k0:LU→OA):Nat→LU→UInt8→OA
 | 0=>fun _ _=>none
 | n+1=>qrP k0 (qnf k0 n) n
def qrQ (_n:Nat) (s0:LU):OA :=
 qpG s0
def qyN (n:Nat) (s0:LU) (c1:UInt8):OA :=
 qnf (qrQ n) n s0 c1
def qiz (as2:List Bool) (ok3:Bool):OA:=some (.tup [(.dat (.arr 256 .bool) as2 none),(dg ok3)])
def qdH (ret:List Bool→Bool→OA) (k0:List Bool→OA) (next:LU→List Bool→Int→OA) (_n:Nat) (chars0:LU) (as2:List Bool) (i4:Int):OA :=
 bif (decide (i4 < (chars0.length:Int))) then
 bif ((decide (0≤i4))&&(decide (i4 < chars0.length))) then
 bif (decide ((128:UInt8)≤(chars0.getD i4.toNat (0:UInt8)))) then
 ret as2 false
 else
 bif ((decide (0≤((toNat (chars0.getD i4.toNat (0:UInt8)):Nat):Int)))&&(decide (((toNat (chars0.getD i4.toNat (0:UInt8)):Nat):Int) < (256:Nat)))) then
 next chars0 (set as2 ((toNat (chars0.getD i4.toNat (0:UInt8)):Nat):Int).toNat true) (wrap .i64 (i4+1))
 else none
 else none
 else
 k0 as2
def qgO (ret:List Bool→Bool→OA) (k0:List Bool→OA):Nat→LU→List Bool→Int→OA
 | 0=>fun _ _ _=>none
 | n+1=>qdH ret k0 (qgO ret k0 n) n
def qlj (_n:Nat) (as2:List Bool):OA :=
 qiz as2 true
def qyO (n:Nat) (chars0:LU):OA :=
 qgO qiz (qlj n) n chars0 (replicate 256 false) (0:Int)
def qHd (_n:Nat) (as0:List Bool) (c1:UInt8):OA :=
 bif ((decide (0≤((toNat c1:Nat):Int)))&&(decide (((toNat c1:Nat):Int) < (256:Nat)))) then
 qga (as0.getD ((toNat c1:Nat):Int).toNat false)
 else none
def qhw (k0:LU→OA) (next:LU→List Bool→OA) (_n:Nat) (s0:LU) (as1:List Bool):OA :=
 bif (decide ((0:Int) < (s0.length:Int))) then
 bif ((decide (0≤(0:Int)))&&(decide ((0:Int) < s0.length))) then
 bif (!(z151 as1 (s0.getD (0:Int).toNat (0:UInt8)))) then
 k0 s0
 else
 bif (((decide (0≤(1:Int)))&&(decide ((1:Int)≤(s0.length:Int))))&&(decide ((s0.length:Int)≤(s0.length:Int)))) then
 next (drop (1:Int).toNat (take (s0.length:Int).toNat s0)) as1
 else none
 else none
 else
 k0 s0
def qiA (k0:LU→OA):Nat→LU→List Bool→OA
 | 0=>fun _ _=>none
 | n+1=>qhw k0 (qiA k0 n) n
def qlk (_n:Nat) (s0:LU):OA :=
 bif ((s0.length:Int)==(0:Int)) then
 qpG ([]:LU)
 else
 qpG s0
def qrR (n:Nat) (s0:LU) (as1:List Bool):OA :=
 qiA (qlk n) n s0 as1
def qaD (s0:LU):=(wrap .i64 ((s0.length:Int) - (1:Int)))
def qhx (k0:LU→OA) (next:LU→List Bool→OA) (_n:Nat) (s0:LU) (as1:List Bool):OA :=
 bif (decide ((0:Int) < (s0.length:Int))) then bif ((decide (0≤(qaD s0)))&&(decide ((qaD s0) < s0.length))) then bif (!(z151 as1 (s0.getD (qaD s0).toNat (0:UInt8)))) then k0 s0 else bif (((decide (0≤((0:Nat):Int)))&&(decide (((0:Nat):Int)≤(qaD s0))))&&(decide ((qaD s0)≤(s0.length:Int)))) then next (drop ((0:Nat):Int).toNat (take (qaD s0).toNat s0)) as1 else none else none else k0 s0
def qiB (k0:LU→OA):Nat→LU→List Bool→OA
 | 0=>fun _ _=>none
 | n+1=>qhx k0 (qiB k0 n) n
def qrS (_n:Nat) (s0:LU):OA :=
 qpG s0
def qrT (n:Nat) (s0:LU) (as1:List Bool):OA :=
 qiB (qrS n) n s0 as1
def qcJ (cutset1:LU):=(cutset1.getD (0:Int).toNat (0:UInt8))
def qhy (cutset1:LU):=((decide (0≤(0:Int)))&&(decide ((0:Int) < cutset1.length)))
def qKz (_n:Nat) (s0:LU) (cutset1:LU):OA :=
 bif ((s0.length:Int)==(0:Int)) then qpG ([]:LU) else bif (cutset1==([]:LU)) then qpG s0 else bif ((cutset1.length:Int)==(1:Int)) then bif (qhy cutset1) then bif (decide ((qcJ cutset1) < (128:UInt8))) then bif (qhy cutset1) then bif (qhy cutset1) then bif ((qAQ s0 (qcJ cutset1))&&true) then bif ((qAP (z121 s0 (qcJ cutset1)) (qcJ cutset1))&&true) then qpG (z120 (z121 s0 (qcJ cutset1)) (qcJ cutset1)) else none else none else none else none else bif ((qjh cutset1)&&true) then bif ((z122 cutset1).2) then bif ((qnV s0 ((z122 cutset1).1))&&true) then bif ((qnU (z124 s0 ((z122 cutset1).1)) ((z122 cutset1).1))&&true) then qpG (z123 (z124 s0 ((z122 cutset1).1)) ((z122 cutset1).1)) else none else none else bif ((qAS s0 cutset1)&&true) then bif ((qAR (z126 s0 cutset1) cutset1)&&true) then qpG (z125 (z126 s0 cutset1) cutset1) else none else none else none else none else bif ((qjh cutset1)&&true) then bif ((z122 cutset1).2) then bif ((qnV s0 ((z122 cutset1).1))&&true) then bif ((qnU (z124 s0 ((z122 cutset1).1)) ((z122 cutset1).1))&&true) then qpG (z123 (z124 s0 ((z122 cutset1).1)) ((z122 cutset1).1)) else none else none else bif ((qAS s0 cutset1)&&true) then bif ((qAR (z126 s0 cutset1) cutset1)&&true) then qpG (z125 (z126 s0 cutset1) cutset1) else none else none else none
def qQg (_n:Nat) (s0:LU):OA :=
 bif ((quR s0 ([32,9]:LU))&&true) then
 bif ((qaH (z91 s0 ([32,9]:LU)))&&true) then
 qGY (z20 (z91 s0 ([32,9]:LU)))
 else none
 else none
def qQh (_n:Nat) (s0:LU):OA :=
 bif (decide (0≤(z62 s0 (42:UInt8)))) then
 bif (((decide (0≤((0:Nat):Int)))&&(decide (((0:Nat):Int)≤(z62 s0 (42:UInt8)))))&&(decide ((z62 s0 (42:UInt8))≤(s0.length:Int)))) then
 bif ((quS (drop ((0:Nat):Int).toNat (take (z62 s0 (42:UInt8)).toNat s0)))&&true) then
 qGY (z63 (drop ((0:Nat):Int).toNat (take (z62 s0 (42:UInt8)).toNat s0)))
 else none
 else none
 else
 bif ((quS s0)&&true) then
 qGY (z63 s0)
 else none
def qKA (_n:Nat) (s0:LU):OA :=
 bif ((qGg s0)&&true) then
 bif ((qeE (z45 s0))&&true) then
 bif (!(Option.isSome (@findM .str (.int .i64) (z37 (z45 s0)) z44))) then
 qnb (0:Int) (10:Int)
 else
 qnb (Option.getD (@findM .str (.int .i64) (z37 (z45 s0)) z44) (0:Int)) (0:Int)
 else none
 else none
def qpI (before4:LU) (after5:LU) (found6:Bool):OA:=some (.tup [(da before4),(da after5),(dg found6)])
def qHf (_n:Nat) (s0:LU) (sep1:LU):OA :=
 bif ((qnT s0 sep1)&&true) then
 bif (decide (0≤(z143 s0 sep1))) then
 bif (((decide (0≤((0:Nat):Int)))&&(decide (((0:Nat):Int)≤(z143 s0 sep1))))&&(decide ((z143 s0 sep1)≤(s0.length:Int)))) then
 bif (((decide (0≤(wrap .i64 ((z143 s0 sep1)+(sep1.length:Int)))))&&(decide ((wrap .i64 ((z143 s0 sep1)+(sep1.length:Int)))≤(s0.length:Int))))&&(decide ((s0.length:Int)≤(s0.length:Int)))) then
 qpI (drop ((0:Nat):Int).toNat (take (z143 s0 sep1).toNat s0)) (drop (wrap .i64 ((z143 s0 sep1)+(sep1.length:Int))).toNat (take (s0.length:Int).toNat s0)) true
 else none
 else none
 else
 qpI s0 ([]:LU) false
 else none
def qbU (value0:LU):=(z109 value0 ([(39:UInt8)]:LU))
def qQi (_n:Nat) (value0:LU):OA :=
 bif ((qgY value0 ([(39:UInt8)]:LU))&&true) then bif ((qbU value0).2.2) then bif ((qgY ((qbU value0).2.1) ([(39:UInt8)]:LU))&&true) then bif ((z109 ((qbU value0).2.1) ([(39:UInt8)]:LU)).2.2) then bif ((qaH ((qbU value0).1))&&true) then bif ((qaH ((z109 ((qbU value0).2.1) ([(39:UInt8)]:LU)).2.1))&&true) then qpI (z20 ((qbU value0).1)) (z20 ((z109 ((qbU value0).2.1) ([(39:UInt8)]:LU)).2.1)) true else none else none else bif ((qaH value0)&&true) then qpI ([]:LU) (z20 value0) false else none else none else bif ((qaH value0)&&true) then qpI ([]:LU) (z20 value0) false else none else none
def qyT (s11:LU):OA:=some (.tup [(.tup []),.bad,.bad,(.pbox (.osl 5 .byte) s11 none)])
def qyU (_n:Nat) (c0:UInt8) (_x1:Bool) (x2:LU):OA :=
 bif (decide (x2.length+length ([c0]:LU)≤room)) then
 qyT (x2++([c0]:LU))
 else none
def qHg (_n:Nat) (c0:UInt8):OA :=
 bif (z35 (z30 c0) (8:Int)) then
 qrL (wrap .i64 ((toNat ((z30 c0) - (48:UInt8)):Nat):Int)) true
 else
 bif (decide ((97:UInt8)≤(z30 c0))) then
 bif (decide ((z30 c0)≤(102:UInt8))) then
 qrL (wrap .i64 ((wrap .i64 ((toNat ((z30 c0) - (97:UInt8)):Nat):Int))+(10:Int))) true
 else
 qrL (0:Int) false
 else
 qrL (0:Int) false
def qll (s4:UInt8) (s5:Bool):OA:=some (.tup [(dm s4),(dg s5)])
def qHh (_n:Nat) (a0:UInt8) (b1:UInt8):OA :=
 bif (!((z183 a0).2)) then
 qll (0:UInt8) false
 else
 bif (!((z183 b1).2)) then
 qll (0:UInt8) false
 else
 qll (ofNat (wrap .u8 (bits .or .i64 (wrap .i64 (((z183 a0).1)*2 ^ (min (4:Int).toNat (IntKind.bits .i64)))) ((z183 b1).1))).toNat) true
def qiE (s0:LU) (at1:Int):=(z176 (s0.getD (wrap .i64 (at1+1)).toNat (0:UInt8)) (s0.getD (wrap .i64 (at1+(2:Int))).toNat (0:UInt8)))
def qHi (_n:Nat) (s0:LU) (at1:Int) (sign2:UInt8):OA :=
 bif (decide (at1 < (0:Int))) then qll (0:UInt8) false else bif (decide ((wrap .i64 ((s0.length:Int) - (3:Int))) < at1)) then qll (0:UInt8) false else bif ((decide (0≤at1))&&(decide (at1 < s0.length))) then bif ((s0.getD at1.toNat (0:UInt8)) != sign2) then qll (0:UInt8) false else bif ((decide (0≤(wrap .i64 (at1+1))))&&(decide ((wrap .i64 (at1+1)) < s0.length))) then bif ((decide (0≤(wrap .i64 (at1+(2:Int)))))&&(decide ((wrap .i64 (at1+(2:Int))) < s0.length))) then qll ((qiE s0 at1).1) ((qiE s0 at1).2) else none else none else none
def qcl (s33:LU):OA:=some (.tup [(.tup []),.bad,(.pbox (.osl 5 .byte) s33 none)])
def qcK (k0:LU→OA) (next:LU→Int→LU→OA) (_n:Nat) (s0:LU) (at4:Int) (s33:LU):OA :=
 bif (decide (at4 < (s0.length:Int))) then
 bif ((qsY s0 at4 (37:UInt8))&&true) then
 bif (!((z166 s0 at4 (37:UInt8)).2)) then
 bif ((decide (0≤at4))&&(decide (at4 < s0.length))) then
 bif (qnX (s0.getD at4.toNat (0:UInt8)) false s33) then
 next s0 (wrap .i64 (at4+1)) (z145 (s0.getD at4.toNat (0:UInt8)) false s33)
 else none
 else none
 else
 bif (qnX ((z166 s0 at4 (37:UInt8)).1) true s33) then
 next s0 (wrap .i64 ((wrap .i64 (at4+(2:Int)))+1)) (z145 ((z166 s0 at4 (37:UInt8)).1) true s33)
 else none
 else none
 else
 k0 s33
def qcm (k0:LU→OA):Nat→LU→Int→LU→OA
 | 0=>fun _ _ _=>none
 | n+1=>qcK k0 (qcm k0 n) n
def qes (_n:Nat) (s33:LU):OA :=
 qcl s33
def qiF (n:Nat) (s0:LU) (f1:LU):OA :=
 qcm (qes n) n s0 (0:Int) f1
def qyW (_n:Nat) (s0:LU):OA :=
 bif (qcy s0 ([]:LU)) then
 qpG (qAU s0 ([]:LU))
 else none
def qQj (_n:Nat) (p0:LU×(Int×(Bool×(LU×Unit)))):OA :=
 bif p0.2.2.1 then
 bif ((qtt p0.2.2.2.1)&&true) then
 qpG (z110 p0.2.2.2.1)
 else none
 else
 qpG p0.2.2.2.1
def qpJ (s13:LI):OA:=some (.tup [(.tup []),.bad,.bad,(.pbox (.osl 21 (.int .i32)) s13 none)])
def qyX (_n:Nat) (c0:Int) (e1:Int) (x2:LI):OA :=
 bif (e1 != (0:Int)) then
 bif (decide (x2.length+length ([(65533:Int)]:LI)≤room)) then
 qpJ (x2++([(65533:Int)]:LI))
 else none
 else
 bif (decide (x2.length+length ([c0]:LI)≤room)) then
 qpJ (x2++([c0]:LI))
 else none
def qHj (_n:Nat) (n0:Int):OA :=
 bif (n0==(2:Int)) then
 qrK (192:UInt8)
 else
 bif (n0==(3:Int)) then
 qrK (224:UInt8)
 else
 bif (n0==(4:Int)) then
 qrK (240:UInt8)
 else
 qrK (0:UInt8)
def qHk (_n:Nat) (c0:UInt8):OA :=
 bif (decide (c0 < (128:UInt8))) then
 qyD (1:Int)
 else
 bif (decide (c0 < (194:UInt8))) then
 qyD (0:Int)
 else
 bif (decide ((244:UInt8) < c0)) then
 qyD (0:Int)
 else
 bif (decide (c0 < (224:UInt8))) then
 qyD (2:Int)
 else
 bif (decide (c0 < (240:UInt8))) then
 qyD (3:Int)
 else
 qyD (4:Int)
def qHl (_n:Nat) (c0:UInt8):OA :=
 qga ((c0 &&& ~~~ (63:UInt8))==(128:UInt8))
def qHm (_n:Nat) (first0:UInt8) (c1:UInt8):OA :=
 bif (first0==(224:UInt8)) then
 bif (decide ((160:UInt8)≤c1)) then
 qga (z177 c1)
 else
 qga false
 else
 bif (first0==(237:UInt8)) then
 bif (decide (c1 < (160:UInt8))) then
 qga (z177 c1)
 else
 qga false
 else
 bif (first0==(240:UInt8)) then
 bif (decide ((144:UInt8)≤c1)) then
 qga (z177 c1)
 else
 qga false
 else
 bif (first0==(244:UInt8)) then
 bif (decide (c1 < (144:UInt8))) then
 qga (z177 c1)
 else
 qga false
 else
 qga (z177 c1)
def qbV (ret:Int→OA) (k0:LU→Int→OA) (next:LU→Int→OA) (_n:Nat) (s0:LU) (n3:Int):OA :=
 bif ((decide (0≤(0:Int)))&&(decide ((0:Int) < s0.length))) then
 bif (decide (n3 < (z168 (s0.getD (0:Int).toNat (0:UInt8))))) then
 bif (decide (n3 < (s0.length:Int))) then
 bif ((decide (0≤n3))&&(decide (n3 < s0.length))) then
 bif (!(z177 (s0.getD n3.toNat (0:UInt8)))) then
 ret n3
 else
 bif (n3==(1:Int)) then
 bif ((decide (0≤(0:Int)))&&(decide ((0:Int) < s0.length))) then
 bif ((decide (0≤(1:Int)))&&(decide ((1:Int) < s0.length))) then
 bif (!(z178 (s0.getD (0:Int).toNat (0:UInt8)) (s0.getD (1:Int).toNat (0:UInt8)))) then
 ret n3
 else
 next s0 (wrap .i64 (n3+1))
 else none
 else none
 else
 next s0 (wrap .i64 (n3+1))
 else none
 else
 k0 s0 n3
 else
 k0 s0 n3
 else none
def qiH (ret:Int→OA) (k0:LU→Int→OA):Nat→LU→Int→OA
 | 0=>fun _ _=>none
 | n+1=>qbV ret k0 (qiH ret k0 n) n
def qaP (_n:Nat) (s0:LU) (n3:Int):OA :=
 bif ((decide (0≤(0:Int)))&&(decide ((0:Int) < s0.length))) then
 qyD (bif (decide ((z168 (s0.getD (0:Int).toNat (0:UInt8))) < n3)) then (z168 (s0.getD (0:Int).toNat (0:UInt8))) else n3)
 else none
def qrW (n:Nat) (s0:LU):OA :=
 qiH qyD (qaP n) n s0 (1:Int)
def qcL (s2:Int) (s3:Int) (s4:Int):OA:=some (.tup [(di s2 none),(dc s3),(dc s4)])
def qcn (k1:Int→Int→OA) (next:Int→Int→LU→Int→Int→OA) (_n:Nat) (n5:Int) (c6:Int) (s48:LU) (s49:Int) (s50:Int):OA :=
 bif (decide (s50 < s49)) then
 bif ((decide (0≤s50))&&(decide (s50 < s48.length))) then
 next n5 (bits .or .i32 (wrap .i32 (c6*2 ^ (min (6:Int).toNat (IntKind.bits .i32)))) (wrap .i32 ((toNat ((s48.getD s50.toNat (0:UInt8)) &&& (63:UInt8)):Nat):Int))) s48 s49 (wrap .i64 (s50+1))
 else none
 else
 k1 n5 c6
def qeu (k1:Int→Int→OA):Nat→Int→Int→LU→Int→Int→OA
 | 0=>fun _ _ _ _ _=>none
 | n+1=>qcn k1 (qeu k1 n) n
def qfk (_n:Nat) (n5:Int) (c6:Int):OA :=
 qcL c6 n5 (0:Int)
def qbJ (s0:LU):=((decide (0≤(0:Int)))&&(decide ((0:Int) < s0.length)))
def qco (s0:LU):=(drop (1:Int).toNat (take (z167 s0).toNat s0))
def qdq (s0:LU):=(decide ((z167 s0) < (z168 (s0.getD (0:Int).toNat (0:UInt8)))))
def qfl (s0:LU):=(((decide (0≤(1:Int)))&&(decide ((1:Int)≤(z167 s0))))&&(decide ((z167 s0)≤(s0.length:Int))))
def qfm (s0:LU):=(wrap .i32 ((toNat ((s0.getD (0:Int).toNat (0:UInt8)) &&& ~~~ (z157 (z167 s0))):Nat):Int))
def qrX (n:Nat) (s0:LU):OA :=
 bif ((s0.length:Int)==(0:Int)) then qcL (0:Int) (0:Int) (4:Int) else bif ((qko s0)&&true) then bif ((z167 s0)==(0:Int)) then qcL (0:Int) (1:Int) (3:Int) else bif (qbJ s0) then bif (qdq s0) then bif ((z167 s0)==(s0.length:Int)) then qcL (0:Int) (z167 s0) (4:Int) else bif (qbJ s0) then bif (qdq s0) then qcL (0:Int) (z167 s0) (3:Int) else bif (qbJ s0) then bif (qfl s0) then qeu (qfk n) n (z167 s0) (qfm s0) (qco s0) ((qco s0).length:Int) (0:Int) else none else none else none else bif (qbJ s0) then bif (qdq s0) then qcL (0:Int) (z167 s0) (3:Int) else bif (qbJ s0) then bif (qfl s0) then qeu (qfk n) n (z167 s0) (qfm s0) (qco s0) ((qco s0).length:Int) (0:Int) else none else none else none else none else none
def qbb (s24:LI):OA:=some (.tup [(.tup []),.bad,(.pbox (.osl 21 (.int .i32)) s24 none)])
def qcM (k0:LI→OA) (next:LU→LI→OA) (_n:Nat) (s0:LU) (s24:LI):OA :=
 bif (decide ((0:Int) < (s0.length:Int))) then
 bif ((qtj s0)&&true) then
 bif (qto ((z149 s0).1) ((z149 s0).2.2) s24) then
 bif (((decide (0≤((z149 s0).2.1)))&&(decide (((z149 s0).2.1)≤(s0.length:Int))))&&(decide ((s0.length:Int)≤(s0.length:Int)))) then
 next (drop ((z149 s0).2.1).toNat (take (s0.length:Int).toNat s0)) (z116 ((z149 s0).1) ((z149 s0).2.2) s24)
 else none
 else none
 else none
 else
 k0 s24
def qbK (k0:LI→OA):Nat→LU→LI→OA
 | 0=>fun _ _=>none
 | n+1=>qcM k0 (qbK k0 n) n
def qcN (_n:Nat) (s24:LI):OA :=
 qbb s24
def qiI (n:Nat) (s0:LU) (f1:LI):OA :=
 qbK (qcN n) n s0 f1
def qHn (s2:LI):OA:=some (.dat (.sl (.int .i32)) s2 none)
def qKB (_n:Nat) (s0:LU):OA :=
 bif (qcx s0 ([]:LI)) then
 qHn (qAO s0 ([]:LI))
 else none
def qpK (s2:LI):OA:=some (.dat (.sl (.int .i32)) s2 (some (2,21)))
def qdI (k0:LI→OA) (next:LI→LU→Int→Int→OA) (_n:Nat) (t3:LI) (s9:LU) (s10:Int) (s11:Int):OA :=
 bif (decide (s11 < s10)) then
 bif ((decide (0≤s11))&&(decide (s11 < s9.length))) then
 bif ((decide (0≤s11))&&(decide (s11 < t3.length))) then
 next (set t3 s11.toNat (wrap .i32 ((toNat (s9.getD s11.toNat (0:UInt8)):Nat):Int))) s9 s10 (wrap .i64 (s11+1))
 else none
 else none
 else
 k0 t3
def qjJ (k0:LI→OA):Nat→LI→LU→Int→Int→OA
 | 0=>fun _ _ _ _=>none
 | n+1=>qdI k0 (qjJ k0 n) n
def qlm (_n:Nat) (t3:LI):OA :=
 qpK t3
def qrY (n:Nat) (s0:LU):OA :=
 bif (((decide (0≤(s0.length:Int)))&&(decide ((s0.length:Int)≤(s0.length:Int))))&&(decide ((s0.length:Int)≤(room:Int)))) then
 qjJ (qlm n) n (replicate (s0.length:Int).toNat 0) s0 (s0.length:Int) (0:Int)
 else none
def qpL (s2:Int):OA:=some (di s2 none)
def qHo (_n:Nat) (c0:Int):OA :=
 bif (decide ((128:Int)≤c0)) then
 qpL (65533:Int)
 else
 qpL c0
def qdJ (k0:LI→OA) (next:LI→Int→Int→OA) (_n:Nat) (t3:LI) (s10:Int) (s11:Int):OA :=
 bif (decide (s11 < s10)) then
 bif ((decide (0≤s11))&&(decide (s11 < t3.length))) then
 bif ((decide (0≤s11))&&(decide (s11 < t3.length))) then
 next (set t3 s11.toNat (z146 (t3.getD s11.toNat 0))) s10 (wrap .i64 (s11+1))
 else none
 else none
 else
 k0 t3
def qjK (k0:LI→OA):Nat→LI→Int→Int→OA
 | 0=>fun _ _ _=>none
 | n+1=>qdJ k0 (qjK k0 n) n
def qln (_n:Nat) (t3:LI):OA :=
 qpK t3
def qrZ (n:Nat) (s0:LU):OA :=
 bif ((qkp s0)&&true) then
 qjK (qln n) n (z114 s0) ((z114 s0).length:Int) (0:Int)
 else none
def qyZ (s0:List (UInt8×(Int×Unit))):OA:=some (.dat (.arr 8 (.pair .byte (.pair (.int .i32) .unit))) s0 none)
def qQk (_n:Nat):OA :=
 qyZ ([((164:UInt8),((8364:Int),())),((166:UInt8),((352:Int),())),((168:UInt8),((353:Int),())),((180:UInt8),((381:Int),())),((184:UInt8),((382:Int),())),((188:UInt8),((338:Int),())),((189:UInt8),((339:Int),())),((190:UInt8),((376:Int),()))]:List (UInt8×(Int×Unit)))
def qsa (ret:Int→OA) (k0:UInt8→OA) (next:UInt8→List (UInt8×(Int×Unit))→Int→OA) (_n:Nat) (x0:UInt8) (s5:List (UInt8×(Int×Unit))) (s6:Int):OA :=
 bif (decide (s6 < (8:Int))) then
 bif ((decide (0≤s6))&&(decide (s6 < (8:Nat)))) then
 bif ((s5.getD s6.toNat ((0:UInt8),((0:Int),()))).1==x0) then
 ret (s5.getD s6.toNat ((0:UInt8),((0:Int),()))).2.1
 else
 next x0 s5 (wrap .i64 (s6+1))
 else none
 else
 k0 x0
def qng (ret:Int→OA) (k0:UInt8→OA):Nat→UInt8→List (UInt8×(Int×Unit))→Int→OA
 | 0=>fun _ _ _=>none
 | n+1=>qsa ret k0 (qng ret k0 n) n
def qsb (_n:Nat) (x0:UInt8):OA :=
 qpL (wrap .i32 ((toNat x0:Nat):Int))
def qsc (n:Nat) (x0:UInt8):OA :=
 qng qpL (qsb n) n x0 z158 (0:Int)
def qdK (k0:LI→OA) (next:LI→LU→Int→Int→OA) (_n:Nat) (t3:LI) (s6:LU) (s7:Int) (s8:Int):OA :=
 bif (decide (s8 < s7)) then
 bif ((decide (0≤s8))&&(decide (s8 < s6.length))) then
 bif (decide (t3.length+length ([(z147 (s6.getD s8.toNat (0:UInt8)))]:LI)≤room)) then
 next (t3++([(z147 (s6.getD s8.toNat (0:UInt8)))]:LI)) s6 s7 (wrap .i64 (s8+1))
 else none
 else none
 else
 k0 t3
def qjL (k0:LI→OA):Nat→LI→LU→Int→Int→OA
 | 0=>fun _ _ _ _=>none
 | n+1=>qdK k0 (qjL k0 n) n
def qhz (_n:Nat) (t3:LI):OA :=
 qpK t3
def qsd (n:Nat) (s0:LU):OA :=
 qjL (qhz n) n ([]:LI) s0 (s0.length:Int) (0:Int)
def qHp (_n:Nat):OA :=
 qHn (drop 0 (take 32 ([(8364:Int),(0:Int),(8218:Int),(402:Int),(8222:Int),(8230:Int),(8224:Int),(8225:Int),(710:Int),(8240:Int),(352:Int),(8249:Int),(338:Int),(0:Int),(381:Int),(0:Int),(0:Int),(8216:Int),(8217:Int),(8220:Int),(8221:Int),(8226:Int),(8211:Int),(8212:Int),(732:Int),(8482:Int),(353:Int),(8250:Int),(339:Int),(0:Int),(382:Int),(376:Int)]:LI)))
def qdr (x0:UInt8):=((toNat (x0 - (128:UInt8)):Nat):Int)
def qHq (_n:Nat) (x0:UInt8):OA :=
 bif (decide (x0 < (128:UInt8))) then qpL (wrap .i32 ((toNat x0:Nat):Int)) else bif (decide ((160:UInt8)≤x0)) then qpL (wrap .i32 ((toNat x0:Nat):Int)) else bif ((decide (0≤(qdr x0)))&&(decide ((qdr x0) < z159.length))) then bif ((z159.getD (qdr x0).toNat 0) != (0:Int)) then qpL (z159.getD (qdr x0).toNat 0) else qpL (65533:Int) else none
def qdL (k0:LI→OA) (next:LI→LU→Int→Int→OA) (_n:Nat) (t3:LI) (s9:LU) (s10:Int) (s11:Int):OA :=
 bif (decide (s11 < s10)) then
 bif ((decide (0≤s11))&&(decide (s11 < s9.length))) then
 bif (decide (t3.length+length ([(z148 (s9.getD s11.toNat (0:UInt8)))]:LI)≤room)) then
 next (t3++([(z148 (s9.getD s11.toNat (0:UInt8)))]:LI)) s9 s10 (wrap .i64 (s11+1))
 else none
 else none
 else
 k0 t3
def qjM (k0:LI→OA):Nat→LI→LU→Int→Int→OA
 | 0=>fun _ _ _ _=>none
 | n+1=>qdL k0 (qjM k0 n) n
def qhA (_n:Nat) (t3:LI):OA :=
 qpK t3
def qse (n:Nat) (s0:LU):OA :=
 bif (((decide (0≤(0:Int)))&&(decide (0≤(s0.length:Int))))&&(decide ((s0.length:Int)≤(room:Int)))) then
 qjM (qhA n) n (replicate (0:Int).toNat 0) s0 (s0.length:Int) (0:Int)
 else none
def qQl (_n:Nat) (charset0:Int) (s1:LU):OA :=
 bif (charset0==(1:Int)) then
 bif ((qtm s1)&&true) then
 qHn (z111 s1)
 else none
 else
 bif (charset0==(3:Int)) then
 bif ((qtk s1)&&true) then
 qHn (z112 s1)
 else none
 else
 bif (charset0==(4:Int)) then
 bif ((qtl s1)&&true) then
 qHn (z113 s1)
 else none
 else
 bif (charset0==(5:Int)) then
 bif ((quQ s1)&&true) then
 qHn (z85 s1)
 else none
 else
 bif ((qkp s1)&&true) then
 qHn (z114 s1)
 else none
def qbL:=(([]:LU),((0:Int),(false,(([]:LU),()))))
def qdM (k0:LU×(Int×(Bool×(LU×Unit)))→Int→LU→OA) (next:LU×(Int×(Bool×(LU×Unit)))→Int→LU→List (LU×(Int×(Bool×(LU×Unit))))→Int→Int→OA) (_n:Nat) (first3:LU×(Int×(Bool×(LU×Unit)))) (charset4:Int) (s10:LU) (s42:List (LU×(Int×(Bool×(LU×Unit))))) (s43:Int) (s44:Int):OA :=
 bif (decide (s44 < s43)) then bif ((decide (0≤s44))&&(decide (s44 < s42.length))) then bif ((qjw (s42.getD s44.toNat (qbL)))&&true) then bif (decide (s10.length+length (z83 (s42.getD s44.toNat (qbL)))≤room)) then next first3 charset4 (s10++(z83 (s42.getD s44.toNat (qbL)))) s42 s43 (wrap .i64 (s44+1)) else none else none else none else k0 first3 charset4 s10
def qef (k0:LU×(Int×(Bool×(LU×Unit)))→Int→LU→OA):Nat→LU×(Int×(Bool×(LU×Unit)))→Int→LU→List (LU×(Int×(Bool×(LU×Unit))))→Int→Int→OA
 | 0=>fun _ _ _ _ _ _=>none
 | n+1=>qdM k0 (qef k0 n) n
def qaQ (_n:Nat) (first3:LU×(Int×(Bool×(LU×Unit)))) (charset4:Int) (s10:LU):OA :=
 bif first3.2.2.1 then
 bif ((qGf charset4 s10)&&true) then
 qHn (z84 charset4 s10)
 else none
 else
 bif ((quQ s10)&&true) then
 qHn (z85 s10)
 else none
def qU (l0:List (LU×(Int×(Bool×(LU×Unit))))):=(l0.getD (0:Int).toNat (([]:LU),((0:Int),(false,(([]:LU),())))))
def qal (l0:List (LU×(Int×(Bool×(LU×Unit))))):=((qU l0).1,((qU l0).2.1,((qU l0).2.2.1,(((z81 (qU l0).2.2.2.1).2.1),(qU l0).2.2.2.2))))
def qbl (l0:List (LU×(Int×(Bool×(LU×Unit))))):=(drop (1:Int).toNat (take (l0.length:Int).toNat l0))
def qdN (l0:List (LU×(Int×(Bool×(LU×Unit))))):=(((decide (0≤(1:Int)))&&(decide ((1:Int)≤(l0.length:Int))))&&(decide ((l0.length:Int)≤(l0.length:Int))))
def qDZ (n:Nat) (l0:List (LU×(Int×(Bool×(LU×Unit))))):OA :=
 bif ((decide (0≤(0:Int)))&&(decide ((0:Int) < l0.length))) then bif (qU l0).2.2.1 then bif ((qGv (qU l0).2.2.2.1)&&true) then bif ((qGi ((z81 (qU l0).2.2.2.1).1))&&true) then bif ((z81 (qU l0).2.2.2.1).2.2) then bif (((z29 ((z81 (qU l0).2.2.2.1).1)).2)==(0:Int)) then bif ((qjw (qal l0))&&true) then bif ((qqB (z83 (qal l0)))&&true) then bif (qdN l0) then qef (qaQ n) n (qal l0) ((z29 ((z81 (qU l0).2.2.2.1).1)).1) (z82 (z83 (qal l0))) (qbl l0) ((qbl l0).length:Int) (0:Int) else none else none else none else bif ((qjw (qal l0))&&true) then bif ((qqB (z83 (qal l0)))&&true) then bif (qdN l0) then qef (qaQ n) n (qal l0) (2:Int) (z82 (z83 (qal l0))) (qbl l0) ((qbl l0).length:Int) (0:Int) else none else none else none else bif ((qjw (qal l0))&&true) then bif ((qqB (z83 (qal l0)))&&true) then bif (qdN l0) then qef (qaQ n) n (qal l0) (2:Int) (z82 (z83 (qal l0))) (qbl l0) ((qbl l0).length:Int) (0:Int) else none else none else none else none else none else bif ((qjw (qU l0))&&true) then bif ((qqB (z83 (qU l0)))&&true) then bif (qdN l0) then qef (qaQ n) n (qU l0) (2:Int) (z82 (z83 (qU l0))) (qbl l0) ((qbl l0).length:Int) (0:Int) else none else none else none else none
def qjO (s2:List (LU×(LI×Unit))):OA:=some (.dat (.sl (.pair (.sl .byte) (.pair (.sl (.int .i32)) .unit))) s2 (some (2,51)))
def qdO (k2:List (LU×(Int×(Bool×(LU×Unit))))→List (LU×(LI×Unit))→List (LU×Bool)→LU→List (LU×(Int×(Bool×(LU×Unit))))→List (LU×(Int×(Bool×(LU×Unit))))→Int→Int→OA) (next:List (LU×(Int×(Bool×(LU×Unit))))→List (LU×(LI×Unit))→List (LU×Bool)→LU→List (LU×(Int×(Bool×(LU×Unit))))→List (LU×(Int×(Bool×(LU×Unit))))→Int→Int→LI→Int→Int→OA) (_n:Nat) (l0:List (LU×(Int×(Bool×(LU×Unit))))) (out3:List (LU×(LI×Unit))) (met4:List (LU×Bool)) (name7:LU) (of9:List (LU×(Int×(Bool×(LU×Unit))))) (s13:List (LU×(Int×(Bool×(LU×Unit))))) (s14:Int) (s15:Int) (s37:LI) (s38:Int) (s39:Int):OA :=
 bif (decide (s39 < s38)) then
 bif ((decide (0≤s39))&&(decide (s39 < s37.length))) then
 bif ((decide (0≤(s37.getD s39.toNat 0)))&&(decide ((s37.getD s39.toNat 0) < l0.length))) then
 bif (decide (of9.length+length ([(l0.getD (s37.getD s39.toNat 0).toNat (([]:LU),((0:Int),(false,(([]:LU),())))))]:List (LU×(Int×(Bool×(LU×Unit)))))≤room)) then
 next l0 out3 met4 name7 (of9++([(l0.getD (s37.getD s39.toNat 0).toNat (([]:LU),((0:Int),(false,(([]:LU),())))))]:List (LU×(Int×(Bool×(LU×Unit)))))) s13 s14 s15 s37 s38 (wrap .i64 (s39+1))
 else none
 else none
 else none
 else
 k2 l0 out3 met4 name7 of9 s13 s14 s15
def qjP (k2:List (LU×(Int×(Bool×(LU×Unit))))→List (LU×(LI×Unit))→List (LU×Bool)→LU→List (LU×(Int×(Bool×(LU×Unit))))→List (LU×(Int×(Bool×(LU×Unit))))→Int→Int→OA):Nat→List (LU×(Int×(Bool×(LU×Unit))))→List (LU×(LI×Unit))→List (LU×Bool)→LU→List (LU×(Int×(Bool×(LU×Unit))))→List (LU×(Int×(Bool×(LU×Unit))))→Int→Int→LI→Int→Int→OA
 | 0=>fun _ _ _ _ _ _ _ _ _ _ _=>none
 | n+1=>qdO k2 (qjP k2 n) n
def qhB (_k0:List (LU×(LI×Unit))→OA) (next:List (LU×(Int×(Bool×(LU×Unit))))→List (LU×(LI×Unit))→List (LU×Bool)→List (LU×(Int×(Bool×(LU×Unit))))→Int→Int→OA) (_n:Nat) (l0:List (LU×(Int×(Bool×(LU×Unit))))) (out3:List (LU×(LI×Unit))) (met4:List (LU×Bool)) (name7:LU) (of9:List (LU×(Int×(Bool×(LU×Unit))))) (s13:List (LU×(Int×(Bool×(LU×Unit))))) (s14:Int) (s15:Int):OA :=
 bif ((quV of9)&&true) then
 bif (decide (out3.length+length ([(name7,((z57 of9),()))]:List (LU×(LI×Unit)))≤room)) then
 next l0 (out3++([(name7,((z57 of9),()))]:List (LU×(LI×Unit)))) met4 s13 s14 (wrap .i64 (s15+1))
 else none
 else none
def qae (s13:List (LU×(Int×(Bool×(LU×Unit))))) (s15:Int):=(z37 (s13.getD s15.toNat (([]:LU),((0:Int),(false,(([]:LU),()))))).1)
def qev (k0:List (LU×(LI×Unit))→OA) (next:List (LU×(Int×(Bool×(LU×Unit))))→List (LU×(LI×Unit))→List (LU×Bool)→List (LU×(Int×(Bool×(LU×Unit))))→Int→Int→OA) (n:Nat) (l0:List (LU×(Int×(Bool×(LU×Unit))))) (out3:List (LU×(LI×Unit))) (met4:List (LU×Bool)) (s13:List (LU×(Int×(Bool×(LU×Unit))))) (s14:Int) (s15:Int):OA :=
 bif (decide (s15 < s14)) then bif ((decide (0≤s15))&&(decide (s15 < s13.length))) then bif ((qeE (s13.getD s15.toNat (([]:LU),((0:Int),(false,(([]:LU),()))))).1)&&true) then bif ((quU l0 (qae s13 s15))&&true) then bif (Option.getD (@findM .str .bool (qae s13 s15) met4) false) then next l0 out3 met4 s13 s14 (wrap .i64 (s15+1)) else bif (((z56 l0 (qae s13 s15)).length:Int)==(0:Int)) then next l0 out3 met4 s13 s14 (wrap .i64 (s15+1)) else qjP (qhB k0 next n) n l0 out3 (@putM .str .bool (qae s13 s15) true met4) (qae s13 s15) ([]:List (LU×(Int×(Bool×(LU×Unit))))) s13 s14 s15 (z56 l0 (qae s13 s15)) ((z56 l0 (qae s13 s15)).length:Int) (0:Int) else none else none else none else k0 out3
def qpN (k0:List (LU×(LI×Unit))→OA):Nat→List (LU×(Int×(Bool×(LU×Unit))))→List (LU×(LI×Unit))→List (LU×Bool)→List (LU×(Int×(Bool×(LU×Unit))))→Int→Int→OA
 | 0=>fun _ _ _ _ _ _=>none
 | n+1=>qev k0 (qpN k0 n) n
def qiK (_n:Nat) (out3:List (LU×(LI×Unit))):OA :=
 qjO out3
def qKC (n:Nat) (l0:List (LU×(Int×(Bool×(LU×Unit))))):OA :=
 qpN (qiK n) n l0 ([]:List (LU×(LI×Unit))) ([]:List (LU×Bool)) l0 (l0.length:Int) (0:Int)
def qM (s19:LU) (s21:Int):=(s19.getD s21.toNat (0:UInt8))
def qaB (ret:LU→Int→Int→OA) (k0:OA) (next:LU→Bool→LU→Int→Int→OA) (_n:Nat) (out5:LU) (taken6:Bool) (s19:LU) (s20:Int) (s21:Int):OA :=
 bif (decide (s21 < s20)) then bif ((decide (0≤s21))&&(decide (s21 < s19.length))) then bif taken6 then bif (decide (out5.length+length ([(qM s19 s21)]:LU)≤room)) then next (out5++([(qM s19 s21)]:LU)) false s19 s20 (wrap .i64 (s21+1)) else none else bif ((qM s19 s21)==(34:UInt8)) then ret out5 (wrap .i64 (s21+(2:Int))) (0:Int) else bif ((qM s19 s21)==(92:UInt8)) then next out5 true s19 s20 (wrap .i64 (s21+1)) else bif (decide (out5.length+length ([(qM s19 s21)]:LU)≤room)) then next (out5++([(qM s19 s21)]:LU)) taken6 s19 s20 (wrap .i64 (s21+1)) else none else none else k0
def qgQ (ret:LU→Int→Int→OA) (k0:OA):Nat→LU→Bool→LU→Int→Int→OA
 | 0=>fun _ _ _ _ _=>none
 | n+1=>qaB ret k0 (qgQ ret k0 n) n
def qhC (_n:Nat):OA :=
 qrM ([]:LU) (0:Int) (4:Int)
def qsf (n:Nat) (s0:LU):OA :=
 bif ((s0.length:Int)==(0:Int)) then
 qrM ([]:LU) (0:Int) (3:Int)
 else
 bif ((decide (0≤(0:Int)))&&(decide ((0:Int) < s0.length))) then
 bif ((s0.getD (0:Int).toNat (0:UInt8)) != (34:UInt8)) then
 qrM ([]:LU) (0:Int) (3:Int)
 else
 bif (((decide (0≤(1:Int)))&&(decide ((1:Int)≤(s0.length:Int))))&&(decide ((s0.length:Int)≤(s0.length:Int)))) then
 qgQ qrM (qhC n) n ([]:LU) false (drop (1:Int).toNat (take (s0.length:Int).toNat s0)) ((drop (1:Int).toNat (take (s0.length:Int).toNat s0)).length:Int) (0:Int)
 else none
 else none
def qQm (_n:Nat) (s0:LU):OA :=
 bif ((decide (0≤(0:Int)))&&(decide ((0:Int) < s0.length))) then
 bif ((s0.getD (0:Int).toNat (0:UInt8))==(34:UInt8)) then
 bif ((qkq s0)&&true) then
 bif (((z117 s0).2.2) != (0:Int)) then
 qyD (s0.length:Int)
 else
 qyD ((z117 s0).2.1)
 else none
 else
 bif ((s0.getD (0:Int).toNat (0:UInt8))==(40:UInt8)) then
 bif ((qdy s0 (0:Int))&&true) then
 qyD (z22 s0 (0:Int))
 else none
 else
 qyD (1:Int)
 else none
def qzd (s2:List LU):OA:=some (.dat (.sl (.sl .byte)) s2 (some (2,22)))
def qlo (k0:LU→List LU→OA) (next:LU→List LU→Int→OA) (_n:Nat) (s0:LU) (l3:List LU) (at4:Int):OA :=
 bif (decide (at4 < (s0.length:Int))) then
 bif ((decide (0≤at4))&&(decide (at4 < s0.length))) then
 bif ((s0.getD at4.toNat (0:UInt8)) != (59:UInt8)) then
 bif (((decide (0≤at4))&&(decide (at4≤(s0.length:Int))))&&(decide ((s0.length:Int)≤(s0.length:Int)))) then
 bif ((quT (drop at4.toNat (take (s0.length:Int).toNat s0)))&&true) then
 next s0 l3 (wrap .i64 (at4+(z86 (drop at4.toNat (take (s0.length:Int).toNat s0)))))
 else none
 else none
 else
 bif (((decide (0≤((0:Nat):Int)))&&(decide (((0:Nat):Int)≤at4)))&&(decide (at4≤(s0.length:Int)))) then
 bif ((qaH (drop ((0:Nat):Int).toNat (take at4.toNat s0)))&&true) then
 bif (decide (l3.length+length ([(z20 (drop ((0:Nat):Int).toNat (take at4.toNat s0)))]:List LU)≤room)) then
 bif (((decide (0≤(wrap .i64 (at4+1))))&&(decide ((wrap .i64 (at4+1))≤(s0.length:Int))))&&(decide ((s0.length:Int)≤(s0.length:Int)))) then
 next (drop (wrap .i64 (at4+1)).toNat (take (s0.length:Int).toNat s0)) (l3++([(z20 (drop ((0:Nat):Int).toNat (take at4.toNat s0)))]:List LU)) (0:Int)
 else none
 else none
 else none
 else none
 else none
 else
 k0 s0 l3
def qpO (k0:LU→List LU→OA):Nat→LU→List LU→Int→OA
 | 0=>fun _ _ _=>none
 | n+1=>qlo k0 (qpO k0 n) n
def qiL (_n:Nat) (s0:LU) (l3:List LU):OA :=
 bif ((qaH s0)&&true) then
 bif (decide (l3.length+length ([(z20 s0)]:List LU)≤room)) then
 qzd (l3++([(z20 s0)]:List LU))
 else none
 else none
def qKD (n:Nat) (s0:LU):OA :=
 qpO (qiL n) n s0 ([]:List LU) (0:Int)
def qdP (s0:LU) (at1:Int):=(drop (z33 s0 at1).toNat (take (s0.length:Int).toNat s0))
def qQn (_n:Nat) (s0:LU) (at1:Int):OA :=
 bif ((z33 s0 at1)==(s0.length:Int)) then bif ((qjv s0 (z33 s0 at1))&&true) then qrM ((z36 s0 (z33 s0 at1)).1) ((z36 s0 (z33 s0 at1)).2.1) ((z36 s0 (z33 s0 at1)).2.2) else none else bif ((decide (0≤(z33 s0 at1)))&&(decide ((z33 s0 at1) < s0.length))) then bif ((s0.getD (z33 s0 at1).toNat (0:UInt8)) != (34:UInt8)) then bif ((qjv s0 (z33 s0 at1))&&true) then qrM ((z36 s0 (z33 s0 at1)).1) ((z36 s0 (z33 s0 at1)).2.1) ((z36 s0 (z33 s0 at1)).2.2) else none else bif (((decide (0≤(z33 s0 at1)))&&(decide ((z33 s0 at1)≤(s0.length:Int))))&&(decide ((s0.length:Int)≤(s0.length:Int)))) then bif ((qkq (qdP s0 at1))&&true) then bif (((z117 (qdP s0 at1)).2.2) != (0:Int)) then qrM ([]:LU) (0:Int) ((z117 (qdP s0 at1)).2.2) else qrM ((z117 (qdP s0 at1)).1) (wrap .i64 ((z33 s0 at1)+((z117 (qdP s0 at1)).2.1))) (0:Int) else none else none else none
def qQo (_n:Nat) (part0:LU):OA :=
 bif ((qdy part0 (0:Int))&&true) then
 qga ((z22 part0 (0:Int))==(part0.length:Int))
 else none
def qgf (k0:Int→OA) (next:Int→Int→LU→Int→Int→OA) (_n:Nat) (kinds1:Int) (n5:Int) (s8:LU) (s9:Int) (s10:Int):OA :=
 bif (decide (s10 < s9)) then
 bif ((decide (0≤s10))&&(decide (s10 < s8.length))) then
 bif (z35 (s8.getD s10.toNat (0:UInt8)) kinds1) then
 next kinds1 (wrap .i64 (n5+1)) s8 s9 (wrap .i64 (s10+1))
 else
 next kinds1 n5 s8 s9 (wrap .i64 (s10+1))
 else none
 else
 k0 n5
def qnk (k0:Int→OA):Nat→Int→Int→LU→Int→Int→OA
 | 0=>fun _ _ _ _ _=>none
 | n+1=>qgf k0 (qnk k0 n) n
def qpP (_n:Nat) (n5:Int):OA :=
 qyD n5
def qEa (n:Nat) (s0:LU) (kinds1:Int):OA :=
 qnk (qpP n) n kinds1 (0:Int) s0 (s0.length:Int) (0:Int)
def qQp (_n:Nat) (s0:LU) (kinds1:Int):OA :=
 bif ((qGm s0 kinds1)&&true) then
 qga ((z46 s0 kinds1)==(s0.length:Int))
 else none
def qHs (_n:Nat) (s0:LU) (suffix1:LU):OA :=
 bif (decide ((suffix1.length:Int)≤(s0.length:Int))) then
 bif (((decide (0≤(wrap .i64 ((s0.length:Int) - (suffix1.length:Int)))))&&(decide ((wrap .i64 ((s0.length:Int) - (suffix1.length:Int)))≤(s0.length:Int))))&&(decide ((s0.length:Int)≤(s0.length:Int)))) then
 qga (z60 (drop (wrap .i64 ((s0.length:Int) - (suffix1.length:Int))).toNat (take (s0.length:Int).toNat s0)) suffix1)
 else none
 else
 qga false
def qpR (before4:LU) (found5:Bool):OA:=some (.tup [(da before4),(dg found5)])
def qHt (_n:Nat) (s0:LU) (suffix1:LU):OA :=
 bif ((qtn s0 suffix1)&&true) then
 bif (!(z150 s0 suffix1)) then
 qpR s0 false
 else
 bif (((decide (0≤((0:Nat):Int)))&&(decide (((0:Nat):Int)≤(wrap .i64 ((s0.length:Int) - (suffix1.length:Int))))))&&(decide ((wrap .i64 ((s0.length:Int) - (suffix1.length:Int)))≤(s0.length:Int)))) then
 qpR (drop ((0:Nat):Int).toNat (take (wrap .i64 ((s0.length:Int) - (suffix1.length:Int))).toNat s0)) true
 else none
 else none
def qbW (k0:Int→OA) (next:Int→LU→Int→Int→OA) (_n:Nat) (n3:Int) (s30:LU) (s31:Int) (s32:Int):OA :=
 bif (decide (s32 < s31)) then
 bif ((decide (0≤s32))&&(decide (s32 < s30.length))) then
 next (wrap .i64 ((wrap .i64 ((10:Int)*n3))+(wrap .i64 ((toNat ((s30.getD s32.toNat (0:UInt8)) - (48:UInt8)):Nat):Int)))) s30 s31 (wrap .i64 (s32+1))
 else none
 else
 k0 n3
def qgR (k0:Int→OA):Nat→Int→LU→Int→Int→OA
 | 0=>fun _ _ _ _=>none
 | n+1=>qbW k0 (qgR k0 n) n
def qfn (_n:Nat) (n3:Int):OA :=
 qyD n3
def qsg (n:Nat) (s0:LU):OA :=
 bif ((s0.length:Int)==(0:Int)) then
 qyD (-1:Int)
 else
 bif (decide ((3:Int) < (s0.length:Int))) then
 qyD (-1:Int)
 else
 bif ((qju s0 (8:Int))&&true) then
 bif (!(z31 s0 (8:Int))) then
 qyD (-1:Int)
 else
 bif ((decide (0≤(0:Int)))&&(decide ((0:Int) < s0.length))) then
 bif ((s0.getD (0:Int).toNat (0:UInt8))==(48:UInt8)) then
 bif (decide ((1:Int) < (s0.length:Int))) then
 qyD (-1:Int)
 else
 qgR (qfn n) n (0:Int) s0 (s0.length:Int) (0:Int)
 else
 qgR (qfn n) n (0:Int) s0 (s0.length:Int) (0:Int)
 else none
 else none
def qiM (s2:LU) (s3:Int) (s4:Bool):OA:=some (.tup [(da s2),(dc s3),(dg s4)])
def qbm (a0:LU):=(z109 (z37 a0) ([(42:UInt8)]:LU))
def qfo (a0:LU):=(z118 ((qbm a0).2.1) ([(42:UInt8)]:LU))
def qQq (_n:Nat) (a0:LU):OA :=
 bif ((qeE a0)&&true) then bif ((qgY (z37 a0) ([(42:UInt8)]:LU))&&true) then bif (!((qbm a0).2.2)) then qiM (z37 a0) (-1:Int) false else bif ((((qbm a0).1).length:Int)==(0:Int)) then qiM (z37 a0) (-1:Int) false else bif ((qju ((qbm a0).1) (256:Int))&&true) then bif (!(z31 ((qbm a0).1) (256:Int))) then qiM (z37 a0) (-1:Int) false else bif ((((qbm a0).2.1).length:Int)==(0:Int)) then qiM ((qbm a0).1) (-1:Int) true else bif ((qtr ((qbm a0).2.1) ([(42:UInt8)]:LU))&&true) then bif ((qts ((qfo a0).1))&&true) then bif ((z119 ((qfo a0).1))==(-1:Int)) then qiM (z37 a0) (-1:Int) false else qiM ((qbm a0).1) (z119 ((qfo a0).1)) ((qfo a0).2) else none else none else none else none else none
def qjQ (s2:LU×(Int×(Bool×(LU×Unit)))) (s3:Int):OA:=some (.tup [(.dat (.pair (.sl .byte) (.pair (.int .i64) (.pair .bool (.pair (.sl .byte) .unit)))) s2 none),(dc s3)])
def qlp (part0:LU):=(((z89 ((z36 part0 (z22 part0 (0:Int))).1)).1),(([]:LU),((0:Int),(false,(((z87 part0 (z22 part0 ((z24 part0 ((z36 part0 (z22 part0 (0:Int))).2.1) (61:UInt8)).1))).1),())))).2)
def qfp (part0:LU):=(z24 part0 ((z36 part0 (z22 part0 (0:Int))).2.1) (61:UInt8))
def qhD (part0:LU):=((qlp part0).1,(((z89 ((z36 part0 (z22 part0 (0:Int))).1)).2.1),(qlp part0).2.2))
def qfq:=(([]:LU),((0:Int),(false,(([]:LU),()))))
def qdQ (part0:LU):=(z87 part0 (z22 part0 ((qfp part0).1)))
def qQr (_n:Nat) (part0:LU):OA :=
 bif ((qdy part0 (0:Int))&&true) then bif ((qjv part0 (z22 part0 (0:Int)))&&true) then bif (((z36 part0 (z22 part0 (0:Int))).2.2) != (0:Int)) then qjQ (qfq) (3:Int) else bif ((qnW part0 ((z36 part0 (z22 part0 (0:Int))).2.1) (61:UInt8))&&true) then bif (!((qfp part0).2)) then qjQ (qfq) (3:Int) else bif ((qdy part0 ((qfp part0).1))&&true) then bif ((qGp part0 (z22 part0 ((qfp part0).1)))&&true) then bif (((qdQ part0).2.2) != (0:Int)) then qjQ (qfq) (3:Int) else bif (((decide (0≤((qdQ part0).2.1)))&&(decide (((qdQ part0).2.1)≤(part0.length:Int))))&&(decide ((part0.length:Int)≤(part0.length:Int)))) then bif ((qGs (drop ((qdQ part0).2.1).toNat (take (part0.length:Int).toNat part0)))&&true) then bif (!(z88 (drop ((qdQ part0).2.1).toNat (take (part0.length:Int).toNat part0)))) then qjQ (qfq) (3:Int) else bif ((qGr ((z36 part0 (z22 part0 (0:Int))).1))&&true) then qjQ ((qhD part0).1,((qhD part0).2.1,(((z89 ((z36 part0 (z22 part0 (0:Int))).1)).2.2),(qhD part0).2.2.2))) (0:Int) else none else none else none else none else none else none else none else none
def qzg (s2:List (LU×(Int×(Bool×(LU×Unit))))):OA:=some (.dat (.sl (.pair (.sl .byte) (.pair (.int .i64) (.pair .bool (.pair (.sl .byte) .unit))))) s2 (some (2,97)))
def qgg (k0:List (LU×(Int×(Bool×(LU×Unit))))→OA) (next:List (LU×(Int×(Bool×(LU×Unit))))→List LU→Int→Int→OA) (_n:Nat) (l3:List (LU×(Int×(Bool×(LU×Unit))))) (s9:List LU) (s10:Int) (s11:Int):OA :=
 bif (decide (s11 < s10)) then
 bif ((decide (0≤s11))&&(decide (s11 < s9.length))) then
 bif ((qGt (s9.getD s11.toNat ([]:LU)))&&true) then
 bif (((z59 (s9.getD s11.toNat ([]:LU))).2)==(0:Int)) then
 bif (decide (l3.length+length ([((z59 (s9.getD s11.toNat ([]:LU))).1)]:List (LU×(Int×(Bool×(LU×Unit)))))≤room)) then
 next (l3++([((z59 (s9.getD s11.toNat ([]:LU))).1)]:List (LU×(Int×(Bool×(LU×Unit)))))) s9 s10 (wrap .i64 (s11+1))
 else none
 else
 next l3 s9 s10 (wrap .i64 (s11+1))
 else none
 else none
 else
 k0 l3
def quk (k0:List (LU×(Int×(Bool×(LU×Unit))))→OA):Nat→List (LU×(Int×(Bool×(LU×Unit))))→List LU→Int→Int→OA
 | 0=>fun _ _ _ _=>none
 | n+1=>qgg k0 (quk k0 n) n
def qlq (_n:Nat) (l3:List (LU×(Int×(Bool×(LU×Unit))))):OA :=
 qzg l3
def qEb (n:Nat) (s0:LU):OA :=
 bif ((qGq s0)&&true) then
 quk (qlq n) n ([]:List (LU×(Int×(Bool×(LU×Unit))))) (z58 s0) ((z58 s0).length:Int) (0:Int)
 else none
def qQs (_n:Nat) (s0:LU):OA :=
 bif ((qGu s0)&&true) then
 bif ((qqC (z39 s0))&&true) then
 qjO (z38 (z39 s0))
 else none
 else none
def qjR (s2:LU×(LU×((List (LU×(LI×Unit)))×Unit))) (s3:Int):OA:=some (.tup [(.dat (.pair (.sl .byte) (.pair (.sl .byte) (.pair (.sl (.pair (.sl .byte) (.pair (.sl (.int .i32)) .unit))) .unit))) s2 none),(dc s3)])
def qhE:=(([]:LU),(([]:LU),(([]:List (LU×(LI×Unit))),())))
def qdR (s0:LU):=(z24 s0 ((z23 s0).2.1) (59:UInt8))
def qQt (_n:Nat) (s0:LU):OA :=
 bif ((qdy s0 (0:Int))&&true) then bif ((z22 s0 (0:Int))==(s0.length:Int)) then qjR (qhE) (4:Int) else bif ((qFU s0)&&true) then bif (((z23 s0).2.2) != (0:Int)) then qjR (qhE) ((z23 s0).2.2) else bif ((qdy s0 ((z23 s0).2.1))&&true) then bif ((z22 s0 ((z23 s0).2.1))==(s0.length:Int)) then qjR ((z23 s0).1) (0:Int) else bif ((qnW s0 ((z23 s0).2.1) (59:UInt8))&&true) then bif (!((qdR s0).2)) then qjR (qhE) (3:Int) else bif (((decide (0≤((qdR s0).1)))&&(decide (((qdR s0).1)≤(s0.length:Int))))&&(decide ((s0.length:Int)≤(s0.length:Int)))) then bif ((quW (drop ((qdR s0).1).toNat (take (s0.length:Int).toNat s0)))&&true) then qjR (((z23 s0).1).1,(((z23 s0).1).2.1,((z25 (drop ((qdR s0).1).toNat (take (s0.length:Int).toNat s0))),((z23 s0).1).2.2.2))) (0:Int) else none else none else none else none else none else none
def qjS (ret:Bool→OA) (k0:OA) (next:LU→LU→Int→OA) (_n:Nat) (a0:LU) (b1:LU) (i5:Int):OA :=
 bif (decide (i5 < (a0.length:Int))) then
 bif ((decide (0≤i5))&&(decide (i5 < a0.length))) then
 bif ((decide (0≤i5))&&(decide (i5 < b1.length))) then
 bif ((a0.getD i5.toNat (0:UInt8)) != (b1.getD i5.toNat (0:UInt8))) then
 ret false
 else
 next a0 b1 (wrap .i64 (i5+1))
 else none
 else none
 else
 k0
def z7_l4 (ret:Bool→OA) (k0:OA):Nat→LU→LU→Int→OA
 | 0=>fun _ _ _=>none
 | n+1=>qjS ret k0 (z7_l4 ret k0 n) n
def qHv (_n:Nat):OA :=
 qga true
def z7_sh (n:Nat) (a0:LU) (b1:LU):OA :=
 bif ((a0.length:Int) != (b1.length:Int)) then
 qga false
 else
 z7_l4 qga (qHv n) n a0 b1 (0:Int)
def qQu (_n:Nat) (c0:UInt8):OA :=
 bif (decide ((65:UInt8)≤c0)) then
 bif (decide (c0≤(90:UInt8))) then
 qrK (c0+(32:UInt8))
 else
 qrK c0
 else
 qrK c0
def qjT (k0:LU→OA) (next:LU→LU→Int→OA) (_n:Nat) (s0:LU) (out3:LU) (i4:Int):OA :=
 bif (decide (i4 < (s0.length:Int))) then
 bif ((decide (0≤i4))&&(decide (i4 < s0.length))) then
 bif (decide (out3.length+length ([(z17 (s0.getD i4.toNat (0:UInt8)))]:LU)≤room)) then
 next s0 (out3++([(z17 (s0.getD i4.toNat (0:UInt8)))]:LU)) (wrap .i64 (i4+1))
 else none
 else none
 else
 k0 out3
def z8_l3 (k0:LU→OA):Nat→LU→LU→Int→OA
 | 0=>fun _ _ _=>none
 | n+1=>qjT k0 (z8_l3 k0 n) n
def qsi (_n:Nat) (out3:LU):OA :=
 qGY out3
def z8_sh (n:Nat) (s0:LU):OA :=
 z8_l3 (qsi n) n s0 ([]:LU) (0:Int)
def qzh (s2:LU×(LU×((List (LU×(LI×Unit)))×Unit))):OA:=some (.dat (.pair (.sl .byte) (.pair (.sl .byte) (.pair (.sl (.pair (.sl .byte) (.pair (.sl (.int .i32)) .unit))) .unit))) s2 none)
def qgh (k0:LU×(LU×((List (LU×(LI×Unit)))×Unit))→LU×(LU×((List (LU×(LI×Unit)))×Unit))→OA) (next:LU×(LU×((List (LU×(LI×Unit)))×Unit))→LU×(LU×((List (LU×(LI×Unit)))×Unit))→List (LU×(LI×Unit))→Int→Int→OA) (_n:Nat) (s2:LU×(LU×((List (LU×(LI×Unit)))×Unit))) (x3:LU×(LU×((List (LU×(LI×Unit)))×Unit))) (s12:List (LU×(LI×Unit))) (s13:Int) (s14:Int):OA :=
 bif (decide (s14 < s13)) then
 bif ((decide (0≤s14))&&(decide (s14 < s12.length))) then
 bif (decide (length x3.2.2.1+length ([(s12.getD s14.toNat (([]:LU),(([]:LI),())))]:List (LU×(LI×Unit)))≤room)) then
 next s2 (x3.1,(x3.2.1,((x3.2.2.1++([(s12.getD s14.toNat (([]:LU),(([]:LI),())))]:List (LU×(LI×Unit)))),x3.2.2.2))) s12 s13 (wrap .i64 (s14+1))
 else none
 else none
 else
 k0 s2 x3
def qnl (k0:LU×(LU×((List (LU×(LI×Unit)))×Unit))→LU×(LU×((List (LU×(LI×Unit)))×Unit))→OA):Nat→LU×(LU×((List (LU×(LI×Unit)))×Unit))→LU×(LU×((List (LU×(LI×Unit)))×Unit))→List (LU×(LI×Unit))→Int→Int→OA
 | 0=>fun _ _ _ _ _=>none
 | n+1=>qgh k0 (qnl k0 n) n
def qew (_n:Nat) (_s2:LU×(LU×((List (LU×(LI×Unit)))×Unit))) (x3:LU×(LU×((List (LU×(LI×Unit)))×Unit))):OA :=
 qzh x3
def qKE (n:Nat) (t0:LU×(LU×((List (LU×(LI×Unit)))×Unit))):OA :=
 qnl (qew n) n (([]:LU),(([]:LU),(([]:List (LU×(LI×Unit))),()))) (t0.1,(t0.2.1,(([]:List (LU×(LI×Unit))),()))) t0.2.2.1 (t0.2.2.1.length:Int) (0:Int)
def qQw (_n:Nat) (s0:LU):OA :=
 bif (decide ((0:Int) < (s0.length:Int))) then
 bif ((qju s0 (64:Int))&&true) then
 qga (z31 s0 (64:Int))
 else none
 else
 qga false
def qQx (_n:Nat) (name0:LU):OA :=
 bif (decide ((0:Int) < (name0.length:Int))) then
 bif (decide ((name0.length:Int)≤(30:Int))) then
 bif ((qju name0 (256:Int))&&true) then
 qga (z31 name0 (256:Int))
 else none
 else
 qga false
 else
 qga false
def qQy (_n:Nat) (c0:Int):OA :=
 bif (decide (c0 < (32:Int))) then
 qga true
 else
 qga (decide ((126:Int) < c0))
def qHw (_n:Nat) (c0:Int):OA :=
 bif (decide ((55296:Int)≤c0)) then
 qga (decide (c0≤(57343:Int)))
 else
 qga false
def qHx (_n:Nat) (c0:Int):OA :=
 bif (decide ((wrap .u32 c0)≤(1114111:Int))) then
 qga (!(z155 c0))
 else
 qga false
def qQz (_n:Nat) (c0:Int):OA :=
 qga (!(z129 c0))
def qbd (ret:Int→OA) (k0:OA) (next:LI→Int→Int→OA) (_n:Nat) (s0:LI) (s7:Int) (s8:Int):OA :=
 bif (decide (s8 < s7)) then
 bif ((decide (0≤s8))&&(decide (s8 < s0.length))) then
 bif (z128 (s0.getD s8.toNat 0)) then
 ret s8
 else
 next s0 s7 (wrap .i64 (s8+1))
 else none
 else
 k0
def qcq (ret:Int→OA) (k0:OA):Nat→LI→Int→Int→OA
 | 0=>fun _ _ _=>none
 | n+1=>qbd ret k0 (qcq ret k0 n) n
def qex (_n:Nat):OA :=
 qyD (-1:Int)
def qfr (n:Nat) (s0:LI):OA :=
 qcq qyD (qex n) n s0 (s0.length:Int) (0:Int)
def qbe (ret:Int→OA) (k0:OA) (next:LI→Int→Int→OA) (_n:Nat) (s0:LI) (s7:Int) (s8:Int):OA :=
 bif (decide (s8 < s7)) then
 bif ((decide (0≤s8))&&(decide (s8 < s0.length))) then
 bif (z95 (s0.getD s8.toNat 0)) then
 ret s8
 else
 next s0 s7 (wrap .i64 (s8+1))
 else none
 else
 k0
def qcs (ret:Int→OA) (k0:OA):Nat→LI→Int→Int→OA
 | 0=>fun _ _ _=>none
 | n+1=>qbe ret k0 (qcs ret k0 n) n
def qey (_n:Nat):OA :=
 qyD (-1:Int)
def qfs (n:Nat) (s0:LI):OA :=
 qcs qyD (qey n) n s0 (s0.length:Int) (0:Int)
def qQA (_n:Nat) (t0:LI):OA :=
 bif ((qei t0)&&true) then
 qyD (z127 t0)
 else none
def qQB (_n:Nat) (t0:LI):OA :=
 bif ((qGc t0)&&true) then
 qga ((z92 t0)==(-1:Int))
 else none
def qgi (ret:Int→OA) (k0:OA) (next:LI→Int→Int→Int→OA) (_n:Nat) (s0:LI) (v1:Int) (s7:Int) (s8:Int):OA :=
 bif (decide (s8 < s7)) then
 bif ((decide (0≤s8))&&(decide (s8 < s0.length))) then
 bif (v1==(s0.getD s8.toNat 0)) then
 ret s8
 else
 next s0 v1 s7 (wrap .i64 (s8+1))
 else none
 else
 k0
def qum (ret:Int→OA) (k0:OA):Nat→LI→Int→Int→Int→OA
 | 0=>fun _ _ _ _=>none
 | n+1=>qgi ret k0 (qum ret k0 n) n
def qpU (_n:Nat):OA :=
 qyD (-1:Int)
def qEc (n:Nat) (s0:LI) (v1:Int):OA :=
 qum qyD (qpU n) n s0 v1 (s0.length:Int) (0:Int)
def qQC (_n:Nat) (s0:LI) (v1:Int):OA :=
 bif ((quM s0 v1)&&true) then
 qga (decide (0≤(z93 s0 v1)))
 else none
def qQD (_n:Nat) (name0:LU) (t1:LI):OA :=
 bif ((qGz name0)&&true) then
 bif (!(z64 name0)) then
 qyD (13:Int)
 else
 bif ((quN t1)&&true) then
 bif (!(z65 t1)) then
 qyD (7:Int)
 else
 bif ((qGA t1 (0:Int))&&true) then
 bif (z66 t1 (0:Int)) then
 qyD (8:Int)
 else
 qyD (0:Int)
 else none
 else none
 else none
def qQE (_n:Nat) (s0:LI):OA :=
 bif ((qei s0)&&true) then
 qga (decide (0≤(qy s0)))
 else none
def qQF (_n:Nat) (t0:LI):OA :=
 bif ((qGB t0)&&true) then
 qga (!(z94 t0))
 else none
def qQG (_n:Nat) (c0:Int):OA :=
 qga (decide ((wrap .u32 c0) < (256:Int)))
def qgj (ret:Int→OA) (k0:OA) (next:LI→Int→Int→OA) (_n:Nat) (t0:LI) (s5:Int) (s6:Int):OA :=
 bif (decide (s6 < s5)) then
 bif ((decide (0≤s6))&&(decide (s6 < t0.length))) then
 bif (!(z130 (t0.getD s6.toNat 0))) then
 ret s6
 else
 next t0 s5 (wrap .i64 (s6+1))
 else none
 else
 k0
def qun (ret:Int→OA) (k0:OA):Nat→LI→Int→Int→OA
 | 0=>fun _ _ _=>none
 | n+1=>qgj ret k0 (qun ret k0 n) n
def qpV (_n:Nat):OA :=
 qyD (-1:Int)
def qEd (n:Nat) (t0:LI):OA :=
 qun qyD (qpV n) n t0 (t0.length:Int) (0:Int)
def qzm (s2:LU) (s3:Int):OA:=some (.tup [(da s2),(dc s3)])
def qgk (k0:LU→OA) (next:LU→LI→Int→Int→OA) (_n:Nat) (s4:LU) (s13:LI) (s14:Int) (s15:Int):OA :=
 bif (decide (s15 < s14)) then
 bif ((decide (0≤s15))&&(decide (s15 < s13.length))) then
 bif ((decide (0≤s15))&&(decide (s15 < s4.length))) then
 next (set s4 s15.toNat (ofNat (wrap .u8 (s13.getD s15.toNat 0)).toNat)) s13 s14 (wrap .i64 (s15+1))
 else none
 else none
 else
 k0 s4
def qnp (k0:LU→OA):Nat→LU→LI→Int→Int→OA
 | 0=>fun _ _ _ _=>none
 | n+1=>qgk k0 (qnp k0 n) n
def qlr (_n:Nat) (s4:LU):OA :=
 qzm s4 (0:Int)
def qEe (n:Nat) (t0:LI):OA :=
 bif ((qGd t0)&&true) then
 bif ((z96 t0) != (-1:Int)) then
 qzm ([]:LU) (9:Int)
 else
 bif (((decide (0≤(t0.length:Int)))&&(decide ((t0.length:Int)≤(t0.length:Int))))&&(decide ((t0.length:Int)≤(room:Int)))) then
 qnp (qlr n) n (replicate (t0.length:Int).toNat (0:UInt8)) t0 (t0.length:Int) (0:Int)
 else none
 else none
def qaf (s7:LU) (s9:Int):=([(s7.getD s9.toNat (0:UInt8))]:LU)
def qgl (k0:LU→OA) (next:LU→LU→Int→Int→OA) (_n:Nat) (out3:LU) (s7:LU) (s8:Int) (s9:Int):OA :=
 bif (decide (s9 < s8)) then bif ((decide (0≤s9))&&(decide (s9 < s7.length))) then bif ((s7.getD s9.toNat (0:UInt8))==(34:UInt8)) then bif ((s7.getD s9.toNat (0:UInt8))==(34:UInt8)) then bif (decide (out3.length+length ([(92:UInt8)]:LU)≤room)) then bif (decide (length (out3++([(92:UInt8)]:LU))+length (qaf s7 s9)≤room)) then next ((out3++([(92:UInt8)]:LU))++(qaf s7 s9)) s7 s8 (wrap .i64 (s9+1)) else none else none else bif (decide (out3.length+length (qaf s7 s9)≤room)) then next (out3++(qaf s7 s9)) s7 s8 (wrap .i64 (s9+1)) else none else bif ((s7.getD s9.toNat (0:UInt8))==(92:UInt8)) then bif (decide (out3.length+length ([(92:UInt8)]:LU)≤room)) then bif (decide (length (out3++([(92:UInt8)]:LU))+length (qaf s7 s9)≤room)) then next ((out3++([(92:UInt8)]:LU))++(qaf s7 s9)) s7 s8 (wrap .i64 (s9+1)) else none else none else bif (decide (out3.length+length (qaf s7 s9)≤room)) then next (out3++(qaf s7 s9)) s7 s8 (wrap .i64 (s9+1)) else none else none else k0 out3
def qup (k0:LU→OA):Nat→LU→LU→Int→Int→OA
 | 0=>fun _ _ _ _=>none
 | n+1=>qgl k0 (qup k0 n) n
def qiN (_n:Nat) (out3:LU):OA :=
 bif (decide (out3.length+length ([(34:UInt8)]:LU)≤room)) then
 qGY (out3++([(34:UInt8)]:LU))
 else none
def qEf (n:Nat) (s0:LU):OA :=
 qup (qiN n) n ([(34:UInt8)]:LU) s0 (s0.length:Int) (0:Int)
def qQH (_n:Nat) (s0:LU):OA :=
 bif ((qnZ s0)&&true) then
 bif (z19 s0) then
 bif ((qaH s0)&&true) then
 qGY (z20 s0)
 else none
 else
 bif ((qGx s0)&&true) then
 qGY (z97 s0)
 else none
 else none
def qQI (_n:Nat) (name0:LU) (t1:LI):OA :=
 bif ((qGC t1)&&true) then
 bif (!(z67 t1)) then
 qpR ([]:LU) false
 else
 bif ((quO t1)&&true) then
 bif ((qaH name0)&&true) then
 bif (decide (length (z20 name0)+length ([(61:UInt8)]:LU)≤room)) then
 bif ((qGy ((z68 t1).1))&&true) then
 bif (decide (length ((z20 name0)++([(61:UInt8)]:LU))+length (z69 ((z68 t1).1))≤room)) then
 qpR (((z20 name0)++([(61:UInt8)]:LU))++(z69 ((z68 t1).1))) (decide (((((z20 name0)++([(61:UInt8)]:LU))++(z69 ((z68 t1).1))).length:Int)≤(74:Int)))
 else none
 else none
 else none
 else none
 else none
 else none
def qsk (ret:UInt8→Bool→OA) (k0:Int→OA) (next:Int→List (UInt8×(Int×Unit))→Int→OA) (_n:Nat) (c0:Int) (s6:List (UInt8×(Int×Unit))) (s7:Int):OA :=
 bif (decide (s7 < (8:Int))) then
 bif ((decide (0≤s7))&&(decide (s7 < (8:Nat)))) then
 bif (c0==(s6.getD s7.toNat ((0:UInt8),((0:Int),()))).2.1) then
 ret (s6.getD s7.toNat ((0:UInt8),((0:Int),()))).1 true
 else
 bif (c0==(wrap .i32 ((toNat (s6.getD s7.toNat ((0:UInt8),((0:Int),()))).1:Nat):Int))) then
 ret (0:UInt8) false
 else
 next c0 s6 (wrap .i64 (s7+1))
 else none
 else
 k0 c0
def qnq (ret:UInt8→Bool→OA) (k0:Int→OA):Nat→Int→List (UInt8×(Int×Unit))→Int→OA
 | 0=>fun _ _ _=>none
 | n+1=>qsk ret k0 (qnq ret k0 n) n
def qhF (_n:Nat) (c0:Int):OA :=
 bif (decide (c0 < (0:Int))) then
 qll (0:UInt8) false
 else
 bif (decide ((256:Int)≤c0)) then
 qll (0:UInt8) false
 else
 qll (ofNat (wrap .u8 c0).toNat) true
def qzp (n:Nat) (c0:Int):OA :=
 qnq qll (qhF n) n c0 z158 (0:Int)
def qQJ (_n:Nat) (c0:Int):OA :=
 qga ((z137 c0).2)
def qct (c0:Int):=(ofNat (wrap .u8 (wrap .i64 ((128:Int)+(z93 z159 c0)))).toNat)
def qcu (c0:Int):=(decide ((z93 z159 c0) < (0:Int)))
def qcv (c0:Int):=((quM z159 c0)&&true)
def qHE (_n:Nat) (c0:Int):OA :=
 bif (decide (0≤c0)) then bif (decide (c0 < (128:Int))) then bif (decide (c0 < (128:Int))) then qll (ofNat (wrap .u8 c0).toNat) true else bif (decide (c0 < (256:Int))) then qll (0:UInt8) false else bif (qcv c0) then bif (qcu c0) then qll (0:UInt8) false else qll (qct c0) true else none else bif (decide ((160:Int)≤c0)) then bif (decide (c0 < (256:Int))) then qll (ofNat (wrap .u8 c0).toNat) true else bif (decide (c0 < (256:Int))) then qll (0:UInt8) false else bif (qcv c0) then bif (qcu c0) then qll (0:UInt8) false else qll (qct c0) true else none else bif (decide (c0 < (256:Int))) then qll (0:UInt8) false else bif (qcv c0) then bif (qcu c0) then qll (0:UInt8) false else qll (qct c0) true else none else bif (decide ((160:Int)≤c0)) then bif (decide (c0 < (256:Int))) then qll (ofNat (wrap .u8 c0).toNat) true else bif (decide (c0 < (256:Int))) then qll (0:UInt8) false else bif (qcv c0) then bif (qcu c0) then qll (0:UInt8) false else qll (qct c0) true else none else bif (decide (c0 < (256:Int))) then qll (0:UInt8) false else bif (qcv c0) then bif (qcu c0) then qll (0:UInt8) false else qll (qct c0) true else none
def qQK (_n:Nat) (c0:Int):OA :=
 qga ((z139 c0).2)
def qQL (_n:Nat) (charset0:Int) (c1:Int):OA :=
 bif (charset0==(1:Int)) then
 bif (decide (0≤c1)) then
 qga (decide (c1 < (128:Int)))
 else
 qga false
 else
 bif (charset0==(2:Int)) then
 qga (z130 c1)
 else
 bif (charset0==(3:Int)) then
 qga (z131 c1)
 else
 bif (charset0==(4:Int)) then
 qga (z132 c1)
 else
 bif (charset0==(5:Int)) then
 qga (z129 c1)
 else
 qga false
def qgm (k0:Int→OA) (next:Int→Int→Int→OA) (_n:Nat) (c0:Int) (s3:Int) (s5:Int):OA :=
 bif (decide (s5 < (5:Int))) then
 bif (z98 (wrap .i64 (s5+1)) c0) then
 bif (decide (0≤(wrap .i64 (s5+1)))) then
 next c0 (bits .or .i64 s3 (wrap .i64 ((1:Int)*2 ^ (min (wrap .i64 (s5+1)).toNat (IntKind.bits .i64))))) (wrap .i64 (s5+1))
 else none
 else
 next c0 s3 (wrap .i64 (s5+1))
 else
 k0 s3
def qnr (k0:Int→OA):Nat→Int→Int→Int→OA
 | 0=>fun _ _ _=>none
 | n+1=>qgm k0 (qnr k0 n) n
def qiO (_n:Nat) (s3:Int):OA :=
 qyD s3
def qEg (n:Nat) (c0:Int):OA :=
 qnr (qiO n) n c0 (0:Int) (0:Int)
def qQM (_n:Nat) (x0:Int):OA :=
 bif ((qAK x0)&&true) then
 qyD (z134 x0)
 else none
def qQN (_n:Nat) (sets0:Int):OA :=
 bif (sets0==(0:Int)) then
 qyD (0:Int)
 else
 bif ((qFV (wrap .u64 sets0))&&true) then
 qyD (z99 (wrap .u64 sets0))
 else none
def qgn (k0:Int→OA) (next:Int→LI→Int→Int→OA) (_n:Nat) (all4:Int) (s7:LI) (s8:Int) (s9:Int):OA :=
 bif (decide (s9 < s8)) then
 bif ((decide (0≤s9))&&(decide (s9 < s7.length))) then
 next (bits .and .i64 all4 (z70 (s7.getD s9.toNat 0))) s7 s8 (wrap .i64 (s9+1))
 else none
 else
 k0 all4
def quq (k0:Int→OA):Nat→Int→LI→Int→Int→OA
 | 0=>fun _ _ _ _=>none
 | n+1=>qgn k0 (quq k0 n) n
def qiP (_n:Nat) (all4:Int):OA :=
 bif (all4==(0:Int)) then
 qnb (0:Int) (7:Int)
 else
 bif ((qFX all4)&&true) then
 qnb (z71 all4) (0:Int)
 else none
def qEh (n:Nat) (t0:LI):OA :=
 quq (qiP n) n (62:Int) t0 (t0.length:Int) (0:Int)
def qHG (_n:Nat) (charset0:Int):OA :=
 bif (charset0==(1:Int)) then
 qyD (128:Int)
 else
 bif (charset0==(2:Int)) then
 bif (charset0==(2:Int)) then
 qyD (256:Int)
 else
 bif (charset0==(4:Int)) then
 qyD (251:Int)
 else
 bif (charset0==(5:Int)) then
 qyD (1112064:Int)
 else
 qyD (0:Int)
 else
 bif (charset0==(3:Int)) then
 qyD (256:Int)
 else
 bif (charset0==(4:Int)) then
 qyD (251:Int)
 else
 bif (charset0==(5:Int)) then
 qyD (1112064:Int)
 else
 qyD (0:Int)
def qdS (ret:Int→OA) (k0:OA) (next:Int→LI→Int→Int→OA) (_n:Nat) (charset0:Int) (s7:LI) (s8:Int) (s9:Int):OA :=
 bif (decide (s9 < s8)) then
 bif ((decide (0≤s9))&&(decide (s9 < s7.length))) then
 bif (!(z98 charset0 (s7.getD s9.toNat 0))) then
 ret s9
 else
 next charset0 s7 s8 (wrap .i64 (s9+1))
 else none
 else
 k0
def qjU (ret:Int→OA) (k0:OA):Nat→Int→LI→Int→Int→OA
 | 0=>fun _ _ _ _=>none
 | n+1=>qdS ret k0 (qjU ret k0 n) n
def qls (_n:Nat):OA :=
 qyD (-1:Int)
def qsl (n:Nat) (charset0:Int) (t1:LI):OA :=
 qjU qyD (qls n) n charset0 t1 (t1.length:Int) (0:Int)
def qHH (_n:Nat) (charset0:Int) (t1:LI):OA :=
 bif (decide ((0:Int) < (z100 charset0))) then
 bif ((qth charset0 t1)&&true) then
 qga ((z135 charset0 t1)==(-1:Int))
 else none
 else
 qga false
def qHI (_n:Nat) (c0:Int):OA :=
 bif (!(z129 c0)) then
 qyD (0:Int)
 else
 bif (decide (c0 < (128:Int))) then
 qyD (1:Int)
 else
 bif (decide (c0 < (2048:Int))) then
 qyD (2:Int)
 else
 bif (decide (c0 < (65536:Int))) then
 qyD (3:Int)
 else
 qyD (4:Int)
def qiR (c1:Int):=([((z157 (z156 c1)) ||| (ofNat (wrap .u8 (Int.fdiv c1 (2 ^ (min (wrap .i64 ((6:Int)*(wrap .i64 ((z156 c1) - (1:Int))))).toNat (IntKind.bits .i32))))).toNat))]:LU)
def qbM (c1:Int):=([((128:UInt8) ||| ((ofNat (wrap .u8 (Int.fdiv c1 (2 ^ (min (6:Int).toNat (IntKind.bits .i32))))).toNat) &&& (63:UInt8)))]:LU)
def qdv (c1:Int):=([((128:UInt8) ||| ((ofNat (wrap .u8 (Int.fdiv c1 (2 ^ (min (12:Int).toNat (IntKind.bits .i32))))).toNat) &&& (63:UInt8)))]:LU)
def qbN (c1:Int):=([((128:UInt8) ||| ((ofNat (wrap .u8 c1).toNat) &&& (63:UInt8)))]:LU)
def qap (b0:LU) (c1:Int):=((z20 b0)++(qiR c1))
def qHJ (_n:Nat) (b0:LU) (c1:Int):OA :=
 bif ((z156 c1)==(0:Int)) then qzm ([]:LU) (7:Int) else bif (decide (0≤(wrap .i64 ((6:Int)*(wrap .i64 ((z156 c1) - (1:Int))))))) then bif ((qaH b0)&&true) then bif (decide (length (z20 b0)+length (qiR c1)≤room)) then bif ((z156 c1)==(4:Int)) then bif (decide (length (qap b0 c1)+length (qdv c1)≤room)) then bif (decide (length ((qap b0 c1)++(qdv c1))+length (qbM c1)≤room)) then bif (decide (length (((qap b0 c1)++(qdv c1))++(qbM c1))+length (qbN c1)≤room)) then qzm ((((qap b0 c1)++(qdv c1))++(qbM c1))++(qbN c1)) (0:Int) else none else none else none else bif ((z156 c1)==(3:Int)) then bif (decide (length (qap b0 c1)+length (qbM c1)≤room)) then bif (decide (length ((qap b0 c1)++(qbM c1))+length (qbN c1)≤room)) then qzm (((qap b0 c1)++(qbM c1))++(qbN c1)) (0:Int) else none else none else bif ((z156 c1)==(2:Int)) then bif (decide (length (qap b0 c1)+length (qbN c1)≤room)) then qzm ((qap b0 c1)++(qbN c1)) (0:Int) else none else qzm (qap b0 c1) (0:Int) else none else none else none
def qdT (k0:LU→OA) (next:LU→LI→Int→Int→OA) (_n:Nat) (out4:LU) (s12:LI) (s13:Int) (s14:Int):OA :=
 bif (decide (s14 < s13)) then
 bif ((decide (0≤s14))&&(decide (s14 < s12.length))) then
 bif ((qta ([]:LU) (s12.getD s14.toNat 0))&&true) then
 bif (decide (out4.length+length ((z136 ([]:LU) (s12.getD s14.toNat 0)).1)≤room)) then
 next (out4++((z136 ([]:LU) (s12.getD s14.toNat 0)).1)) s12 s13 (wrap .i64 (s14+1))
 else none
 else none
 else none
 else
 k0 out4
def qjV (k0:LU→OA):Nat→LU→LI→Int→Int→OA
 | 0=>fun _ _ _ _=>none
 | n+1=>qdT k0 (qjV k0 n) n
def qhG (_n:Nat) (out4:LU):OA :=
 qzm out4 (0:Int)
def qsm (n:Nat) (t0:LI):OA :=
 bif ((quN t0)&&true) then
 bif (!(z65 t0)) then
 qzm ([]:LU) (7:Int)
 else
 qjV (qhG n) n ([]:LU) t0 (t0.length:Int) (0:Int)
 else none
def qdU (ret:LU→Int→OA) (k0:LU→OA) (next:LU→LI→Int→Int→OA) (_n:Nat) (s4:LU) (s9:LI) (s10:Int) (s11:Int):OA :=
 bif (decide (s11 < s10)) then
 bif ((decide (0≤s11))&&(decide (s11 < s9.length))) then
 bif (!((z137 (s9.getD s11.toNat 0)).2)) then
 ret ([]:LU) (9:Int)
 else
 bif (decide (s4.length+length ([((z137 (s9.getD s11.toNat 0)).1)]:LU)≤room)) then
 next (s4++([((z137 (s9.getD s11.toNat 0)).1)]:LU)) s9 s10 (wrap .i64 (s11+1))
 else none
 else none
 else
 k0 s4
def qjW (ret:LU→Int→OA) (k0:LU→OA):Nat→LU→LI→Int→Int→OA
 | 0=>fun _ _ _ _=>none
 | n+1=>qdU ret k0 (qjW ret k0 n) n
def qhH (_n:Nat) (s4:LU):OA :=
 qzm s4 (0:Int)
def qsn (n:Nat) (t0:LI):OA :=
 qjW qzm (qhH n) n ([]:LU) t0 (t0.length:Int) (0:Int)
def qdV (ret:Int→OA) (k0:OA) (next:LI→Int→Int→OA) (_n:Nat) (s5:LI) (s6:Int) (s7:Int):OA :=
 bif (decide (s7 < s6)) then
 bif ((decide (0≤s7))&&(decide (s7 < s5.length))) then
 bif (!(z132 (s5.getD s7.toNat 0))) then
 ret s7
 else
 next s5 s6 (wrap .i64 (s7+1))
 else none
 else
 k0
def qjX (ret:Int→OA) (k0:OA):Nat→LI→Int→Int→OA
 | 0=>fun _ _ _=>none
 | n+1=>qdV ret k0 (qjX ret k0 n) n
def qlt (_n:Nat):OA :=
 qyD (-1:Int)
def qso (n:Nat) (t0:LI):OA :=
 qjX qyD (qlt n) n t0 (t0.length:Int) (0:Int)
def qdW (k0:LU→OA) (next:LU→LI→Int→Int→OA) (_n:Nat) (s4:LU) (s15:LI) (s16:Int) (s17:Int):OA :=
 bif (decide (s17 < s16)) then
 bif ((decide (0≤s17))&&(decide (s17 < s15.length))) then
 bif (decide (s4.length+length ([((z139 (s15.getD s17.toNat 0)).1)]:LU)≤room)) then
 next (s4++([((z139 (s15.getD s17.toNat 0)).1)]:LU)) s15 s16 (wrap .i64 (s17+1))
 else none
 else none
 else
 k0 s4
def qjY (k0:LU→OA):Nat→LU→LI→Int→Int→OA
 | 0=>fun _ _ _ _=>none
 | n+1=>qdW k0 (qjY k0 n) n
def qhI (_n:Nat) (s4:LU):OA :=
 qzm s4 (0:Int)
def qsp (n:Nat) (t0:LI):OA :=
 bif ((qtb t0)&&true) then
 bif (decide (0≤(z138 t0))) then
 qzm ([]:LU) (9:Int)
 else
 bif (((decide (0≤(0:Int)))&&(decide (0≤(t0.length:Int))))&&(decide ((t0.length:Int)≤(room:Int)))) then
 qjY (qhI n) n (replicate (0:Int).toNat (0:UInt8)) t0 (t0.length:Int) (0:Int)
 else none
 else none
def qQO (_n:Nat) (charset0:Int) (t1:LI):OA :=
 bif ((z100 charset0)==(0:Int)) then
 qzm ([]:LU) (10:Int)
 else
 bif ((qti charset0 t1)&&true) then
 bif (!(z101 charset0 t1)) then
 qzm ([]:LU) (9:Int)
 else
 bif (charset0==(5:Int)) then
 bif ((qte t1)&&true) then
 qzm ((z102 t1).1) ((z102 t1).2)
 else none
 else
 bif (charset0==(3:Int)) then
 bif ((qtc t1)&&true) then
 qzm ((z103 t1).1) ((z103 t1).2)
 else none
 else
 bif (charset0==(4:Int)) then
 bif ((qtd t1)&&true) then
 qzm ((z104 t1).1) ((z104 t1).2)
 else none
 else
 bif ((quO t1)&&true) then
 qzm ((z68 t1).1) ((z68 t1).2)
 else none
 else none
def qHK (_n:Nat) (c0:UInt8):OA :=
 bif (z35 c0 (256:Int)) then
 qyD (1:Int)
 else
 qyD (3:Int)
def qHL (_n:Nat) (n0:Int):OA :=
 bif ((decide (0≤(bits .and .i64 n0 (15:Int))))&&(decide ((bits .and .i64 n0 (15:Int)) < ([48,49,50,51,52,53,54,55,56,57,65,66,67,68,69,70]:LU).length))) then
 qrK (([48,49,50,51,52,53,54,55,56,57,65,66,67,68,69,70]:LU).getD (bits .and .i64 n0 (15:Int)).toNat (0:UInt8))
 else none
def qHM (_n:Nat) (c0:UInt8):OA :=
 bif ((qeh (wrap .i64 ((toNat (ofNat (toNat c0 / 2 ^ (min (4:Int).toNat 8))):Nat):Int)))&&true) then
 bif ((qeh (wrap .i64 ((toNat c0:Nat):Int)))&&true) then
 qGY ([(z160 (wrap .i64 ((toNat (ofNat (toNat c0 / 2 ^ (min (4:Int).toNat 8))):Nat):Int))),(z160 (wrap .i64 ((toNat c0:Nat):Int)))]:LU)
 else none
 else none
def qzx (s6:LU):OA:=some (db s6 (some (6,5)))
def qHN (_n:Nat) (b0:LU) (sign1:UInt8) (c2:UInt8):OA :=
 bif ((qaH b0)&&true) then
 bif (decide (length (z20 b0)+length ([sign1]:LU)≤room)) then
 bif (decide (length ((z20 b0)++([sign1]:LU))+length (z140 c2)≤room)) then
 qzx (((z20 b0)++([sign1]:LU))++(z140 c2))
 else none
 else none
 else none
def qgr (k0:LU→OA) (next:LU→LU→Int→Int→OA) (_n:Nat) (out3:LU) (s6:LU) (s7:Int) (s8:Int):OA :=
 bif (decide (s8 < s7)) then
 bif ((decide (0≤s8))&&(decide (s8 < s6.length))) then
 bif ((z105 (s6.getD s8.toNat (0:UInt8)))==(1:Int)) then
 bif (decide (out3.length+length ([(s6.getD s8.toNat (0:UInt8))]:LU)≤room)) then
 next (out3++([(s6.getD s8.toNat (0:UInt8))]:LU)) s6 s7 (wrap .i64 (s8+1))
 else none
 else
 bif ((qsZ out3 (37:UInt8) (s6.getD s8.toNat (0:UInt8)))&&true) then
 next (z106 out3 (37:UInt8) (s6.getD s8.toNat (0:UInt8))) s6 s7 (wrap .i64 (s8+1))
 else none
 else none
 else
 k0 out3
def qur (k0:LU→OA):Nat→LU→LU→Int→Int→OA
 | 0=>fun _ _ _ _=>none
 | n+1=>qgr k0 (qur k0 n) n
def qlu (_n:Nat) (out3:LU):OA :=
 qGY out3
def qEi (n:Nat) (s0:LU):OA :=
 qur (qlu n) n ([]:LU) s0 (s0.length:Int) (0:Int)
def qHP (s4:List LU):OA:=some (.dat (.sl (.sl .byte)) s4 (some (4,22)))
def qbz (t1:LI) (s11:Int):=(drop s11.toNat (take (wrap .i64 (s11+1)).toNat t1))
def qgs (k0:List LU→OA) (next:Int→LI→List LU→Int→Int→OA) (_n:Nat) (charset0:Int) (t1:LI) (l5:List LU) (s10:Int) (s11:Int):OA :=
 bif (decide (s11 < s10)) then bif (((decide (0≤s11))&&(decide (s11≤(wrap .i64 (s11+1)))))&&(decide ((wrap .i64 (s11+1))≤(t1.length:Int)))) then bif ((qGe charset0 (qbz t1 s11))&&true) then bif ((qGw ((z72 charset0 (qbz t1 s11)).1))&&true) then bif (decide (l5.length+length ([(z73 ((z72 charset0 (qbz t1 s11)).1))]:List LU)≤room)) then next charset0 t1 (l5++([(z73 ((z72 charset0 (qbz t1 s11)).1))]:List LU)) s10 (wrap .i64 (s11+1)) else none else none else none else none else k0 l5
def qus (k0:List LU→OA):Nat→Int→LI→List LU→Int→Int→OA
 | 0=>fun _ _ _ _ _=>none
 | n+1=>qgs k0 (qus k0 n) n
def qlv (_n:Nat) (l5:List LU):OA :=
 qHP l5
def qEj (n:Nat) (charset0:Int) (t1:LI):OA :=
 qus (qlv n) n charset0 t1 ([]:List LU) (t1.length:Int) (0:Int)
def qgt (s2:LU):OA:=some (df s2 none)
def qiU:=([48,48,48,49,48,50,48,51,48,52,48,53,48,54,48,55,48,56,48,57,49,48,49,49,49,50,49,51,49,52,49,53,49,54,49,55,49,56,49,57,50,48,50,49,50,50,50,51,50,52,50,53,50,54,50,55,50,56,50,57,51,48,51,49,51,50,51,51,51,52,51,53,51,54,51,55,51,56,51,57,52,48,52,49,52,50,52,51,52,52,52,53,52,54,52,55,52,56,52,57,53,48,53,49,53,50,53,51,53,52,53,53,53,54,53,55,53,56,53,57,54,48,54,49,54,50,54,51,54,52,54,53,54,54,54,55,54,56,54,57,55,48,55,49,55,50,55,51,55,52,55,53,55,54,55,55,55,56,55,57,56,48,56,49,56,50,56,51,56,52,56,53,56,54,56,55,56,56,56,57,57,48,57,49,57,50,57,51,57,52,57,53,57,54,57,55,57,56,57,57]:LU)
def qiV:=([48,49,50,51,52,53,54,55,56,57,97,98,99,100,101,102,103,104,105,106,107,108,109,110,111,112,113,114,115,116,117,118,119,120,121,122]:LU)
def qft (i0:Int):=(wrap .i64 ((wrap .i64 (i0*(2:Int)))+(2:Int)))
def qjZ (_n:Nat) (i0:Int):OA :=
 bif (decide (i0 < (10:Int))) then bif (((decide (0≤i0))&&(decide (i0≤(wrap .i64 (i0+1)))))&&(decide ((wrap .i64 (i0+1))≤((qiV).length:Int)))) then qgt (drop i0.toNat (take (wrap .i64 (i0+1)).toNat (qiV))) else none else bif (((decide (0≤(wrap .i64 (i0*(2:Int)))))&&(decide ((wrap .i64 (i0*(2:Int)))≤(qft i0))))&&(decide ((qft i0)≤((qiU).length:Int)))) then qgt (drop (wrap .i64 (i0*(2:Int))).toNat (take (qft i0).toNat (qiU))) else none
def qzz (_n:Nat) (dst0:LU) (i1:Int) (base2:Int):OA :=
 bif (base2==(10:Int)) then
 bif (decide (i1 < (100:Int))) then
 bif ((qtu (wrap .i64 i1))&&true) then
 bif (decide (dst0.length+length (z171 (wrap .i64 i1))≤room)) then
 qzx (dst0++(z171 (wrap .i64 i1)))
 else none
 else none
 else
 none
 else
 none
def qzA (_n:Nat) (dst0:LU) (i1:Int) (base2:Int):OA :=
 bif (decide (i1 < (0:Int))) then
 bif (decide (dst0.length+length ([(45:UInt8)]:LU)≤room)) then
 bif (qkr (dst0++([(45:UInt8)]:LU)) (wrap .u64 (0 - (wrap .u64 i1))) base2) then
 qzx (z161 (dst0++([(45:UInt8)]:LU)) (wrap .u64 (0 - (wrap .u64 i1))) base2)
 else none
 else none
 else
 bif (qkr dst0 (wrap .u64 i1) base2) then
 qzx (z161 dst0 (wrap .u64 i1) base2)
 else none
def qzC (_n:Nat) (dst0:LU) (i1:Int) (base2:Int):OA :=
 bif (qob dst0 i1 base2) then
 qzx (z141 dst0 i1 base2)
 else none
def qdX (p0:LU×(Int×(Bool×(LU×Unit)))):=((z20 p0.1)++([(42:UInt8)]:LU))
def qKF (_n:Nat) (p0:LU×(Int×(Bool×(LU×Unit)))):OA :=
 bif ((qaH p0.1)&&true) then bif (decide (0≤p0.2.1)) then bif (decide (length (z20 p0.1)+length ([(42:UInt8)]:LU)≤room)) then bif (qoc (qdX p0) p0.2.1 (10:Int)) then bif p0.2.2.1 then bif (decide (length (z107 (qdX p0) p0.2.1 (10:Int))+length ([(42:UInt8)]:LU)≤room)) then qGY ((z107 (qdX p0) p0.2.1 (10:Int))++([(42:UInt8)]:LU)) else none else qGY (z107 (qdX p0) p0.2.1 (10:Int)) else none else none else bif p0.2.2.1 then bif (decide (length (z20 p0.1)+length ([(42:UInt8)]:LU)≤room)) then qGY (qdX p0) else none else qGY (z20 p0.1) else none
def qQP (_n:Nat) (charset0:Int):OA :=
 bif (((z61 charset0).length:Int)==(0:Int)) then
 qgt ([]:LU)
 else
 bif ((decide (0≤(0:Int)))&&(decide ((0:Int) < (z61 charset0).length))) then
 qgt ((z61 charset0).getD (0:Int).toNat ([]:LU))
 else none
def qfu (name0:LU) (n1:Int):=((z74 (name0,(n1,(true,(([]:LU),())))))++([(61:UInt8)]:LU))
def qQQ (_n:Nat) (name0:LU) (n1:Int) (charset2:Int):OA :=
 bif ((qAW (name0,(n1,(true,(([]:LU),())))))&&true) then bif (decide (length (z74 (name0,(n1,(true,(([]:LU),())))))+length ([(61:UInt8)]:LU)≤room)) then bif (decide ((0:Int) < n1)) then qzx (qfu name0 n1) else bif (decide (length (qfu name0 n1)+length (z75 charset2)≤room)) then bif (decide (length ((qfu name0 n1)++(z75 charset2))+length ([39,39]:LU)≤room)) then qzx (((qfu name0 n1)++(z75 charset2))++([39,39]:LU)) else none else none else none else none
def qsq (s30:Bool) (s31:LU) (s32:List LU) (s33:LU) (s34:Int):OA:=some (.tup [(.tup []),.bad,(.pbox (.leaf .bool) s30 none),(.pbox (.osl 5 .byte) s31 none),(.pbox (.psl 22 (.osl 5 .byte)) s32 none),(.pbox (.leaf (.sl .byte)) s33 none),(.pbox (.leaf (.int .i64)) s34 none)])
def qKG (_n:Nat) (u0:LU) (x1:Bool) (x2:LU) (x3:List LU) (x4:LU) (x5:Int):OA :=
 bif (!x1) then
 bif (decide ((74:Int) < (wrap .i64 ((x2.length:Int)+(u0.length:Int))))) then
 bif (decide (x3.length+length ([x2]:List LU)≤room)) then
 bif ((qhh x4 ((x3++([x2]:List LU)).length:Int) x5)&&true) then
 bif (decide (length (z51 x4 ((x3++([x2]:List LU)).length:Int) x5)+u0.length≤room)) then
 qsq false ((z51 x4 ((x3++([x2]:List LU)).length:Int) x5)++u0) (x3++([x2]:List LU)) x4 x5
 else none
 else none
 else none
 else
 bif (decide (x2.length+u0.length≤room)) then
 qsq false (x2++u0) x3 x4 x5
 else none
 else
 bif (decide (x2.length+u0.length≤room)) then
 qsq false (x2++u0) x3 x4 x5
 else none
def qHQ (s6:List LU):OA:=some (.dat (.sl (.sl .byte)) s6 none)
def qaF (s17:List LU) (s19:Int):=(s17.getD s19.toNat ([]:LU))
def qgu (k0:List LU→LU→OA) (next:LU→Int→List LU→LU→Bool→List LU→Int→Int→OA) (_n:Nat) (name3:LU) (charset4:Int) (out7:List LU) (now8:LU) (empty9:Bool) (s17:List LU) (s18:Int) (s19:Int):OA :=
 bif (decide (s19 < s18)) then bif ((decide (0≤s19))&&(decide (s19 < s17.length))) then bif (quZ (qaF s17 s19) empty9 now8 out7 name3 charset4) then next ((z77 (qaF s17 s19) empty9 now8 out7 name3 charset4).2.2.2.1) ((z77 (qaF s17 s19) empty9 now8 out7 name3 charset4).2.2.2.2) ((z77 (qaF s17 s19) empty9 now8 out7 name3 charset4).2.2.1) ((z77 (qaF s17 s19) empty9 now8 out7 name3 charset4).2.1) ((z77 (qaF s17 s19) empty9 now8 out7 name3 charset4).1) s17 s18 (wrap .i64 (s19+1)) else none else none else k0 out7 now8
def qut (k0:List LU→LU→OA):Nat→LU→Int→List LU→LU→Bool→List LU→Int→Int→OA
 | 0=>fun _ _ _ _ _ _ _ _=>none
 | n+1=>qgu k0 (qut k0 n) n
def qlw (_n:Nat) (out7:List LU) (now8:LU):OA :=
 bif (decide (out7.length+length ([now8]:List LU)≤room)) then
 qHQ (out7++([now8]:List LU))
 else none
def qEk (n:Nat) (name0:LU) (charset1:Int) (l2:List LU):OA :=
 bif ((qhh name0 (0:Int) charset1)&&true) then
 qut (qlw n) n name0 charset1 ([]:List LU) (z51 name0 (0:Int) charset1) true l2 (l2.length:Int) (0:Int)
 else none
def qka (s4:List LU) (s5:Int):OA:=some (.tup [(.dat (.sl (.sl .byte)) s4 none),(dc s5)])
def qhJ (t1:LI):=(z52 (z50 ((z49 t1).1) t1) ([]:LU))
def qQR (_n:Nat) (name0:LU) (t1:LI):OA :=
 bif ((quX name0 t1)&&true) then bif ((z47 name0 t1) != (0:Int)) then qka ([]:List LU) (z47 name0 t1) else bif ((quY name0 t1)&&true) then bif ((z48 name0 t1).2) then qka ([((z48 name0 t1).1)]:List LU) (0:Int) else bif ((qFY t1)&&true) then bif (((z49 t1).2) != (0:Int)) then qka ([]:List LU) ((z49 t1).2) else bif ((qGD ((z49 t1).1) t1)&&true) then bif ((qhh name0 (-1:Int) ((z49 t1).1))&&true) then bif ((quL (z50 ((z49 t1).1) t1) ([]:LU))&&true) then bif (decide (length (z51 name0 (-1:Int) ((z49 t1).1))+length (qhJ t1)≤room)) then bif (decide ((((z51 name0 (-1:Int) ((z49 t1).1))++(qhJ t1)).length:Int)≤(74:Int))) then qka ([((z51 name0 (-1:Int) ((z49 t1).1))++(qhJ t1))]:List LU) (0:Int) else bif ((qva name0 ((z49 t1).1) (z50 ((z49 t1).1) t1))&&true) then qka (z53 name0 ((z49 t1).1) (z50 ((z49 t1).1) t1)) (0:Int) else none else none else none else none else none else none else none else none
def qgv (k0:Int→LU→OA) (next:Int→LU→List LU→Int→Int→OA) (_n:Nat) (e7:Int) (out8:LU) (s17:List LU) (s18:Int) (s19:Int):OA :=
 bif (decide (s19 < s18)) then
 bif ((decide (0≤s19))&&(decide (s19 < s17.length))) then
 bif (decide (out8.length+length ([59,13,10,32]:LU)≤room)) then
 bif (decide (length (out8++([59,13,10,32]:LU))+length (s17.getD s19.toNat ([]:LU))≤room)) then
 next e7 ((out8++([59,13,10,32]:LU))++(s17.getD s19.toNat ([]:LU))) s17 s18 (wrap .i64 (s19+1))
 else none
 else none
 else none
 else
 k0 e7 out8
def quu (k0:Int→LU→OA):Nat→Int→LU→List LU→Int→Int→OA
 | 0=>fun _ _ _ _ _=>none
 | n+1=>qgv k0 (quu k0 n) n
def qlx (_n:Nat) (e7:Int) (out8:LU):OA :=
 qzm out8 e7
def qEl (n:Nat) (name0:LU) (t1:LI):OA :=
 bif ((qGE name0 t1)&&true) then
 quu (qlx n) n ((z32 name0 t1).2) ([]:LU) ((z32 name0 t1).1) (((z32 name0 t1).1).length:Int) (0:Int)
 else none
def qbA (s28:List (LU×(LI×Unit))) (s30:Int):=(s28.getD s30.toNat (([]:LU),(([]:LI),())))
def qbB (s28:List (LU×(LI×Unit))) (s30:Int):=(z21 (qbA s28 s30).1 (qbA s28 s30).2.1)
def qgw (ret:LU→Int→OA) (k0:LU→OA) (next:LU→List (LU×(LI×Unit))→Int→Int→OA) (_n:Nat) (out4:LU) (s28:List (LU×(LI×Unit))) (s29:Int) (s30:Int):OA :=
 bif (decide (s30 < s29)) then bif ((decide (0≤s30))&&(decide (s30 < s28.length))) then bif ((qGF (qbA s28 s30).1 (qbA s28 s30).2.1)&&true) then bif (((qbB s28 s30).2) != (0:Int)) then ret ([]:LU) ((qbB s28 s30).2) else bif (decide (out4.length+length ((qbB s28 s30).1)≤room)) then next (out4++((qbB s28 s30).1)) s28 s29 (wrap .i64 (s30+1)) else none else none else none else k0 out4
def qnt (ret:LU→Int→OA) (k0:LU→OA):Nat→LU→List (LU×(LI×Unit))→Int→Int→OA
 | 0=>fun _ _ _ _=>none
 | n+1=>qgw ret k0 (qnt ret k0 n) n
def qez (_n:Nat) (out4:LU):OA :=
 qzm out4 (0:Int)
def qhK (n:Nat) (t0:LU×(LU×((List (LU×(LI×Unit)))×Unit))):=( bif ((qaH t0.1)&&true) then bif (decide (length (z20 t0.1)+length ([(47:UInt8)]:LU)≤room)) then bif (decide (length ((z20 t0.1)++([(47:UInt8)]:LU))+length t0.2.1≤room)) then qnt qzm (qez n) n (((z20 t0.1)++([(47:UInt8)]:LU))++t0.2.1) t0.2.2.1 (t0.2.2.1.length:Int) (0:Int) else none else none else none)
def qEm (n:Nat) (t0:LU×(LU×((List (LU×(LI×Unit)))×Unit))):OA :=
 bif ((qnZ t0.1)&&true) then bif (!(z19 t0.1)) then qzm ([]:LU) (13:Int) else bif ((qnZ t0.2.1)&&true) then bif (!(z19 t0.2.1)) then qzm ([]:LU) (13:Int) else both (qhK n t0) (qhK n t0) else none else none
def qgx (ret:Bool→OA) (k0:OA) (next:LI→LI→Int→OA) (_n:Nat) (a0:LI) (b1:LI) (i5:Int):OA :=
 bif (decide (i5 < (a0.length:Int))) then
 bif ((decide (0≤i5))&&(decide (i5 < a0.length))) then
 bif ((decide (0≤i5))&&(decide (i5 < b1.length))) then
 bif ((a0.getD i5.toNat 0) != (b1.getD i5.toNat 0)) then
 ret false
 else
 next a0 b1 (wrap .i64 (i5+1))
 else none
 else none
 else
 k0
def qnu (ret:Bool→OA) (k0:OA):Nat→LI→LI→Int→OA
 | 0=>fun _ _ _=>none
 | n+1=>qgx ret k0 (qnu ret k0 n) n
def qzF (_n:Nat):OA :=
 qga true
def qEn (n:Nat) (a0:LI) (b1:LI):OA :=
 bif ((a0.length:Int) != (b1.length:Int)) then
 qga false
 else
 qnu qga (qzF n) n a0 b1 (0:Int)
def qag:=(([]:LU),(([]:LI),()))
def qgy (ret:Bool→OA) (k0:OA) (next:LU×(LU×((List (LU×(LI×Unit)))×Unit))→LU×(LU×((List (LU×(LI×Unit)))×Unit))→Int→Int→OA) (_n:Nat) (a2:LU×(LU×((List (LU×(LI×Unit)))×Unit))) (b3:LU×(LU×((List (LU×(LI×Unit)))×Unit))) (s31:Int) (s32:Int):OA :=
 bif (decide (s32 < s31)) then bif ((decide (0≤s32))&&(decide (s32 < a2.2.2.1.length))) then bif ((decide (0≤s32))&&(decide (s32 < b3.2.2.1.length))) then bif ((z7_ok (a2.2.2.1.getD s32.toNat (qag)).1 (b3.2.2.1.getD s32.toNat (qag)).1)&&true) then bif (!(z7 (a2.2.2.1.getD s32.toNat (qag)).1 (b3.2.2.1.getD s32.toNat (qag)).1)) then ret false else bif ((decide (0≤s32))&&(decide (s32 < a2.2.2.1.length))) then bif ((decide (0≤s32))&&(decide (s32 < b3.2.2.1.length))) then bif ((qGj (a2.2.2.1.getD s32.toNat (qag)).2.1 (b3.2.2.1.getD s32.toNat (qag)).2.1)&&true) then bif (!(z26 (a2.2.2.1.getD s32.toNat (qag)).2.1 (b3.2.2.1.getD s32.toNat (qag)).2.1)) then ret false else next a2 b3 s31 (wrap .i64 (s32+1)) else none else none else none else none else none else none else k0
def qnv (ret:Bool→OA) (k0:OA):Nat→LU×(LU×((List (LU×(LI×Unit)))×Unit))→LU×(LU×((List (LU×(LI×Unit)))×Unit))→Int→Int→OA
 | 0=>fun _ _ _ _=>none
 | n+1=>qgy ret k0 (qnv ret k0 n) n
def qeA (_n:Nat):OA :=
 qga true
def qEo (n:Nat) (a0:LU×(LU×((List (LU×(LI×Unit)))×Unit))) (b1:LU×(LU×((List (LU×(LI×Unit)))×Unit))):OA :=
 bif ((z7_ok a0.1 b1.1)&&true) then
 bif (!(z7 a0.1 b1.1)) then
 qga false
 else
 bif ((z7_ok a0.2.1 b1.2.1)&&true) then
 bif (!(z7 a0.2.1 b1.2.1)) then
 qga false
 else
 bif ((a0.2.2.1.length:Int) != (b1.2.2.1.length:Int)) then
 qga false
 else
 qnv qga (qeA n) n a0 b1 (a0.2.2.1.length:Int) (0:Int)
 else none
 else none
def qaG (t1:LU×(LU×((List (LU×(LI×Unit)))×Unit))) (s44:Int):=(t1.2.2.1.getD s44.toNat (([]:LU),(([]:LI),())))
def qgz (ret:Bool→OA) (k2:LU×(LU×((List (LU×(LI×Unit)))×Unit))→LU→LU×(LU×((List (LU×(LI×Unit)))×Unit))→LU×(LI×Unit)→List (LU×(LI×Unit))→Int→Int→OA) (next:LU×(LU×((List (LU×(LI×Unit)))×Unit))→LU→LU×(LU×((List (LU×(LI×Unit)))×Unit))→LU×(LI×Unit)→List (LU×(LI×Unit))→Int→Int→Int→Int→OA) (_n:Nat) (t1:LU×(LU×((List (LU×(LI×Unit)))×Unit))) (s3:LU) (want5:LU×(LU×((List (LU×(LI×Unit)))×Unit))) (p7:LU×(LI×Unit)) (s36:List (LU×(LI×Unit))) (s37:Int) (s38:Int) (s43:Int) (s44:Int):OA :=
 bif (decide (s44 < s43)) then bif ((decide (0≤s44))&&(decide (s44 < t1.2.2.1.length))) then both ( bif ((z8_ok (qaG t1 s44).1)&&true) then bif ((z8_ok p7.1)&&true) then bif ((z7_ok (z8 (qaG t1 s44).1) (z8 p7.1))&&true) then bif (z7 (z8 (qaG t1 s44).1) (z8 p7.1)) then ret z6 else next t1 s3 want5 p7 s36 s37 s38 s43 (wrap .i64 (s44+1)) else none else none else none) ( bif ((z8_ok (qaG t1 s44).1)&&true) then bif ((z8_ok p7.1)&&true) then bif ((z7_ok (z8 (qaG t1 s44).1) (z8 p7.1))&&true) then bif (z7 (z8 (qaG t1 s44).1) (z8 p7.1)) then ret z6 else next t1 s3 want5 p7 s36 s37 s38 s43 (wrap .i64 (s44+1)) else none else none else none) else none else k2 t1 s3 want5 p7 s36 s37 s38
def qnw (ret:Bool→OA) (k2:LU×(LU×((List (LU×(LI×Unit)))×Unit))→LU→LU×(LU×((List (LU×(LI×Unit)))×Unit))→LU×(LI×Unit)→List (LU×(LI×Unit))→Int→Int→OA):Nat→LU×(LU×((List (LU×(LI×Unit)))×Unit))→LU→LU×(LU×((List (LU×(LI×Unit)))×Unit))→LU×(LI×Unit)→List (LU×(LI×Unit))→Int→Int→Int→Int→OA
 | 0=>fun _ _ _ _ _ _ _ _ _=>none
 | n+1=>qgz ret k2 (qnw ret k2 n) n
def qbf (p7:LU×(LI×Unit)):=([((z8 p7.1),(p7.2.1,()))]:List (LU×(LI×Unit)))
def qqb (_ret:Bool→OA) (_k0:LU→LU×(LU×((List (LU×(LI×Unit)))×Unit))→OA) (next:LU×(LU×((List (LU×(LI×Unit)))×Unit))→LU→LU×(LU×((List (LU×(LI×Unit)))×Unit))→List (LU×(LI×Unit))→Int→Int→OA) (_n:Nat) (t1:LU×(LU×((List (LU×(LI×Unit)))×Unit))) (s3:LU) (want5:LU×(LU×((List (LU×(LI×Unit)))×Unit))) (p7:LU×(LI×Unit)) (s36:List (LU×(LI×Unit))) (s37:Int) (s38:Int):OA :=
 both ( both ( bif ((z8_ok p7.1)&&true) then bif (decide (length want5.2.2.1+length (qbf p7)≤room)) then next t1 s3 (want5.1,(want5.2.1,((want5.2.2.1++(qbf p7)),want5.2.2.2))) s36 s37 (wrap .i64 (s38+1)) else none else none) ( bif ((z8_ok p7.1)&&true) then bif (decide (length want5.2.2.1+length (qbf p7)≤room)) then next t1 s3 (want5.1,(want5.2.1,((want5.2.2.1++(qbf p7)),want5.2.2.2))) s36 s37 (wrap .i64 (s38+1)) else none else none)) ( bif ((z8_ok p7.1)&&true) then bif (decide (length want5.2.2.1+length (qbf p7)≤room)) then next t1 s3 (want5.1,(want5.2.1,((want5.2.2.1++(qbf p7)),want5.2.2.2))) s36 s37 (wrap .i64 (s38+1)) else none else none)
def qiW (ret:Bool→OA) (k0:LU→LU×(LU×((List (LU×(LI×Unit)))×Unit))→OA) (next:LU×(LU×((List (LU×(LI×Unit)))×Unit))→LU→LU×(LU×((List (LU×(LI×Unit)))×Unit))→List (LU×(LI×Unit))→Int→Int→OA) (n:Nat) (t1:LU×(LU×((List (LU×(LI×Unit)))×Unit))) (s3:LU) (want5:LU×(LU×((List (LU×(LI×Unit)))×Unit))) (s36:List (LU×(LI×Unit))) (s37:Int) (s38:Int):OA :=
 bif (decide (s38 < s37)) then
 bif ((decide (0≤s38))&&(decide (s38 < s36.length))) then
 qnw ret (qqb ret k0 next n) n t1 s3 want5 (s36.getD s38.toNat (([]:LU),(([]:LI),()))) s36 s37 s38 s38 (0:Int)
 else none
 else
 k0 s3 want5
def z4_l8 (ret:Bool→OA) (k0:LU→LU×(LU×((List (LU×(LI×Unit)))×Unit))→OA):Nat→LU×(LU×((List (LU×(LI×Unit)))×Unit))→LU→LU×(LU×((List (LU×(LI×Unit)))×Unit))→List (LU×(LI×Unit))→Int→Int→OA
 | 0=>fun _ _ _ _ _ _=>none
 | n+1=>qiW ret k0 (z4_l8 ret k0 n) n
def qiX (_n:Nat) (s3:LU) (want5:LU×(LU×((List (LU×(LI×Unit)))×Unit))):OA :=
 bif ((qqA s3)&&true) then
 bif ((quK ((z12 s3).1) want5)&&true) then
 bif (z13 ((z12 s3).1) want5) then
 bif (((z12 s3).2)==(0:Int)) then
 qga z6
 else
 qga false
 else
 qga false
 else none
 else none
def qgA (t0:LU×(LU×((List (LU×(LI×Unit)))×Unit))):=((z8 t0.1),((z8 t0.2.1),(([]:List (LU×(LI×Unit))),())))
def z4_sh (n:Nat) (t0:LU×(LU×((List (LU×(LI×Unit)))×Unit))):OA :=
 bif (z5 t0) then qga z6 else bif ((qFT t0)&&true) then bif ((quJ (z10 t0))&&true) then bif (((z11 (z10 t0)).2) != (0:Int)) then bif ((((z11 (z10 t0)).1).length:Int)==(0:Int)) then qga z6 else qga false else both ( bif ((z8_ok t0.1)&&true) then both ( bif ((z8_ok t0.2.1)&&true) then both ( z4_l8 qga (qiX n) n t0 ((z11 (z10 t0)).1) (qgA t0) t0.2.2.1 (t0.2.2.1.length:Int) (0:Int)) ( z4_l8 qga (qiX n) n t0 ((z11 (z10 t0)).1) (qgA t0) t0.2.2.1 (t0.2.2.1.length:Int) (0:Int)) else none) ( bif ((z8_ok t0.2.1)&&true) then z4_l8 qga (qiX n) n t0 ((z11 (z10 t0)).1) (qgA t0) t0.2.2.1 (t0.2.2.1.length:Int) (0:Int) else none) else none) ( bif ((z8_ok t0.1)&&true) then bif ((z8_ok t0.2.1)&&true) then z4_l8 qga (qiX n) n t0 ((z11 (z10 t0)).1) (qgA t0) t0.2.2.1 (t0.2.2.1.length:Int) (0:Int) else none else none) else none else none
end
end
end Go.Av
