import Derived.Test.YtcbimkaeoojceaaGreatDoorPjM
import Derived.Test.YtcbimkaeoojceaaGreatDoorAvE
namespace Go.Av
set_option linter.unusedSimpArgs false
set_option linter.unusedVariables false
abbrev OA:=Option AV
noncomputable section
def qsM (s2:UInt8):OA:=some (dn s2)
def qJu (_n:Nat) (c0:UInt8):OA :=
 bif (decide ((65:UInt8)≤c0)) then
 bif (decide (c0≤(90:UInt8))) then
 qsM (c0 ||| (32:UInt8))
 else
 qsM c0
 else
 qsM c0
def qGz (s2:LU):OA:=some (db s2 (some (2,5)))
def qfP (k0:LU→OA) (next:LU→Int→Int→OA) (_n:Nat) (out3:LU) (s9:Int) (s10:Int):OA :=
 bif (decide (s10 < s9)) then
 bif ((decide (0≤s10))&&(decide (s10 < out3.length))) then
 bif ((decide (0≤s10))&&(decide (s10 < out3.length))) then
 next (List.set out3 s10.toNat (z44 (out3.getD s10.toNat (0:UInt8)))) s9 (IntKind.wrap .i64 (s10+1))
 else none
 else none
 else
 k0 out3
def qlu (k0:LU→OA):Nat→LU→Int→Int→OA
 | 0=>fun _ _ _=>none
 | n+1=>qfP k0 (qlu k0 n) n
def qiE (_n:Nat) (out3:LU):OA :=
 qGz out3
def qEJ (n:Nat) (s0:LU):OA :=
 bif ((qcQ s0)&&true) then
 qlu (qiE n) n (z43 s0) ((z43 s0).length:Int) (0:Int)
 else none
def qGA (s4:Bool):OA:=some (dg s4)
def qOE (_n:Nat) (a0:LU) (b1:LU):OA :=
 qGA (a0==b1)
def qGB (s4:Bool):OA:=some (dg s4)
def qJv (_n:Nat) (a0:LU) (b1:LU):OA :=
 bif ((qgX a0)&&true) then
 bif ((qgX b1)&&true) then
 qGB (z33 (z28 a0) (z28 b1))
 else none
 else none
def qGC (s4:Int):OA:=some (dc s4)
def qOF (_n:Nat) (b0:LU) (c1:UInt8):OA :=
 qGC (z111 b0 c1)
def qzp (before4:LU) (after5:LU) (found6:Bool):OA:=some (.tup [(da before4),(da after5),(dg found6)])
def qJw (_n:Nat) (s0:LU) (sep1:LU):OA :=
 bif ((qwR s0 sep1)&&true) then
 bif (decide (0≤(z89 s0 sep1))) then
 bif (((decide (0≤((0:Nat):Int)))&&(decide (((0:Nat):Int)≤(z89 s0 sep1))))&&(decide ((z89 s0 sep1)≤(s0.length:Int)))) then
 bif (((decide (0≤(IntKind.wrap .i64 ((z89 s0 sep1)+(sep1.length:Int)))))&&(decide ((IntKind.wrap .i64 ((z89 s0 sep1)+(sep1.length:Int)))≤(s0.length:Int))))&&(decide ((s0.length:Int)≤(s0.length:Int)))) then
 qzp (List.drop ((0:Nat):Int).toNat (List.take (z89 s0 sep1).toNat s0)) (List.drop (IntKind.wrap .i64 ((z89 s0 sep1)+(sep1.length:Int))).toNat (List.take (s0.length:Int).toNat s0)) true
 else none
 else none
 else
 qzp s0 ([]:LU) false
 else none
def qsN (s2:LU) (s3:LU) (s4:Bool):OA:=some (.tup [(da s2),(da s3),(dg s4)])
def qbX (value0:LU):=(z65 value0 ([(39:UInt8)]:LU))
def qJx (_n:Nat) (value0:LU):OA :=
 bif ((qmO value0 ([(39:UInt8)]:LU))&&true) then bif ((qbX value0).2.2) then bif ((qmO ((qbX value0).2.1) ([(39:UInt8)]:LU))&&true) then bif ((z65 ((qbX value0).2.1) ([(39:UInt8)]:LU)).2.2) then bif ((qcQ ((qbX value0).1))&&true) then bif ((qcQ ((z65 ((qbX value0).2.1) ([(39:UInt8)]:LU)).2.1))&&true) then qsN (z43 ((qbX value0).1)) (z43 ((z65 ((qbX value0).2.1) ([(39:UInt8)]:LU)).2.1)) true else none else none else bif ((qcQ value0)&&true) then qsN ([]:LU) (z43 value0) false else none else none else bif ((qcQ value0)&&true) then qsN ([]:LU) (z43 value0) false else none else none
def qiF (s2:List LU):OA:=some (.dat (.sl .str) s2 (some (2,9)))
def qJy (_n:Nat) (charset0:Int):OA :=
 bif (charset0==(1:Int)) then
 qiF ([([117,115,45,97,115,99,105,105]:LU),([97,115,99,105,105]:LU),([97,110,115,105,95,120,51,46,52,45,49,57,54,56]:LU),([105,115,111,54,52,54,45,117,115]:LU)]:List LU)
 else
 bif (charset0==(2:Int)) then
 qiF ([([105,115,111,45,56,56,53,57,45,49]:LU),([105,115,111,95,56,56,53,57,45,49]:LU),([108,97,116,105,110,49]:LU),([108,49]:LU)]:List LU)
 else
 bif (charset0==(3:Int)) then
 qiF ([([105,115,111,45,56,56,53,57,45,49,53]:LU),([105,115,111,95,56,56,53,57,45,49,53]:LU),([108,97,116,105,110,45,57]:LU)]:List LU)
 else
 bif (charset0==(4:Int)) then
 qiF ([([119,105,110,100,111,119,115,45,49,50,53,50]:LU),([99,112,49,50,53,50]:LU)]:List LU)
 else
 bif (charset0==(5:Int)) then
 qiF ([([117,116,102,45,56]:LU),([117,116,102,56]:LU)]:List LU)
 else
 qiF ([]:List LU)
def qGD (s0:List (LU×Int)):OA:=some (.abs (.sl (.pair .str (.int .i64))) (qfD .str (.int .i64)) s0)
def qzq (k2:List (LU×Int)→Int→OA) (next:List (LU×Int)→Int→List LU→Int→Int→OA) (_n:Nat) (m1:List (LU×Int)) (n2:Int) (s11:List LU) (s12:Int) (s13:Int):OA :=
 bif (decide (s13 < s12)) then
 bif ((decide (0≤s13))&&(decide (s13 < s11.length))) then
 next (@putM .str (.int .i64) (s11.getD s13.toNat ([]:LU)) n2 m1) n2 s11 s12 (IntKind.wrap .i64 (s13+1))
 else none
 else
 k2 m1 n2
def qvi (k2:List (LU×Int)→Int→OA):Nat→List (LU×Int)→Int→List LU→Int→Int→OA
 | 0=>fun _ _ _ _ _=>none
 | n+1=>qzq k2 (qvi k2 n) n
def qlv (_k0:List (LU×Int)→OA) (next:List (LU×Int)→Int→OA) (_n:Nat) (m1:List (LU×Int)) (n2:Int):OA :=
 next m1 (IntKind.wrap .i64 (n2+1))
def qpw (k0:List (LU×Int)→OA) (next:List (LU×Int)→Int→OA) (n:Nat) (m1:List (LU×Int)) (n2:Int):OA :=
 bif (decide (n2≤(5:Int))) then
 qvi (qlv k0 next n) n m1 n2 (z90 n2) ((z90 n2).length:Int) (0:Int)
 else
 k0 m1
def qvj (k0:List (LU×Int)→OA):Nat→List (LU×Int)→Int→OA
 | 0=>fun _ _=>none
 | n+1=>qpw k0 (qvj k0 n) n
def qlw (_n:Nat) (m1:List (LU×Int)):OA :=
 qGD m1
def qJz (n:Nat):OA :=
 qvj (qlw n) n ([]:List (LU×Int)) (1:Int)
def qpx (s4:LU):OA:=some (da s4)
def qsO (k0:LU→OA) (next:LU→UInt8→OA) (_n:Nat) (s0:LU) (c1:UInt8):OA :=
 bif (decide ((0:Int) < (s0.length:Int))) then
 bif ((decide (0≤(0:Int)))&&(decide ((0:Int) < s0.length))) then
 bif ((s0.getD (0:Int).toNat (0:UInt8))==c1) then
 bif (((decide (0≤(1:Int)))&&(decide ((1:Int)≤(s0.length:Int))))&&(decide ((s0.length:Int)≤(s0.length:Int)))) then
 next (List.drop (1:Int).toNat (List.take (s0.length:Int).toNat s0)) c1
 else none
 else
 k0 s0
 else none
 else
 k0 s0
def qjO (k0:LU→OA):Nat→LU→UInt8→OA
 | 0=>fun _ _=>none
 | n+1=>qsO k0 (qjO k0 n) n
def qhu (_n:Nat) (s0:LU):OA :=
 bif ((s0.length:Int)==(0:Int)) then
 qpx ([]:LU)
 else
 qpx s0
def qzr (n:Nat) (s0:LU) (c1:UInt8):OA :=
 qjO (qhu n) n s0 c1
def qzs (s4:LU):OA:=some (da s4)
def qbd (s0:LU):=(IntKind.wrap .i64 ((s0.length:Int) - (1:Int)))
def qsP (k0:LU→OA) (next:LU→UInt8→OA) (_n:Nat) (s0:LU) (c1:UInt8):OA :=
 bif (decide ((0:Int) < (s0.length:Int))) then bif ((decide (0≤(qbd s0)))&&(decide ((qbd s0) < s0.length))) then bif ((s0.getD (qbd s0).toNat (0:UInt8))==c1) then bif (((decide (0≤((0:Nat):Int)))&&(decide (((0:Nat):Int)≤(qbd s0))))&&(decide ((qbd s0)≤(s0.length:Int)))) then next (List.drop ((0:Nat):Int).toNat (List.take (qbd s0).toNat s0)) c1 else none else k0 s0 else none else k0 s0
def qjP (k0:LU→OA):Nat→LU→UInt8→OA
 | 0=>fun _ _=>none
 | n+1=>qsP k0 (qjP k0 n) n
def qhv (_n:Nat) (s0:LU):OA :=
 qzs s0
def qzt (n:Nat) (s0:LU) (c1:UInt8):OA :=
 qjP (qhv n) n s0 c1
def qiG (as2:List Bool) (ok3:Bool):OA:=some (.tup [(.dat (.arr 256 .bool) as2 none),(dg ok3)])
def qdA (ret:List Bool→Bool→OA) (k0:List Bool→OA) (next:LU→List Bool→Int→OA) (_n:Nat) (chars0:LU) (as2:List Bool) (i4:Int):OA :=
 bif (decide (i4 < (chars0.length:Int))) then
 bif ((decide (0≤i4))&&(decide (i4 < chars0.length))) then
 bif (decide ((128:UInt8)≤(chars0.getD i4.toNat (0:UInt8)))) then
 ret as2 false
 else
 bif ((decide (0≤((UInt8.toNat (chars0.getD i4.toNat (0:UInt8)):Nat):Int)))&&(decide (((UInt8.toNat (chars0.getD i4.toNat (0:UInt8)):Nat):Int) < (256:Nat)))) then
 next chars0 (List.set as2 ((UInt8.toNat (chars0.getD i4.toNat (0:UInt8)):Nat):Int).toNat true) (IntKind.wrap .i64 (i4+1))
 else none
 else none
 else
 k0 as2
def qeY (ret:List Bool→Bool→OA) (k0:List Bool→OA):Nat→LU→List Bool→Int→OA
 | 0=>fun _ _ _=>none
 | n+1=>qdA ret k0 (qeY ret k0 n) n
def qeZ (_n:Nat) (as2:List Bool):OA :=
 qiG as2 true
def qzu (n:Nat) (chars0:LU):OA :=
 qeY qiG (qeZ n) n chars0 (List.replicate 256 false) (0:Int)
def qzv (s4:Bool):OA:=some (dg s4)
def qzw (_n:Nat) (as0:List Bool) (c1:UInt8):OA :=
 bif ((decide (0≤((UInt8.toNat c1:Nat):Int)))&&(decide (((UInt8.toNat c1:Nat):Int) < (256:Nat)))) then
 qzv (as0.getD ((UInt8.toNat c1:Nat):Int).toNat false)
 else none
def qpy (s4:LU):OA:=some (da s4)
def qhw (k0:LU→OA) (next:LU→List Bool→OA) (_n:Nat) (s0:LU) (as1:List Bool):OA :=
 bif (decide ((0:Int) < (s0.length:Int))) then
 bif ((decide (0≤(0:Int)))&&(decide ((0:Int) < s0.length))) then
 bif (!(z134 as1 (s0.getD (0:Int).toNat (0:UInt8)))) then
 k0 s0
 else
 bif (((decide (0≤(1:Int)))&&(decide ((1:Int)≤(s0.length:Int))))&&(decide ((s0.length:Int)≤(s0.length:Int)))) then
 next (List.drop (1:Int).toNat (List.take (s0.length:Int).toNat s0)) as1
 else none
 else none
 else
 k0 s0
def qgG (k0:LU→OA):Nat→LU→List Bool→OA
 | 0=>fun _ _=>none
 | n+1=>qhw k0 (qgG k0 n) n
def qfa (_n:Nat) (s0:LU):OA :=
 bif ((s0.length:Int)==(0:Int)) then
 qpy ([]:LU)
 else
 qpy s0
def qsQ (n:Nat) (s0:LU) (as1:List Bool):OA :=
 qgG (qfa n) n s0 as1
def qzx (s4:LU):OA:=some (da s4)
def qaH (s0:LU):=(IntKind.wrap .i64 ((s0.length:Int) - (1:Int)))
def qhx (k0:LU→OA) (next:LU→List Bool→OA) (_n:Nat) (s0:LU) (as1:List Bool):OA :=
 bif (decide ((0:Int) < (s0.length:Int))) then bif ((decide (0≤(qaH s0)))&&(decide ((qaH s0) < s0.length))) then bif (!(z134 as1 (s0.getD (qaH s0).toNat (0:UInt8)))) then k0 s0 else bif (((decide (0≤((0:Nat):Int)))&&(decide (((0:Nat):Int)≤(qaH s0))))&&(decide ((qaH s0)≤(s0.length:Int)))) then next (List.drop ((0:Nat):Int).toNat (List.take (qaH s0).toNat s0)) as1 else none else none else k0 s0
def qgH (k0:LU→OA):Nat→LU→List Bool→OA
 | 0=>fun _ _=>none
 | n+1=>qhx k0 (qgH k0 n) n
def qhy (_n:Nat) (s0:LU):OA :=
 qzx s0
def qsR (n:Nat) (s0:LU) (as1:List Bool):OA :=
 qgH (qhy n) n s0 as1
def qdg (s4:LU):OA:=some (da s4)
def qbK (cutset1:LU):=(cutset1.getD (0:Int).toNat (0:UInt8))
def qfb (cutset1:LU):=((decide (0≤(0:Int)))&&(decide ((0:Int) < cutset1.length)))
def qzy (_n:Nat) (s0:LU) (cutset1:LU):OA :=
 bif ((s0.length:Int)==(0:Int)) then qdg ([]:LU) else bif (cutset1==([]:LU)) then qdg s0 else bif ((cutset1.length:Int)==(1:Int)) then bif (qfb cutset1) then bif (decide ((qbK cutset1) < (128:UInt8))) then bif (qfb cutset1) then bif (qfb cutset1) then bif ((qwT s0 (qbK cutset1))&&true) then bif ((qwS (z124 s0 (qbK cutset1)) (qbK cutset1))&&true) then qdg (z123 (z124 s0 (qbK cutset1)) (qbK cutset1)) else none else none else none else none else bif ((qin cutset1)&&true) then bif ((z125 cutset1).2) then bif ((qmQ s0 ((z125 cutset1).1))&&true) then bif ((qmP (z127 s0 ((z125 cutset1).1)) ((z125 cutset1).1))&&true) then qdg (z126 (z127 s0 ((z125 cutset1).1)) ((z125 cutset1).1)) else none else none else bif ((qwV s0 cutset1)&&true) then bif ((qwU (z129 s0 cutset1) cutset1)&&true) then qdg (z128 (z129 s0 cutset1) cutset1) else none else none else none else none else bif ((qin cutset1)&&true) then bif ((z125 cutset1).2) then bif ((qmQ s0 ((z125 cutset1).1))&&true) then bif ((qmP (z127 s0 ((z125 cutset1).1)) ((z125 cutset1).1))&&true) then qdg (z126 (z127 s0 ((z125 cutset1).1)) ((z125 cutset1).1)) else none else none else bif ((qwV s0 cutset1)&&true) then bif ((qwU (z129 s0 cutset1) cutset1)&&true) then qdg (z128 (z129 s0 cutset1) cutset1) else none else none else none
def qGE (s2:LU):OA:=some (db s2 (some (2,5)))
def qJA (_n:Nat) (s0:LU):OA :=
 bif ((qjD s0 ([32,9]:LU))&&true) then
 bif ((qcQ (z112 s0 ([32,9]:LU)))&&true) then
 qGE (z43 (z112 s0 ([32,9]:LU)))
 else none
 else none
def qzz (s2:LU):OA:=some (db s2 (some (2,5)))
def qJB (_n:Nat) (s0:LU):OA :=
 bif (decide (0≤(z91 s0 (42:UInt8)))) then
 bif (((decide (0≤((0:Nat):Int)))&&(decide (((0:Nat):Int)≤(z91 s0 (42:UInt8)))))&&(decide ((z91 s0 (42:UInt8))≤(s0.length:Int)))) then
 bif ((que (List.drop ((0:Nat):Int).toNat (List.take (z91 s0 (42:UInt8)).toNat s0)))&&true) then
 qzz (z92 (List.drop ((0:Nat):Int).toNat (List.take (z91 s0 (42:UInt8)).toNat s0)))
 else none
 else none
 else
 bif ((que s0)&&true) then
 qzz (z92 s0)
 else none
def qzA (s2:Int) (s3:Int):OA:=some (.tup [(dc s2),(dc s3)])
def qJC (_n:Nat) (s0:LU):OA :=
 bif ((qBZ s0)&&true) then
 bif ((qgX (z67 s0))&&true) then
 bif (!(Option.isSome (@findM .str (.int .i64) (z28 (z67 s0)) z66))) then
 qzA (0:Int) (10:Int)
 else
 qzA (Option.getD (@findM .str (.int .i64) (z28 (z67 s0)) z66) (0:Int)) (0:Int)
 else none
 else none
def qGF (s11:LU):OA:=some (.tup [(.tup []),.bad,.bad,(.pbox (.osl 5 .byte) s11 none)])
def qJD (_n:Nat) (c0:UInt8) (_x1:Bool) (x2:LU):OA :=
 bif (decide (x2.length+List.length ([c0]:LU)≤room)) then
 qGF (x2++([c0]:LU))
 else none
def qh (s2:Int):OA:=some (dc s2)
def qaf:=(bits .or .i64 (bits .or .i64 (0:Int) (1:Int)) (656:Int))
def qdh:=(bits .or .i64 (bits .or .i64 (0:Int) (1:Int)) (2:Int))
def qzB (_n:Nat) (c0:UInt8):OA :=
 bif (decide (c0 < (32:UInt8))) then bif (c0==(32:UInt8)) then qh (qdh) else bif (c0==(9:UInt8)) then qh (qdh) else bif (decide ((48:UInt8)≤c0)) then bif (decide (c0≤(57:UInt8))) then qh (bits .or .i64 (bits .or .i64 (0:Int) (1:Int)) (648:Int)) else bif (decide ((65:UInt8)≤c0)) then bif (decide (c0≤(90:UInt8))) then bif (decide (c0≤(90:UInt8))) then qh (qaf) else qh (bits .or .i64 (0:Int) (1:Int)) else bif (decide ((97:UInt8)≤c0)) then bif (decide (c0≤(122:UInt8))) then qh (qaf) else qh (bits .or .i64 (0:Int) (1:Int)) else qh (bits .or .i64 (0:Int) (1:Int)) else bif (decide ((97:UInt8)≤c0)) then bif (decide (c0≤(122:UInt8))) then qh (qaf) else qh (bits .or .i64 (0:Int) (1:Int)) else qh (bits .or .i64 (0:Int) (1:Int)) else bif (decide ((65:UInt8)≤c0)) then bif (decide (c0≤(90:UInt8))) then bif (decide (c0≤(90:UInt8))) then qh (qaf) else qh (bits .or .i64 (0:Int) (1:Int)) else bif (decide ((97:UInt8)≤c0)) then bif (decide (c0≤(122:UInt8))) then qh (qaf) else qh (bits .or .i64 (0:Int) (1:Int)) else qh (bits .or .i64 (0:Int) (1:Int)) else bif (decide ((97:UInt8)≤c0)) then bif (decide (c0≤(122:UInt8))) then qh (qaf) else qh (bits .or .i64 (0:Int) (1:Int)) else qh (bits .or .i64 (0:Int) (1:Int)) else bif (c0==(127:UInt8)) then bif (c0==(32:UInt8)) then qh (qdh) else bif (c0==(9:UInt8)) then qh (qdh) else bif (decide ((48:UInt8)≤c0)) then bif (decide (c0≤(57:UInt8))) then qh (bits .or .i64 (bits .or .i64 (0:Int) (1:Int)) (648:Int)) else bif (decide ((65:UInt8)≤c0)) then bif (decide (c0≤(90:UInt8))) then bif (decide (c0≤(90:UInt8))) then qh (qaf) else qh (bits .or .i64 (0:Int) (1:Int)) else bif (decide ((97:UInt8)≤c0)) then bif (decide (c0≤(122:UInt8))) then qh (qaf) else qh (bits .or .i64 (0:Int) (1:Int)) else qh (bits .or .i64 (0:Int) (1:Int)) else bif (decide ((97:UInt8)≤c0)) then bif (decide (c0≤(122:UInt8))) then qh (qaf) else qh (bits .or .i64 (0:Int) (1:Int)) else qh (bits .or .i64 (0:Int) (1:Int)) else bif (decide ((65:UInt8)≤c0)) then bif (decide (c0≤(90:UInt8))) then bif (decide (c0≤(90:UInt8))) then qh (qaf) else qh (bits .or .i64 (0:Int) (1:Int)) else bif (decide ((97:UInt8)≤c0)) then bif (decide (c0≤(122:UInt8))) then qh (qaf) else qh (bits .or .i64 (0:Int) (1:Int)) else qh (bits .or .i64 (0:Int) (1:Int)) else bif (decide ((97:UInt8)≤c0)) then bif (decide (c0≤(122:UInt8))) then qh (qaf) else qh (bits .or .i64 (0:Int) (1:Int)) else qh (bits .or .i64 (0:Int) (1:Int)) else bif (c0==(32:UInt8)) then qh (bits .or .i64 (0:Int) (2:Int)) else bif (c0==(9:UInt8)) then qh (bits .or .i64 (0:Int) (2:Int)) else bif (decide ((48:UInt8)≤c0)) then bif (decide (c0≤(57:UInt8))) then qh (bits .or .i64 (0:Int) (648:Int)) else bif (decide ((65:UInt8)≤c0)) then bif (decide (c0≤(90:UInt8))) then bif (decide (c0≤(90:UInt8))) then qh (bits .or .i64 (0:Int) (656:Int)) else qh (0:Int) else bif (decide ((97:UInt8)≤c0)) then bif (decide (c0≤(122:UInt8))) then qh (bits .or .i64 (0:Int) (656:Int)) else qh (0:Int) else qh (0:Int) else bif (decide ((97:UInt8)≤c0)) then bif (decide (c0≤(122:UInt8))) then qh (bits .or .i64 (0:Int) (656:Int)) else qh (0:Int) else qh (0:Int) else bif (decide ((65:UInt8)≤c0)) then bif (decide (c0≤(90:UInt8))) then bif (decide (c0≤(90:UInt8))) then qh (bits .or .i64 (0:Int) (656:Int)) else qh (0:Int) else bif (decide ((97:UInt8)≤c0)) then bif (decide (c0≤(122:UInt8))) then qh (bits .or .i64 (0:Int) (656:Int)) else qh (0:Int) else qh (0:Int) else bif (decide ((97:UInt8)≤c0)) then bif (decide (c0≤(122:UInt8))) then qh (bits .or .i64 (0:Int) (656:Int)) else qh (0:Int) else qh (0:Int)
def qzC (s4:Int):OA:=some (dc s4)
def qGG (_n:Nat) (s0:LU) (c1:UInt8):OA :=
 qzC (z142 s0 c1)
def qzD (s4:Int):OA:=some (dc s4)
def qGH (_n:Nat) (s0:LU) (c1:UInt8):OA :=
 qzD (z139 s0 c1)
def qzE (s4:Bool):OA:=some (dg s4)
def qGI (_n:Nat) (s0:LU) (c1:UInt8):OA :=
 qzE (decide (0≤(z133 s0 c1)))
def qbL (s2:Int):OA:=some (dc s2)
def qbY (c0:UInt8):=(bits .or .i64 (z119 c0) (4:Int))
def qfc (c0:UInt8):=(z120 ([40,41,60,62,64,44,59,58,92,34,47,91,93,63,61]:LU) c0)
def qcF (c0:UInt8):=(bits .or .i64 (qbY c0) (128:Int))
def qJE (_n:Nat) (c0:UInt8):OA :=
 bif (decide (c0 < (33:UInt8))) then qbL (z119 c0) else bif (decide ((126:UInt8) < c0)) then qbL (z119 c0) else bif (z120 ([33,42,43,45,47]:LU) c0) then bif (z120 ([43,47]:LU) c0) then bif (qfc c0) then qbL (bits .or .i64 (bits .or .i64 (qcF c0) (512:Int)) (32:Int)) else bif (!(z120 ([42,39,37]:LU) c0)) then qbL (bits .or .i64 (bits .or .i64 (bits .or .i64 (qcF c0) (512:Int)) (64:Int)) (256:Int)) else qbL (bits .or .i64 (bits .or .i64 (qcF c0) (512:Int)) (64:Int)) else bif (qfc c0) then qbL (bits .or .i64 (qcF c0) (32:Int)) else bif (!(z120 ([42,39,37]:LU) c0)) then qbL (bits .or .i64 (bits .or .i64 (qcF c0) (64:Int)) (256:Int)) else qbL (bits .or .i64 (qcF c0) (64:Int)) else bif (z120 ([43,47]:LU) c0) then bif (qfc c0) then qbL (bits .or .i64 (bits .or .i64 (qbY c0) (512:Int)) (32:Int)) else bif (!(z120 ([42,39,37]:LU) c0)) then qbL (bits .or .i64 (bits .or .i64 (bits .or .i64 (qbY c0) (512:Int)) (64:Int)) (256:Int)) else qbL (bits .or .i64 (bits .or .i64 (qbY c0) (512:Int)) (64:Int)) else bif (qfc c0) then qbL (bits .or .i64 (qbY c0) (32:Int)) else bif (!(z120 ([42,39,37]:LU) c0)) then qbL (bits .or .i64 (bits .or .i64 (qbY c0) (64:Int)) (256:Int)) else qbL (bits .or .i64 (qbY c0) (64:Int))
def qGJ (s4:Bool):OA:=some (dg s4)
def qOG (_n:Nat) (c0:UInt8) (kinds1:Int):OA :=
 qGJ ((bits .and .i64 (z99 c0) kinds1) != (0:Int))
def qiH (s2:Int) (s3:Bool):OA:=some (.tup [(dc s2),(dg s3)])
def qzF (_n:Nat) (c0:UInt8):OA :=
 bif (z77 (z44 c0) (8:Int)) then
 qiH (IntKind.wrap .i64 ((UInt8.toNat ((z44 c0) - (48:UInt8)):Nat):Int)) true
 else
 bif (decide ((97:UInt8)≤(z44 c0))) then
 bif (decide ((z44 c0)≤(102:UInt8))) then
 qiH (IntKind.wrap .i64 ((IntKind.wrap .i64 ((UInt8.toNat ((z44 c0) - (97:UInt8)):Nat):Int))+(10:Int))) true
 else
 qiH (0:Int) false
 else
 qiH (0:Int) false
def qlx (s4:UInt8) (s5:Bool):OA:=some (.tup [(dn s4),(dg s5)])
def qzG (_n:Nat) (a0:UInt8) (b1:UInt8):OA :=
 bif (!((z138 a0).2)) then
 qlx (0:UInt8) false
 else
 bif (!((z138 b1).2)) then
 qlx (0:UInt8) false
 else
 qlx (UInt8.ofNat (IntKind.wrap .u8 (bits .or .i64 (IntKind.wrap .i64 (((z138 a0).1)*2 ^ (min (4:Int).toNat (IntKind.bits .i64)))) ((z138 b1).1))).toNat) true
def qiI (s6:UInt8) (s7:Bool):OA:=some (.tup [(dn s6),(dg s7)])
def qiJ (s0:LU) (at1:Int):=(z130 (s0.getD (IntKind.wrap .i64 (at1+1)).toNat (0:UInt8)) (s0.getD (IntKind.wrap .i64 (at1+(2:Int))).toNat (0:UInt8)))
def qzH (_n:Nat) (s0:LU) (at1:Int) (sign2:UInt8):OA :=
 bif (decide (at1 < (0:Int))) then qiI (0:UInt8) false else bif (decide ((IntKind.wrap .i64 ((s0.length:Int) - (3:Int))) < at1)) then qiI (0:UInt8) false else bif ((decide (0≤at1))&&(decide (at1 < s0.length))) then bif ((s0.getD at1.toNat (0:UInt8)) != sign2) then qiI (0:UInt8) false else bif ((decide (0≤(IntKind.wrap .i64 (at1+1))))&&(decide ((IntKind.wrap .i64 (at1+1)) < s0.length))) then bif ((decide (0≤(IntKind.wrap .i64 (at1+(2:Int)))))&&(decide ((IntKind.wrap .i64 (at1+(2:Int))) < s0.length))) then qiI ((qiJ s0 at1).1) ((qiJ s0 at1).2) else none else none else none
def qdi (s33:LU):OA:=some (.tup [(.tup []),.bad,(.pbox (.osl 5 .byte) s33 none)])
def qdB (k0:LU→OA) (next:LU→Int→LU→OA) (_n:Nat) (s0:LU) (at4:Int) (s33:LU):OA :=
 bif (decide (at4 < (s0.length:Int))) then
 bif ((qqP s0 at4 (37:UInt8))&&true) then
 bif (!((z113 s0 at4 (37:UInt8)).2)) then
 bif ((decide (0≤at4))&&(decide (at4 < s0.length))) then
 bif (qyE (s0.getD at4.toNat (0:UInt8)) false s33) then
 next s0 (IntKind.wrap .i64 (at4+1)) (z94 (s0.getD at4.toNat (0:UInt8)) false s33)
 else none
 else none
 else
 bif (qyE ((z113 s0 at4 (37:UInt8)).1) true s33) then
 next s0 (IntKind.wrap .i64 ((IntKind.wrap .i64 (at4+(2:Int)))+1)) (z94 ((z113 s0 at4 (37:UInt8)).1) true s33)
 else none
 else none
 else
 k0 s33
def qcG (k0:LU→OA):Nat→LU→Int→LU→OA
 | 0=>fun _ _ _=>none
 | n+1=>qdB k0 (qcG k0 n) n
def qcs (_n:Nat) (s33:LU):OA :=
 qdi s33
def qly (n:Nat) (s0:LU) (f1:LU):OA :=
 qcG (qcs n) n s0 (0:Int) f1
def qGK (s2:LU):OA:=some (da s2)
def qJF (_n:Nat) (s0:LU):OA :=
 bif (qdx s0 ([]:LU)) then
 qGK (qIp s0 ([]:LU))
 else none
def qsS (s2:LU):OA:=some (da s2)
def qJG (_n:Nat) (p0:LU×(Int×(Bool×(LU×Unit)))):OA :=
 bif p0.2.2.1 then
 bif ((qEn p0.2.2.2.1)&&true) then
 qsS (z68 p0.2.2.2.1)
 else none
 else
 qsS p0.2.2.2.1
def qzI (s13:LI):OA:=some (.tup [(.tup []),.bad,.bad,(.pbox (.osl 21 (.int .i32)) s13 none)])
def qJH (_n:Nat) (c0:Int) (e1:Int) (x2:LI):OA :=
 bif (e1 != (0:Int)) then
 bif (decide (x2.length+List.length ([(65533:Int)]:LI)≤room)) then
 qzI (x2++([(65533:Int)]:LI))
 else none
 else
 bif (decide (x2.length+List.length ([c0]:LI)≤room)) then
 qzI (x2++([c0]:LI))
 else none
def qek (s2:Int):OA:=some (dc s2)
def qzJ (_n:Nat) (c0:UInt8):OA :=
 bif (decide (c0 < (128:UInt8))) then
 qek (1:Int)
 else
 bif (decide (c0 < (194:UInt8))) then
 qek (0:Int)
 else
 bif (decide ((244:UInt8) < c0)) then
 qek (0:Int)
 else
 bif (decide (c0 < (224:UInt8))) then
 qek (2:Int)
 else
 bif (decide (c0 < (240:UInt8))) then
 qek (3:Int)
 else
 qek (4:Int)
def qzK (s2:Bool):OA:=some (dg s2)
def qzL (_n:Nat) (c0:UInt8):OA :=
 qzK ((c0 &&& ~~~ (63:UInt8))==(128:UInt8))
def qcf (s4:Bool):OA:=some (dg s4)
def qzM (_n:Nat) (first0:UInt8) (c1:UInt8):OA :=
 bif (first0==(224:UInt8)) then
 bif (decide ((160:UInt8)≤c1)) then
 qcf (z131 c1)
 else
 qcf false
 else
 bif (first0==(237:UInt8)) then
 bif (decide (c1 < (160:UInt8))) then
 qcf (z131 c1)
 else
 qcf false
 else
 bif (first0==(240:UInt8)) then
 bif (decide ((144:UInt8)≤c1)) then
 qcf (z131 c1)
 else
 qcf false
 else
 bif (first0==(244:UInt8)) then
 bif (decide (c1 < (144:UInt8))) then
 qcf (z131 c1)
 else
 qcf false
 else
 qcf (z131 c1)
def qbe (s2:Int):OA:=some (dc s2)
def qbZ (ret:Int→OA) (k0:LU→Int→OA) (next:LU→Int→OA) (_n:Nat) (s0:LU) (n3:Int):OA :=
 bif ((decide (0≤(0:Int)))&&(decide ((0:Int) < s0.length))) then
 bif (decide (n3 < (z117 (s0.getD (0:Int).toNat (0:UInt8))))) then
 bif (decide (n3 < (s0.length:Int))) then
 bif ((decide (0≤n3))&&(decide (n3 < s0.length))) then
 bif (!(z131 (s0.getD n3.toNat (0:UInt8)))) then
 ret n3
 else
 bif (n3==(1:Int)) then
 bif ((decide (0≤(0:Int)))&&(decide ((0:Int) < s0.length))) then
 bif ((decide (0≤(1:Int)))&&(decide ((1:Int) < s0.length))) then
 bif (!(z132 (s0.getD (0:Int).toNat (0:UInt8)) (s0.getD (1:Int).toNat (0:UInt8)))) then
 ret n3
 else
 next s0 (IntKind.wrap .i64 (n3+1))
 else none
 else none
 else
 next s0 (IntKind.wrap .i64 (n3+1))
 else none
 else
 k0 s0 n3
 else
 k0 s0 n3
 else none
def qgI (ret:Int→OA) (k0:LU→Int→OA):Nat→LU→Int→OA
 | 0=>fun _ _=>none
 | n+1=>qbZ ret k0 (qgI ret k0 n) n
def qaz (_n:Nat) (s0:LU) (n3:Int):OA :=
 bif ((decide (0≤(0:Int)))&&(decide ((0:Int) < s0.length))) then
 qbe (bif (decide ((z117 (s0.getD (0:Int).toNat (0:UInt8))) < n3)) then (z117 (s0.getD (0:Int).toNat (0:UInt8))) else n3)
 else none
def qsT (n:Nat) (s0:LU):OA :=
 qgI qbe (qaz n) n s0 (1:Int)
def qiK (s2:UInt8):OA:=some (dn s2)
def qzN (_n:Nat) (n0:Int):OA :=
 bif (n0==(2:Int)) then
 qiK (192:UInt8)
 else
 bif (n0==(3:Int)) then
 qiK (224:UInt8)
 else
 bif (n0==(4:Int)) then
 qiK (240:UInt8)
 else
 qiK (0:UInt8)
def qfd (s2:Int) (s3:Int) (s4:Int):OA:=some (.tup [(di s2),(dc s3),(dc s4)])
def qdC (k1:Int→Int→OA) (next:Int→Int→LU→Int→Int→OA) (_n:Nat) (n5:Int) (c6:Int) (s48:LU) (s49:Int) (s50:Int):OA :=
 bif (decide (s50 < s49)) then
 bif ((decide (0≤s50))&&(decide (s50 < s48.length))) then
 next n5 (bits .or .i32 (IntKind.wrap .i32 (c6*2 ^ (min (6:Int).toNat (IntKind.bits .i32)))) (IntKind.wrap .i32 ((UInt8.toNat ((s48.getD s50.toNat (0:UInt8)) &&& (63:UInt8)):Nat):Int))) s48 s49 (IntKind.wrap .i64 (s50+1))
 else none
 else
 k1 n5 c6
def qgJ (k1:Int→Int→OA):Nat→Int→Int→LU→Int→Int→OA
 | 0=>fun _ _ _ _ _=>none
 | n+1=>qdC k1 (qgJ k1 n) n
def qdD (_n:Nat) (n5:Int) (c6:Int):OA :=
 qfd c6 n5 (0:Int)
def qcH (s0:LU):=((decide (0≤(0:Int)))&&(decide ((0:Int) < s0.length)))
def qdE (s0:LU):=(List.drop (1:Int).toNat (List.take (z116 s0).toNat s0))
def qfe (s0:LU):=(decide ((z116 s0) < (z117 (s0.getD (0:Int).toNat (0:UInt8)))))
def qhz (s0:LU):=(((decide (0≤(1:Int)))&&(decide ((1:Int)≤(z116 s0))))&&(decide ((z116 s0)≤(s0.length:Int))))
def qhA (s0:LU):=(IntKind.wrap .i32 ((UInt8.toNat ((s0.getD (0:Int).toNat (0:UInt8)) &&& ~~~ (z118 (z116 s0))):Nat):Int))
def qEK (n:Nat) (s0:LU):OA :=
 bif ((s0.length:Int)==(0:Int)) then qfd (0:Int) (0:Int) (4:Int) else bif ((qjC s0)&&true) then bif ((z116 s0)==(0:Int)) then qfd (0:Int) (1:Int) (3:Int) else bif (qcH s0) then bif (qfe s0) then bif ((z116 s0)==(s0.length:Int)) then qfd (0:Int) (z116 s0) (4:Int) else bif (qcH s0) then bif (qfe s0) then qfd (0:Int) (z116 s0) (3:Int) else bif (qcH s0) then bif (qhz s0) then qgJ (qdD n) n (z116 s0) (qhA s0) (qdE s0) ((qdE s0).length:Int) (0:Int) else none else none else none else bif (qcH s0) then bif (qfe s0) then qfd (0:Int) (z116 s0) (3:Int) else bif (qcH s0) then bif (qhz s0) then qgJ (qdD n) n (z116 s0) (qhA s0) (qdE s0) ((qdE s0).length:Int) (0:Int) else none else none else none else none else none
def qbM (s24:LI):OA:=some (.tup [(.tup []),.bad,(.pbox (.osl 21 (.int .i32)) s24 none)])
def qdF (k0:LI→OA) (next:LU→LI→OA) (_n:Nat) (s0:LU) (s24:LI):OA :=
 bif (decide ((0:Int) < (s0.length:Int))) then
 bif ((qBU s0)&&true) then
 bif (qCc ((z98 s0).1) ((z98 s0).2.2) s24) then
 bif (((decide (0≤((z98 s0).2.1)))&&(decide (((z98 s0).2.1)≤(s0.length:Int))))&&(decide ((s0.length:Int)≤(s0.length:Int)))) then
 next (List.drop ((z98 s0).2.1).toNat (List.take (s0.length:Int).toNat s0)) (z74 ((z98 s0).1) ((z98 s0).2.2) s24)
 else none
 else none
 else none
 else
 k0 s24
def qca (k0:LI→OA):Nat→LU→LI→OA
 | 0=>fun _ _=>none
 | n+1=>qdF k0 (qca k0 n) n
def qbw (_n:Nat) (s24:LI):OA :=
 qbM s24
def qlz (n:Nat) (s0:LU) (f1:LI):OA :=
 qca (qbw n) n s0 f1
def qGL (s2:LI):OA:=some (.dat (.sl (.int .i32)) s2 none)
def qJI (_n:Nat) (s0:LU):OA :=
 bif (qdw s0 ([]:LI)) then
 qGL (qIb s0 ([]:LI))
 else none
def qzO (s2:LI):OA:=some (.dat (.sl (.int .i32)) s2 (some (2,21)))
def qfQ (k0:LI→OA) (next:LI→LU→Int→Int→OA) (_n:Nat) (t3:LI) (s9:LU) (s10:Int) (s11:Int):OA :=
 bif (decide (s11 < s10)) then
 bif ((decide (0≤s11))&&(decide (s11 < s9.length))) then
 bif ((decide (0≤s11))&&(decide (s11 < t3.length))) then
 next (List.set t3 s11.toNat (IntKind.wrap .i32 ((UInt8.toNat (s9.getD s11.toNat (0:UInt8)):Nat):Int))) s9 s10 (IntKind.wrap .i64 (s11+1))
 else none
 else none
 else
 k0 t3
def qpz (k0:LI→OA):Nat→LI→LU→Int→Int→OA
 | 0=>fun _ _ _ _=>none
 | n+1=>qfQ k0 (qpz k0 n) n
def qiL (_n:Nat) (t3:LI):OA :=
 qzO t3
def qEL (n:Nat) (s0:LU):OA :=
 bif (((decide (0≤(s0.length:Int)))&&(decide ((s0.length:Int)≤(s0.length:Int))))&&(decide ((s0.length:Int)≤(room:Int)))) then
 qpz (qiL n) n (List.replicate (s0.length:Int).toNat 0) s0 (s0.length:Int) (0:Int)
 else none
def qzP (s2:Int):OA:=some (di s2)
def qJJ (_n:Nat) (c0:Int):OA :=
 bif (decide ((128:Int)≤c0)) then
 qzP (65533:Int)
 else
 qzP c0
def qzQ (s2:LI):OA:=some (.dat (.sl (.int .i32)) s2 (some (2,21)))
def qfR (k0:LI→OA) (next:LI→Int→Int→OA) (_n:Nat) (t3:LI) (s10:Int) (s11:Int):OA :=
 bif (decide (s11 < s10)) then
 bif ((decide (0≤s11))&&(decide (s11 < t3.length))) then
 bif ((decide (0≤s11))&&(decide (s11 < t3.length))) then
 next (List.set t3 s11.toNat (z95 (t3.getD s11.toNat 0))) s10 (IntKind.wrap .i64 (s11+1))
 else none
 else none
 else
 k0 t3
def qpA (k0:LI→OA):Nat→LI→Int→Int→OA
 | 0=>fun _ _ _=>none
 | n+1=>qfR k0 (qpA k0 n) n
def qiM (_n:Nat) (t3:LI):OA :=
 qzQ t3
def qEM (n:Nat) (s0:LU):OA :=
 bif ((qub s0)&&true) then
 qpA (qiM n) n (z72 s0) ((z72 s0).length:Int) (0:Int)
 else none
def qzR (s0:List (UInt8×(Int×Unit))):OA:=some (.dat (.arr 8 (.pair .byte (.pair (.int .i32) .unit))) s0 none)
def qGM (_n:Nat):OA :=
 qzR ([((164:UInt8),((8364:Int),())),((166:UInt8),((352:Int),())),((168:UInt8),((353:Int),())),((180:UInt8),((381:Int),())),((184:UInt8),((382:Int),())),((188:UInt8),((338:Int),())),((189:UInt8),((339:Int),())),((190:UInt8),((376:Int),()))]:List (UInt8×(Int×Unit)))
def qct (s2:Int):OA:=some (di s2)
def qzS (ret:Int→OA) (k0:UInt8→OA) (next:UInt8→List (UInt8×(Int×Unit))→Int→OA) (_n:Nat) (x0:UInt8) (s5:List (UInt8×(Int×Unit))) (s6:Int):OA :=
 bif (decide (s6 < (8:Int))) then
 bif ((decide (0≤s6))&&(decide (s6 < (8:Nat)))) then
 bif ((s5.getD s6.toNat ((0:UInt8),((0:Int),()))).1==x0) then
 ret (s5.getD s6.toNat ((0:UInt8),((0:Int),()))).2.1
 else
 next x0 s5 (IntKind.wrap .i64 (s6+1))
 else none
 else
 k0 x0
def qvk (ret:Int→OA) (k0:UInt8→OA):Nat→UInt8→List (UInt8×(Int×Unit))→Int→OA
 | 0=>fun _ _ _=>none
 | n+1=>qzS ret k0 (qvk ret k0 n) n
def qlA (_n:Nat) (x0:UInt8):OA :=
 qct (IntKind.wrap .i32 ((UInt8.toNat x0:Nat):Int))
def qEN (n:Nat) (x0:UInt8):OA :=
 qvk qct (qlA n) n x0 z114 (0:Int)
def qGN (s2:LI):OA:=some (.dat (.sl (.int .i32)) s2 (some (2,21)))
def qfS (k0:LI→OA) (next:LI→LU→Int→Int→OA) (_n:Nat) (t3:LI) (s6:LU) (s7:Int) (s8:Int):OA :=
 bif (decide (s8 < s7)) then
 bif ((decide (0≤s8))&&(decide (s8 < s6.length))) then
 bif (decide (t3.length+List.length ([(z96 (s6.getD s8.toNat (0:UInt8)))]:LI)≤room)) then
 next (t3++([(z96 (s6.getD s8.toNat (0:UInt8)))]:LI)) s6 s7 (IntKind.wrap .i64 (s8+1))
 else none
 else none
 else
 k0 t3
def qpB (k0:LI→OA):Nat→LI→LU→Int→Int→OA
 | 0=>fun _ _ _ _=>none
 | n+1=>qfS k0 (qpB k0 n) n
def qfT (_n:Nat) (t3:LI):OA :=
 qGN t3
def qEO (n:Nat) (s0:LU):OA :=
 qpB (qfT n) n ([]:LI) s0 (s0.length:Int) (0:Int)
def qzT (s0:LI):OA:=some (.dat (.sl (.int .i32)) s0 none)
def qGO (_n:Nat):OA :=
 qzT (List.drop 0 (List.take 32 ([(8364:Int),(0:Int),(8218:Int),(402:Int),(8222:Int),(8230:Int),(8224:Int),(8225:Int),(710:Int),(8240:Int),(352:Int),(8249:Int),(338:Int),(0:Int),(381:Int),(0:Int),(0:Int),(8216:Int),(8217:Int),(8220:Int),(8221:Int),(8226:Int),(8211:Int),(8212:Int),(732:Int),(8482:Int),(353:Int),(8250:Int),(339:Int),(0:Int),(382:Int),(376:Int)]:LI)))
def qnG (s2:Int):OA:=some (di s2)
def qff (x0:UInt8):=((UInt8.toNat (x0 - (128:UInt8)):Nat):Int)
def qJK (_n:Nat) (x0:UInt8):OA :=
 bif (decide (x0 < (128:UInt8))) then qnG (IntKind.wrap .i32 ((UInt8.toNat x0:Nat):Int)) else bif (decide ((160:UInt8)≤x0)) then qnG (IntKind.wrap .i32 ((UInt8.toNat x0:Nat):Int)) else bif ((decide (0≤(qff x0)))&&(decide ((qff x0) < z115.length))) then bif ((z115.getD (qff x0).toNat 0) != (0:Int)) then qnG (z115.getD (qff x0).toNat 0) else qnG (65533:Int) else none
def qGP (s2:LI):OA:=some (.dat (.sl (.int .i32)) s2 (some (2,21)))
def qfU (k0:LI→OA) (next:LI→LU→Int→Int→OA) (_n:Nat) (t3:LI) (s9:LU) (s10:Int) (s11:Int):OA :=
 bif (decide (s11 < s10)) then
 bif ((decide (0≤s11))&&(decide (s11 < s9.length))) then
 bif (decide (t3.length+List.length ([(z97 (s9.getD s11.toNat (0:UInt8)))]:LI)≤room)) then
 next (t3++([(z97 (s9.getD s11.toNat (0:UInt8)))]:LI)) s9 s10 (IntKind.wrap .i64 (s11+1))
 else none
 else none
 else
 k0 t3
def qpC (k0:LI→OA):Nat→LI→LU→Int→Int→OA
 | 0=>fun _ _ _ _=>none
 | n+1=>qfU k0 (qpC k0 n) n
def qfV (_n:Nat) (t3:LI):OA :=
 qGP t3
def qEP (n:Nat) (s0:LU):OA :=
 bif (((decide (0≤(0:Int)))&&(decide (0≤(s0.length:Int))))&&(decide ((s0.length:Int)≤(room:Int)))) then
 qpC (qfV n) n (List.replicate (0:Int).toNat 0) s0 (s0.length:Int) (0:Int)
 else none
def qjQ (s4:LI):OA:=some (.dat (.sl (.int .i32)) s4 none)
def qJL (_n:Nat) (charset0:Int) (s1:LU):OA :=
 bif (charset0==(1:Int)) then
 bif ((qBX s1)&&true) then
 qjQ (z69 s1)
 else none
 else
 bif (charset0==(3:Int)) then
 bif ((qBV s1)&&true) then
 qjQ (z70 s1)
 else none
 else
 bif (charset0==(4:Int)) then
 bif ((qBW s1)&&true) then
 qjQ (z71 s1)
 else none
 else
 bif (charset0==(5:Int)) then
 bif ((qua s1)&&true) then
 qjQ (z51 s1)
 else none
 else
 bif ((qub s1)&&true) then
 qjQ (z72 s1)
 else none
def qnH (s2:LI):OA:=some (.dat (.sl (.int .i32)) s2 none)
def qbN:=(([]:LU),((0:Int),(false,(([]:LU),()))))
def qdG (k0:LU×(Int×(Bool×(LU×Unit)))→Int→LU→OA) (next:LU×(Int×(Bool×(LU×Unit)))→Int→LU→List (LU×(Int×(Bool×(LU×Unit))))→Int→Int→OA) (_n:Nat) (first3:LU×(Int×(Bool×(LU×Unit)))) (charset4:Int) (s10:LU) (s42:List (LU×(Int×(Bool×(LU×Unit))))) (s43:Int) (s44:Int):OA :=
 bif (decide (s44 < s43)) then bif ((decide (0≤s44))&&(decide (s44 < s42.length))) then bif ((qjr (s42.getD s44.toNat (qbN)))&&true) then bif (decide (s10.length+List.length (z49 (s42.getD s44.toNat (qbN)))≤room)) then next first3 charset4 (s10++(z49 (s42.getD s44.toNat (qbN)))) s42 s43 (IntKind.wrap .i64 (s44+1)) else none else none else none else k0 first3 charset4 s10
def qdj (k0:LU×(Int×(Bool×(LU×Unit)))→Int→LU→OA):Nat→LU×(Int×(Bool×(LU×Unit)))→Int→LU→List (LU×(Int×(Bool×(LU×Unit))))→Int→Int→OA
 | 0=>fun _ _ _ _ _ _=>none
 | n+1=>qdG k0 (qdj k0 n) n
def qaA (_n:Nat) (first3:LU×(Int×(Bool×(LU×Unit)))) (charset4:Int) (s10:LU):OA :=
 bif first3.2.2.1 then
 bif ((qBY charset4 s10)&&true) then
 qnH (z50 charset4 s10)
 else none
 else
 bif ((qua s10)&&true) then
 qnH (z51 s10)
 else none
def qaa (l0:List (LU×(Int×(Bool×(LU×Unit))))):=(l0.getD (0:Int).toNat (([]:LU),((0:Int),(false,(([]:LU),())))))
def qaq (l0:List (LU×(Int×(Bool×(LU×Unit))))):=((qaa l0).1,((qaa l0).2.1,((qaa l0).2.2.1,(((z46 (qaa l0).2.2.2.1).2.1),(qaa l0).2.2.2.2))))
def qbk (l0:List (LU×(Int×(Bool×(LU×Unit))))):=(List.drop (1:Int).toNat (List.take (l0.length:Int).toNat l0))
def qdH (l0:List (LU×(Int×(Bool×(LU×Unit))))):=(((decide (0≤(1:Int)))&&(decide ((1:Int)≤(l0.length:Int))))&&(decide ((l0.length:Int)≤(l0.length:Int))))
def qEQ (n:Nat) (l0:List (LU×(Int×(Bool×(LU×Unit))))):OA :=
 bif ((decide (0≤(0:Int)))&&(decide ((0:Int) < l0.length))) then bif (qaa l0).2.2.1 then bif ((qEo (qaa l0).2.2.2.1)&&true) then bif ((qCb ((z46 (qaa l0).2.2.2.1).1))&&true) then bif ((z46 (qaa l0).2.2.2.1).2.2) then bif (((z47 ((z46 (qaa l0).2.2.2.1).1)).2)==(0:Int)) then bif ((qjr (qaq l0))&&true) then bif ((qpi (z49 (qaq l0)))&&true) then bif (qdH l0) then qdj (qaA n) n (qaq l0) ((z47 ((z46 (qaa l0).2.2.2.1).1)).1) (z48 (z49 (qaq l0))) (qbk l0) ((qbk l0).length:Int) (0:Int) else none else none else none else bif ((qjr (qaq l0))&&true) then bif ((qpi (z49 (qaq l0)))&&true) then bif (qdH l0) then qdj (qaA n) n (qaq l0) (2:Int) (z48 (z49 (qaq l0))) (qbk l0) ((qbk l0).length:Int) (0:Int) else none else none else none else bif ((qjr (qaq l0))&&true) then bif ((qpi (z49 (qaq l0)))&&true) then bif (qdH l0) then qdj (qaA n) n (qaq l0) (2:Int) (z48 (z49 (qaq l0))) (qbk l0) ((qbk l0).length:Int) (0:Int) else none else none else none else none else none else bif ((qjr (qaa l0))&&true) then bif ((qpi (z49 (qaa l0)))&&true) then bif (qdH l0) then qdj (qaA n) n (qaa l0) (2:Int) (z48 (z49 (qaa l0))) (qbk l0) ((qbk l0).length:Int) (0:Int) else none else none else none else none
def qjR (s2:List (LU×(LI×Unit))):OA:=some (.dat (.sl (.pair (.sl .byte) (.pair (.sl (.int .i32)) .unit))) s2 (some (2,31)))
def qdI (k2:List (LU×(Int×(Bool×(LU×Unit))))→List (LU×(LI×Unit))→List (LU×Bool)→LU→List (LU×(Int×(Bool×(LU×Unit))))→List (LU×(Int×(Bool×(LU×Unit))))→Int→Int→OA) (next:List (LU×(Int×(Bool×(LU×Unit))))→List (LU×(LI×Unit))→List (LU×Bool)→LU→List (LU×(Int×(Bool×(LU×Unit))))→List (LU×(Int×(Bool×(LU×Unit))))→Int→Int→LI→Int→Int→OA) (_n:Nat) (l0:List (LU×(Int×(Bool×(LU×Unit))))) (out3:List (LU×(LI×Unit))) (met4:List (LU×Bool)) (name7:LU) (of9:List (LU×(Int×(Bool×(LU×Unit))))) (s13:List (LU×(Int×(Bool×(LU×Unit))))) (s14:Int) (s15:Int) (s37:LI) (s38:Int) (s39:Int):OA :=
 bif (decide (s39 < s38)) then
 bif ((decide (0≤s39))&&(decide (s39 < s37.length))) then
 bif ((decide (0≤(s37.getD s39.toNat 0)))&&(decide ((s37.getD s39.toNat 0) < l0.length))) then
 bif (decide (of9.length+List.length ([(l0.getD (s37.getD s39.toNat 0).toNat (([]:LU),((0:Int),(false,(([]:LU),())))))]:List (LU×(Int×(Bool×(LU×Unit)))))≤room)) then
 next l0 out3 met4 name7 (of9++([(l0.getD (s37.getD s39.toNat 0).toNat (([]:LU),((0:Int),(false,(([]:LU),())))))]:List (LU×(Int×(Bool×(LU×Unit)))))) s13 s14 s15 s37 s38 (IntKind.wrap .i64 (s39+1))
 else none
 else none
 else none
 else
 k2 l0 out3 met4 name7 of9 s13 s14 s15
def qiN (k2:List (LU×(Int×(Bool×(LU×Unit))))→List (LU×(LI×Unit))→List (LU×Bool)→LU→List (LU×(Int×(Bool×(LU×Unit))))→List (LU×(Int×(Bool×(LU×Unit))))→Int→Int→OA):Nat→List (LU×(Int×(Bool×(LU×Unit))))→List (LU×(LI×Unit))→List (LU×Bool)→LU→List (LU×(Int×(Bool×(LU×Unit))))→List (LU×(Int×(Bool×(LU×Unit))))→Int→Int→LI→Int→Int→OA
 | 0=>fun _ _ _ _ _ _ _ _ _ _ _=>none
 | n+1=>qdI k2 (qiN k2 n) n
def qdJ (_k0:List (LU×(LI×Unit))→OA) (next:List (LU×(Int×(Bool×(LU×Unit))))→List (LU×(LI×Unit))→List (LU×Bool)→List (LU×(Int×(Bool×(LU×Unit))))→Int→Int→OA) (_n:Nat) (l0:List (LU×(Int×(Bool×(LU×Unit))))) (out3:List (LU×(LI×Unit))) (met4:List (LU×Bool)) (name7:LU) (of9:List (LU×(Int×(Bool×(LU×Unit))))) (s13:List (LU×(Int×(Bool×(LU×Unit))))) (s14:Int) (s15:Int):OA :=
 bif ((quX of9)&&true) then
 bif (decide (out3.length+List.length ([(name7,((z30 of9),()))]:List (LU×(LI×Unit)))≤room)) then
 next l0 (out3++([(name7,((z30 of9),()))]:List (LU×(LI×Unit)))) met4 s13 s14 (IntKind.wrap .i64 (s15+1))
 else none
 else none
def qam (s13:List (LU×(Int×(Bool×(LU×Unit))))) (s15:Int):=(z28 (s13.getD s15.toNat (([]:LU),((0:Int),(false,(([]:LU),()))))).1)
def qel (k0:List (LU×(LI×Unit))→OA) (next:List (LU×(Int×(Bool×(LU×Unit))))→List (LU×(LI×Unit))→List (LU×Bool)→List (LU×(Int×(Bool×(LU×Unit))))→Int→Int→OA) (n:Nat) (l0:List (LU×(Int×(Bool×(LU×Unit))))) (out3:List (LU×(LI×Unit))) (met4:List (LU×Bool)) (s13:List (LU×(Int×(Bool×(LU×Unit))))) (s14:Int) (s15:Int):OA :=
 bif (decide (s15 < s14)) then bif ((decide (0≤s15))&&(decide (s15 < s13.length))) then bif ((qgX (s13.getD s15.toNat (([]:LU),((0:Int),(false,(([]:LU),()))))).1)&&true) then bif ((quW l0 (qam s13 s15))&&true) then bif (Option.getD (@findM .str .bool (qam s13 s15) met4) false) then next l0 out3 met4 s13 s14 (IntKind.wrap .i64 (s15+1)) else bif (((z29 l0 (qam s13 s15)).length:Int)==(0:Int)) then next l0 out3 met4 s13 s14 (IntKind.wrap .i64 (s15+1)) else qiN (qdJ k0 next n) n l0 out3 (@putM .str .bool (qam s13 s15) true met4) (qam s13 s15) ([]:List (LU×(Int×(Bool×(LU×Unit))))) s13 s14 s15 (z29 l0 (qam s13 s15)) ((z29 l0 (qam s13 s15)).length:Int) (0:Int) else none else none else none else k0 out3
def qnI (k0:List (LU×(LI×Unit))→OA):Nat→List (LU×(Int×(Bool×(LU×Unit))))→List (LU×(LI×Unit))→List (LU×Bool)→List (LU×(Int×(Bool×(LU×Unit))))→Int→Int→OA
 | 0=>fun _ _ _ _ _ _=>none
 | n+1=>qel k0 (qnI k0 n) n
def qem (_n:Nat) (out3:List (LU×(LI×Unit))):OA :=
 qjR out3
def qJM (n:Nat) (l0:List (LU×(Int×(Bool×(LU×Unit))))):OA :=
 qnI (qem n) n l0 ([]:List (LU×(LI×Unit))) ([]:List (LU×Bool)) l0 (l0.length:Int) (0:Int)
def qzU (s4:Int):OA:=some (dc s4)
def qJN (_n:Nat) (s0:LU) (at1:Int):OA :=
 qzU (bif (decide ((s0.length:Int) < (bif (decide ((0:Int) > at1)) then (0:Int) else at1))) then (s0.length:Int) else (bif (decide ((0:Int) > at1)) then (0:Int) else at1))
def qfW (s4:Bool) (s56:Int×(Int×(Bool×Unit))):OA:=some (.tup [(dg s4),(.pbox (.ppair (.leaf (.int .i64)) (.ppair (.leaf (.int .i64)) (.ppair (.leaf .bool) (.leaf .unit)))) s56 none),.bad])
def qbO (k0:Int×(Int×(Bool×Unit))):=((IntKind.wrap .i64 (k0.1+1)),k0.2)
def qzV (_n:Nat) (k0:Int×(Int×(Bool×Unit))) (c1:UInt8):OA :=
 bif k0.2.2.1 then qfW false (k0.1,(k0.2.1,(false,k0.2.2.2))) else bif (c1==(92:UInt8)) then qfW false (k0.1,(k0.2.1,(true,k0.2.2.2))) else bif (c1==(40:UInt8)) then qfW false ((qbO k0).1,((bif (decide ((qbO k0).1 > (qbO k0).2.1)) then (qbO k0).1 else (qbO k0).2.1),(qbO k0).2.2)) else bif (c1==(41:UInt8)) then qfW (((IntKind.wrap .i64 (k0.1 - (1:Int))),k0.2).1==(0:Int)) ((IntKind.wrap .i64 (k0.1 - (1:Int))),k0.2) else qfW false k0
def qnJ (s2:Int) (s3:Int):OA:=some (.tup [(dc s2),(dc s3)])
def qfX (ret:Int→Int→OA) (k0:LU→Int×(Int×(Bool×Unit))→OA) (next:LU→Int×(Int×(Bool×Unit))→LU→Int→Int→OA) (_n:Nat) (s0:LU) (k4:Int×(Int×(Bool×Unit))) (s12:LU) (s13:Int) (s14:Int):OA :=
 bif (decide (s14 < s13)) then
 bif ((decide (0≤s14))&&(decide (s14 < s12.length))) then
 bif (qsq k4 (s12.getD s14.toNat (0:UInt8))) then
 bif ((z100 k4 (s12.getD s14.toNat (0:UInt8))).1) then
 ret (IntKind.wrap .i64 (s14+1)) ((z100 k4 (s12.getD s14.toNat (0:UInt8))).2).2.1
 else
 next s0 ((z100 k4 (s12.getD s14.toNat (0:UInt8))).2) s12 s13 (IntKind.wrap .i64 (s14+1))
 else none
 else none
 else
 k0 s0 k4
def qpD (ret:Int→Int→OA) (k0:LU→Int×(Int×(Bool×Unit))→OA):Nat→LU→Int×(Int×(Bool×Unit))→LU→Int→Int→OA
 | 0=>fun _ _ _ _ _=>none
 | n+1=>qfX ret k0 (qpD ret k0 n) n
def qiO (_n:Nat) (s0:LU) (k4:Int×(Int×(Bool×Unit))):OA :=
 qnJ (s0.length:Int) k4.2.1
def qJO (n:Nat) (s0:LU):OA :=
 qpD qnJ (qiO n) n s0 ((0:Int),((0:Int),(false,()))) s0 (s0.length:Int) (0:Int)
def qjS (s4:Int):OA:=some (dc s4)
def qbf (s0:LU) (at1:Int):=(s0.getD at1.toNat (0:UInt8))
def qlB (ret:Int→OA) (k0:Int→OA) (next:LU→Int→OA) (_n:Nat) (s0:LU) (at1:Int):OA :=
 bif (decide (at1 < (s0.length:Int))) then bif ((decide (0≤at1))&&(decide (at1 < s0.length))) then bif ((qbf s0 at1)==(40:UInt8)) then bif (((decide (0≤at1))&&(decide (at1≤(s0.length:Int))))&&(decide ((s0.length:Int)≤(s0.length:Int)))) then bif ((qEe (List.drop at1.toNat (List.take (s0.length:Int).toNat s0)))&&true) then next s0 (IntKind.wrap .i64 (at1+((z78 (List.drop at1.toNat (List.take (s0.length:Int).toNat s0))).1))) else none else none else bif ((qbf s0 at1)==(13:UInt8)) then bif ((qbf s0 at1)==(13:UInt8)) then next s0 (IntKind.wrap .i64 (at1+1)) else ret at1 else bif ((qbf s0 at1)==(10:UInt8)) then bif ((qbf s0 at1)==(10:UInt8)) then next s0 (IntKind.wrap .i64 (at1+1)) else ret at1 else bif (z77 (qbf s0 at1) (2:Int)) then next s0 (IntKind.wrap .i64 (at1+1)) else ret at1 else none else k0 at1
def qpE (ret:Int→OA) (k0:Int→OA):Nat→LU→Int→OA
 | 0=>fun _ _=>none
 | n+1=>qlB ret k0 (qpE ret k0 n) n
def qiP (_n:Nat) (at1:Int):OA :=
 qjS at1
def qJP (n:Nat) (s0:LU) (at1:Int):OA :=
 qpE qjS (qiP n) n s0 (z76 s0 at1)
def qgK (s2:LU) (s3:Int) (s4:Int):OA:=some (.tup [(da s2),(dc s3),(dc s4)])
def qag (s19:LU) (s21:Int):=(s19.getD s21.toNat (0:UInt8))
def qbn (ret:LU→Int→Int→OA) (k0:OA) (next:LU→Bool→LU→Int→Int→OA) (_n:Nat) (out5:LU) (taken6:Bool) (s19:LU) (s20:Int) (s21:Int):OA :=
 bif (decide (s21 < s20)) then bif ((decide (0≤s21))&&(decide (s21 < s19.length))) then bif taken6 then bif (decide (out5.length+List.length ([(qag s19 s21)]:LU)≤room)) then next (out5++([(qag s19 s21)]:LU)) false s19 s20 (IntKind.wrap .i64 (s21+1)) else none else bif ((qag s19 s21)==(34:UInt8)) then ret out5 (IntKind.wrap .i64 (s21+(2:Int))) (0:Int) else bif ((qag s19 s21)==(92:UInt8)) then next out5 true s19 s20 (IntKind.wrap .i64 (s21+1)) else bif (decide (out5.length+List.length ([(qag s19 s21)]:LU)≤room)) then next (out5++([(qag s19 s21)]:LU)) taken6 s19 s20 (IntKind.wrap .i64 (s21+1)) else none else none else k0
def qlC (ret:LU→Int→Int→OA) (k0:OA):Nat→LU→Bool→LU→Int→Int→OA
 | 0=>fun _ _ _ _ _=>none
 | n+1=>qbn ret k0 (qlC ret k0 n) n
def qfY (_n:Nat):OA :=
 qgK ([]:LU) (0:Int) (4:Int)
def qER (n:Nat) (s0:LU):OA :=
 bif ((s0.length:Int)==(0:Int)) then
 qgK ([]:LU) (0:Int) (3:Int)
 else
 bif ((decide (0≤(0:Int)))&&(decide ((0:Int) < s0.length))) then
 bif ((s0.getD (0:Int).toNat (0:UInt8)) != (34:UInt8)) then
 qgK ([]:LU) (0:Int) (3:Int)
 else
 bif (((decide (0≤(1:Int)))&&(decide ((1:Int)≤(s0.length:Int))))&&(decide ((s0.length:Int)≤(s0.length:Int)))) then
 qlC qgK (qfY n) n ([]:LU) false (List.drop (1:Int).toNat (List.take (s0.length:Int).toNat s0)) ((List.drop (1:Int).toNat (List.take (s0.length:Int).toNat s0)).length:Int) (0:Int)
 else none
 else none
def qnK (s2:Int):OA:=some (dc s2)
def qJQ (_n:Nat) (s0:LU):OA :=
 bif ((decide (0≤(0:Int)))&&(decide ((0:Int) < s0.length))) then
 bif ((s0.getD (0:Int).toNat (0:UInt8))==(34:UInt8)) then
 bif ((quU s0)&&true) then
 bif (((z75 s0).2.2) != (0:Int)) then
 qnK (s0.length:Int)
 else
 qnK ((z75 s0).2.1)
 else none
 else
 bif ((s0.getD (0:Int).toNat (0:UInt8))==(40:UInt8)) then
 bif ((qiy s0 (0:Int))&&true) then
 qnK (z54 s0 (0:Int))
 else none
 else
 qnK (1:Int)
 else none
def qzW (s2:List LU):OA:=some (.dat (.sl (.sl .byte)) s2 (some (2,22)))
def qlD (k0:LU→List LU→OA) (next:LU→List LU→Int→OA) (_n:Nat) (s0:LU) (l3:List LU) (at4:Int):OA :=
 bif (decide (at4 < (s0.length:Int))) then
 bif ((decide (0≤at4))&&(decide (at4 < s0.length))) then
 bif ((s0.getD at4.toNat (0:UInt8)) != (59:UInt8)) then
 bif (((decide (0≤at4))&&(decide (at4≤(s0.length:Int))))&&(decide ((s0.length:Int)≤(s0.length:Int)))) then
 bif ((quV (List.drop at4.toNat (List.take (s0.length:Int).toNat s0)))&&true) then
 next s0 l3 (IntKind.wrap .i64 (at4+(z52 (List.drop at4.toNat (List.take (s0.length:Int).toNat s0)))))
 else none
 else none
 else
 bif (((decide (0≤((0:Nat):Int)))&&(decide (((0:Nat):Int)≤at4)))&&(decide (at4≤(s0.length:Int)))) then
 bif ((qcQ (List.drop ((0:Nat):Int).toNat (List.take at4.toNat s0)))&&true) then
 bif (decide (l3.length+List.length ([(z43 (List.drop ((0:Nat):Int).toNat (List.take at4.toNat s0)))]:List LU)≤room)) then
 bif (((decide (0≤(IntKind.wrap .i64 (at4+1))))&&(decide ((IntKind.wrap .i64 (at4+1))≤(s0.length:Int))))&&(decide ((s0.length:Int)≤(s0.length:Int)))) then
 next (List.drop (IntKind.wrap .i64 (at4+1)).toNat (List.take (s0.length:Int).toNat s0)) (l3++([(z43 (List.drop ((0:Nat):Int).toNat (List.take at4.toNat s0)))]:List LU)) (0:Int)
 else none
 else none
 else none
 else none
 else none
 else
 k0 s0 l3
def qnL (k0:LU→List LU→OA):Nat→LU→List LU→Int→OA
 | 0=>fun _ _ _=>none
 | n+1=>qlD k0 (qnL k0 n) n
def qen (_n:Nat) (s0:LU) (l3:List LU):OA :=
 bif ((qcQ s0)&&true) then
 bif (decide (l3.length+List.length ([(z43 s0)]:List LU)≤room)) then
 qzW (l3++([(z43 s0)]:List LU))
 else none
 else none
def qJR (n:Nat) (s0:LU):OA :=
 qnL (qen n) n s0 ([]:List LU) (0:Int)
def qsU (s4:LU) (s5:Int) (s6:Int):OA:=some (.tup [(da s4),(dc s5),(dc s6)])
def qfZ (k0:LU→Int→Int→OA) (next:LU→Int→Int→OA) (_n:Nat) (s0:LU) (at1:Int) (n7:Int):OA :=
 bif (decide (n7 < (s0.length:Int))) then
 bif ((decide (0≤n7))&&(decide (n7 < s0.length))) then
 bif (z77 (s0.getD n7.toNat (0:UInt8)) (64:Int)) then
 next s0 at1 (IntKind.wrap .i64 (n7+1))
 else
 k0 s0 at1 n7
 else none
 else
 k0 s0 at1 n7
def qpF (k0:LU→Int→Int→OA):Nat→LU→Int→Int→OA
 | 0=>fun _ _ _=>none
 | n+1=>qfZ k0 (qpF k0 n) n
def qiQ (_n:Nat) (s0:LU) (at1:Int) (n7:Int):OA :=
 bif (at1==(s0.length:Int)) then
 qsU ([]:LU) (0:Int) (4:Int)
 else
 bif (n7==at1) then
 qsU ([]:LU) (0:Int) (3:Int)
 else
 bif (((decide (0≤at1))&&(decide (at1≤n7)))&&(decide (n7≤(s0.length:Int)))) then
 bif ((qcQ (List.drop at1.toNat (List.take n7.toNat s0)))&&true) then
 qsU (z43 (List.drop at1.toNat (List.take n7.toNat s0))) n7 (0:Int)
 else none
 else none
def qES (n:Nat) (s0:LU) (at1:Int):OA :=
 qpF (qiQ n) n s0 (z76 s0 at1) (z76 s0 at1)
def qsV (s6:Int) (s7:Bool):OA:=some (.tup [(dc s6),(dg s7)])
def qJS (_n:Nat) (s0:LU) (at1:Int) (c2:UInt8):OA :=
 bif ((qiy s0 at1)&&true) then
 bif ((z54 s0 at1)==(s0.length:Int)) then
 qsV (z76 s0 at1) false
 else
 bif ((decide (0≤(z54 s0 at1)))&&(decide ((z54 s0 at1) < s0.length))) then
 bif ((s0.getD (z54 s0 at1).toNat (0:UInt8)) != c2) then
 qsV (z76 s0 at1) false
 else
 qsV (IntKind.wrap .i64 ((z54 s0 at1)+1)) true
 else none
 else none
def qnM (s4:LU) (s5:Int) (s6:Int):OA:=some (.tup [(da s4),(dc s5),(dc s6)])
def qdK (s0:LU) (at1:Int):=(List.drop (z76 s0 at1).toNat (List.take (s0.length:Int).toNat s0))
def qJT (_n:Nat) (s0:LU) (at1:Int):OA :=
 bif ((z76 s0 at1)==(s0.length:Int)) then bif ((qpj s0 (z76 s0 at1))&&true) then qnM ((z53 s0 (z76 s0 at1)).1) ((z53 s0 (z76 s0 at1)).2.1) ((z53 s0 (z76 s0 at1)).2.2) else none else bif ((decide (0≤(z76 s0 at1)))&&(decide ((z76 s0 at1) < s0.length))) then bif ((s0.getD (z76 s0 at1).toNat (0:UInt8)) != (34:UInt8)) then bif ((qpj s0 (z76 s0 at1))&&true) then qnM ((z53 s0 (z76 s0 at1)).1) ((z53 s0 (z76 s0 at1)).2.1) ((z53 s0 (z76 s0 at1)).2.2) else none else bif (((decide (0≤(z76 s0 at1)))&&(decide ((z76 s0 at1)≤(s0.length:Int))))&&(decide ((s0.length:Int)≤(s0.length:Int)))) then bif ((quU (qdK s0 at1))&&true) then bif (((z75 (qdK s0 at1)).2.2) != (0:Int)) then qnM ([]:LU) (0:Int) ((z75 (qdK s0 at1)).2.2) else qnM ((z75 (qdK s0 at1)).1) (IntKind.wrap .i64 ((z76 s0 at1)+((z75 (qdK s0 at1)).2.1))) (0:Int) else none else none else none
def qzX (s2:Bool):OA:=some (dg s2)
def qJU (_n:Nat) (part0:LU):OA :=
 bif ((qiy part0 (0:Int))&&true) then
 qzX ((z54 part0 (0:Int))==(part0.length:Int))
 else none
def qzY (s4:Int):OA:=some (dc s4)
def qdL (k0:Int→OA) (next:Int→Int→LU→Int→Int→OA) (_n:Nat) (kinds1:Int) (n5:Int) (s8:LU) (s9:Int) (s10:Int):OA :=
 bif (decide (s10 < s9)) then
 bif ((decide (0≤s10))&&(decide (s10 < s8.length))) then
 bif (z77 (s8.getD s10.toNat (0:UInt8)) kinds1) then
 next kinds1 (IntKind.wrap .i64 (n5+1)) s8 s9 (IntKind.wrap .i64 (s10+1))
 else
 next kinds1 n5 s8 s9 (IntKind.wrap .i64 (s10+1))
 else none
 else
 k0 n5
def qfg (k0:Int→OA):Nat→Int→Int→LU→Int→Int→OA
 | 0=>fun _ _ _ _ _=>none
 | n+1=>qdL k0 (qfg k0 n) n
def qfh (_n:Nat) (n5:Int):OA :=
 qzY n5
def qsW (n:Nat) (s0:LU) (kinds1:Int):OA :=
 qfg (qfh n) n kinds1 (0:Int) s0 (s0.length:Int) (0:Int)
def qzZ (s4:Bool):OA:=some (dg s4)
def qJV (_n:Nat) (s0:LU) (kinds1:Int):OA :=
 bif ((qqT s0 kinds1)&&true) then
 qzZ ((z101 s0 kinds1)==(s0.length:Int))
 else none
def qpG (s4:Bool):OA:=some (dg s4)
def qAa (_n:Nat) (s0:LU) (suffix1:LU):OA :=
 bif (decide ((suffix1.length:Int)≤(s0.length:Int))) then
 bif (((decide (0≤(IntKind.wrap .i64 ((s0.length:Int) - (suffix1.length:Int)))))&&(decide ((IntKind.wrap .i64 ((s0.length:Int) - (suffix1.length:Int)))≤(s0.length:Int))))&&(decide ((s0.length:Int)≤(s0.length:Int)))) then
 qpG (z33 (List.drop (IntKind.wrap .i64 ((s0.length:Int) - (suffix1.length:Int))).toNat (List.take (s0.length:Int).toNat s0)) suffix1)
 else none
 else
 qpG false
def qAb (before4:LU) (found5:Bool):OA:=some (.tup [(da before4),(dg found5)])
def qJW (_n:Nat) (s0:LU) (suffix1:LU):OA :=
 bif ((qqQ s0 suffix1)&&true) then
 bif (!(z102 s0 suffix1)) then
 qAb s0 false
 else
 bif (((decide (0≤((0:Nat):Int)))&&(decide (((0:Nat):Int)≤(IntKind.wrap .i64 ((s0.length:Int) - (suffix1.length:Int))))))&&(decide ((IntKind.wrap .i64 ((s0.length:Int) - (suffix1.length:Int)))≤(s0.length:Int)))) then
 qAb (List.drop ((0:Nat):Int).toNat (List.take (IntKind.wrap .i64 ((s0.length:Int) - (suffix1.length:Int))).toNat s0)) true
 else none
 else none
def qgL (s2:Int):OA:=some (dc s2)
def qdk (k0:Int→OA) (next:Int→LU→Int→Int→OA) (_n:Nat) (n3:Int) (s30:LU) (s31:Int) (s32:Int):OA :=
 bif (decide (s32 < s31)) then
 bif ((decide (0≤s32))&&(decide (s32 < s30.length))) then
 next (IntKind.wrap .i64 ((IntKind.wrap .i64 ((10:Int)*n3))+(IntKind.wrap .i64 ((UInt8.toNat ((s30.getD s32.toNat (0:UInt8)) - (48:UInt8)):Nat):Int)))) s30 s31 (IntKind.wrap .i64 (s32+1))
 else none
 else
 k0 n3
def qlE (k0:Int→OA):Nat→Int→LU→Int→Int→OA
 | 0=>fun _ _ _ _=>none
 | n+1=>qdk k0 (qlE k0 n) n
def qeo (_n:Nat) (n3:Int):OA :=
 qgL n3
def qET (n:Nat) (s0:LU):OA :=
 bif ((s0.length:Int)==(0:Int)) then
 qgL (-1:Int)
 else
 bif (decide ((3:Int) < (s0.length:Int))) then
 qgL (-1:Int)
 else
 bif ((qud s0 (8:Int))&&true) then
 bif (!(z79 s0 (8:Int))) then
 qgL (-1:Int)
 else
 bif ((decide (0≤(0:Int)))&&(decide ((0:Int) < s0.length))) then
 bif ((s0.getD (0:Int).toNat (0:UInt8))==(48:UInt8)) then
 bif (decide ((1:Int) < (s0.length:Int))) then
 qgL (-1:Int)
 else
 qlE (qeo n) n (0:Int) s0 (s0.length:Int) (0:Int)
 else
 qlE (qeo n) n (0:Int) s0 (s0.length:Int) (0:Int)
 else none
 else none
def qiR (s2:LU) (s3:Int) (s4:Bool):OA:=some (.tup [(da s2),(dc s3),(dg s4)])
def qbl (a0:LU):=(z65 (z28 a0) ([(42:UInt8)]:LU))
def qfi (a0:LU):=(z80 ((qbl a0).2.1) ([(42:UInt8)]:LU))
def qJX (_n:Nat) (a0:LU):OA :=
 bif ((qgX a0)&&true) then bif ((qmO (z28 a0) ([(42:UInt8)]:LU))&&true) then bif (!((qbl a0).2.2)) then qiR (z28 a0) (-1:Int) false else bif ((((qbl a0).1).length:Int)==(0:Int)) then qiR (z28 a0) (-1:Int) false else bif ((qud ((qbl a0).1) (256:Int))&&true) then bif (!(z79 ((qbl a0).1) (256:Int))) then qiR (z28 a0) (-1:Int) false else bif ((((qbl a0).2.1).length:Int)==(0:Int)) then qiR ((qbl a0).1) (-1:Int) true else bif ((qEd ((qbl a0).2.1) ([(42:UInt8)]:LU))&&true) then bif ((qEi ((qfi a0).1))&&true) then bif ((z81 ((qfi a0).1))==(-1:Int)) then qiR (z28 a0) (-1:Int) false else qiR ((qbl a0).1) (z81 ((qfi a0).1)) ((qfi a0).2) else none else none else none else none else none
def qjT (s2:LU×(Int×(Bool×(LU×Unit)))) (s3:Int):OA:=some (.tup [(.dat (.pair (.sl .byte) (.pair (.int .i64) (.pair .bool (.pair (.sl .byte) .unit)))) s2 none),(dc s3)])
def qlF (part0:LU):=(((z58 ((z53 part0 (z54 part0 (0:Int))).1)).1),(([]:LU),((0:Int),(false,(((z56 part0 (z54 part0 ((z55 part0 ((z53 part0 (z54 part0 (0:Int))).2.1) (61:UInt8)).1))).1),())))).2)
def qfj (part0:LU):=(z55 part0 ((z53 part0 (z54 part0 (0:Int))).2.1) (61:UInt8))
def qhB (part0:LU):=((qlF part0).1,(((z58 ((z53 part0 (z54 part0 (0:Int))).1)).2.1),(qlF part0).2.2))
def qfk:=(([]:LU),((0:Int),(false,(([]:LU),()))))
def qdM (part0:LU):=(z56 part0 (z54 part0 ((qfj part0).1)))
def qJY (_n:Nat) (part0:LU):OA :=
 bif ((qiy part0 (0:Int))&&true) then bif ((qpj part0 (z54 part0 (0:Int)))&&true) then bif (((z53 part0 (z54 part0 (0:Int))).2.2) != (0:Int)) then qjT (qfk) (3:Int) else bif ((qEf part0 ((z53 part0 (z54 part0 (0:Int))).2.1) (61:UInt8))&&true) then bif (!((qfj part0).2)) then qjT (qfk) (3:Int) else bif ((qiy part0 ((qfj part0).1))&&true) then bif ((qEg part0 (z54 part0 ((qfj part0).1)))&&true) then bif (((qdM part0).2.2) != (0:Int)) then qjT (qfk) (3:Int) else bif (((decide (0≤((qdM part0).2.1)))&&(decide (((qdM part0).2.1)≤(part0.length:Int))))&&(decide ((part0.length:Int)≤(part0.length:Int)))) then bif ((qEk (List.drop ((qdM part0).2.1).toNat (List.take (part0.length:Int).toNat part0)))&&true) then bif (!(z57 (List.drop ((qdM part0).2.1).toNat (List.take (part0.length:Int).toNat part0)))) then qjT (qfk) (3:Int) else bif ((qEj ((z53 part0 (z54 part0 (0:Int))).1))&&true) then qjT ((qhB part0).1,((qhB part0).2.1,(((z58 ((z53 part0 (z54 part0 (0:Int))).1)).2.2),(qhB part0).2.2.2))) (0:Int) else none else none else none else none else none else none else none else none
def qAc (s2:List (LU×(Int×(Bool×(LU×Unit))))):OA:=some (.dat (.sl (.pair (.sl .byte) (.pair (.int .i64) (.pair .bool (.pair (.sl .byte) .unit))))) s2 (some (2,59)))
def qga (k0:List (LU×(Int×(Bool×(LU×Unit))))→OA) (next:List (LU×(Int×(Bool×(LU×Unit))))→List LU→Int→Int→OA) (_n:Nat) (l3:List (LU×(Int×(Bool×(LU×Unit))))) (s9:List LU) (s10:Int) (s11:Int):OA :=
 bif (decide (s11 < s10)) then
 bif ((decide (0≤s11))&&(decide (s11 < s9.length))) then
 bif ((qEl (s9.getD s11.toNat ([]:LU)))&&true) then
 bif (((z32 (s9.getD s11.toNat ([]:LU))).2)==(0:Int)) then
 bif (decide (l3.length+List.length ([((z32 (s9.getD s11.toNat ([]:LU))).1)]:List (LU×(Int×(Bool×(LU×Unit)))))≤room)) then
 next (l3++([((z32 (s9.getD s11.toNat ([]:LU))).1)]:List (LU×(Int×(Bool×(LU×Unit)))))) s9 s10 (IntKind.wrap .i64 (s11+1))
 else none
 else
 next l3 s9 s10 (IntKind.wrap .i64 (s11+1))
 else none
 else none
 else
 k0 l3
def qpH (k0:List (LU×(Int×(Bool×(LU×Unit))))→OA):Nat→List (LU×(Int×(Bool×(LU×Unit))))→List LU→Int→Int→OA
 | 0=>fun _ _ _ _=>none
 | n+1=>qga k0 (qpH k0 n) n
def qgb (_n:Nat) (l3:List (LU×(Int×(Bool×(LU×Unit))))):OA :=
 qAc l3
def qEU (n:Nat) (s0:LU):OA :=
 bif ((qEh s0)&&true) then
 qpH (qgb n) n ([]:List (LU×(Int×(Bool×(LU×Unit))))) (z31 s0) ((z31 s0).length:Int) (0:Int)
 else none
def qOH (s2:List (LU×(LI×Unit))):OA:=some (.dat (.sl (.pair (.sl .byte) (.pair (.sl (.int .i32)) .unit))) s2 (some (2,31)))
def z7_sh (_n:Nat) (s0:LU):OA :=
 bif ((qEm s0)&&true) then
 bif ((qpk (z15 s0))&&true) then
 qOH (z14 (z15 s0))
 else none
 else none
def qjU (s4:Bool):OA:=some (dg s4)
def qgc (ret:Bool→OA) (k0:OA) (next:LI→LI→Int→OA) (_n:Nat) (a0:LI) (b1:LI) (i5:Int):OA :=
 bif (decide (i5 < (a0.length:Int))) then
 bif ((decide (0≤i5))&&(decide (i5 < a0.length))) then
 bif ((decide (0≤i5))&&(decide (i5 < b1.length))) then
 bif ((a0.getD i5.toNat 0) != (b1.getD i5.toNat 0)) then
 ret false
 else
 next a0 b1 (IntKind.wrap .i64 (i5+1))
 else none
 else none
 else
 k0
def qlG (ret:Bool→OA) (k0:OA):Nat→LI→LI→Int→OA
 | 0=>fun _ _ _=>none
 | n+1=>qgc ret k0 (qlG ret k0 n) n
def qlH (_n:Nat):OA :=
 qjU true
def qEV (n:Nat) (a0:LI) (b1:LI):OA :=
 bif ((a0.length:Int) != (b1.length:Int)) then
 qjU false
 else
 qlG qjU (qlH n) n a0 b1 (0:Int)
def qGQ (s3:Bool) (s9:LU):OA:=some (.tup [(dg s3),.bad,(.pbox (.leaf (.sl .byte)) s9 none)])
def qJZ (_n:Nat) (p0:LU×(LI×Unit)) (x1:LU):OA :=
 bif ((qoK p0.1 x1)&&true) then
 qGQ (z19 p0.1 x1) x1
 else none
def qcu (s4:Int) (s20:LU):OA:=some (.tup [(dc s4),.bad,(.pbox (.leaf (.sl .byte)) s20 none)])
def qaB (s0:List (LU×(LI×Unit))) (s8:Int):=(s0.getD s8.toNat (([]:LU),(([]:LI),())))
def qbx (ret:Int→LU→OA) (k0:LU→OA) (next:List (LU×(LI×Unit))→Int→Int→LU→OA) (_n:Nat) (s0:List (LU×(LI×Unit))) (s7:Int) (s8:Int) (s20:LU):OA :=
 bif (decide (s8 < s7)) then bif ((decide (0≤s8))&&(decide (s8 < s0.length))) then bif (qyG (qaB s0 s8) s20) then bif ((z18 (qaB s0 s8) s20).1) then ret s8 ((z18 (qaB s0 s8) s20).2) else next s0 s7 (IntKind.wrap .i64 (s8+1)) ((z18 (qaB s0 s8) s20).2) else none else none else k0 s20
def qcI (ret:Int→LU→OA) (k0:LU→OA):Nat→List (LU×(LI×Unit))→Int→Int→LU→OA
 | 0=>fun _ _ _ _=>none
 | n+1=>qbx ret k0 (qcI ret k0 n) n
def qcv (_n:Nat) (s20:LU):OA :=
 qcu (-1:Int) s20
def qlI (n:Nat) (s0:List (LU×(LI×Unit))) (f1:LU):OA :=
 qcI qcu (qcv n) n s0 (s0.length:Int) (0:Int) f1
def qAd (s4:LI) (s5:Bool):OA:=some (.tup [(.dat (.sl (.int .i32)) s4 none),(dg s5)])
def qKa (_n:Nat) (l0:List (LU×(LI×Unit))) (name1:LU):OA :=
 bif (qeT l0 name1) then
 bif (decide (((qiz l0 name1).1) < (0:Int))) then
 qAd ([]:LI) false
 else
 bif ((decide (0≤((qiz l0 name1).1)))&&(decide (((qiz l0 name1).1) < l0.length))) then
 bif ((qHU (l0.getD ((qiz l0 name1).1).toNat (([]:LU),(([]:LI),()))).2.1)&&true) then
 qAd (z20 (l0.getD ((qiz l0 name1).1).toNat (([]:LU),(([]:LI),()))).2.1) true
 else none
 else none
 else none
def qAe (s0:Bool):OA:=some (dg s0)
def qgd:=([(97:UInt8),(42:UInt8),(48:UInt8),(42:UInt8),(61:UInt8),(117:UInt8),(116:UInt8),(102:UInt8),(45:UInt8),(56:UInt8),(39:UInt8),(39:UInt8),(37:UInt8),(67:UInt8),(51:UInt8),(59:UInt8),(32:UInt8),(65:UInt8),(42:UInt8),(49:UInt8),(42:UInt8),(61:UInt8),(37:UInt8),(65:UInt8),(57:UInt8),(59:UInt8),(32:UInt8),(98:UInt8),(61:UInt8),(120:UInt8)]:LU)
def qpI:=(z11 (z7 (qgd)) ([(66:UInt8)]:LU))
def qAf:=((z7 (qgd)).getD (0:Int).toNat (([]:LU),(([]:LI),())))
def z5_sh (_n:Nat):OA :=
 bif ((z7_ok (qgd))&&true) then bif ((qEp (z7 (qgd)) ([(66:UInt8)]:LU))&&true) then bif (((z7 (qgd)).length:Int)==(2:Int)) then bif ((decide (0≤(0:Int)))&&(decide ((0:Int) < (z7 (qgd)).length))) then bif ((quc (qAf).2.1 ([(233:Int)]:LI))&&true) then bif (z10 (qAf).2.1 ([(233:Int)]:LI)) then bif ((quc ((qpI).1) ([(120:Int)]:LI))&&true) then bif (z10 ((qpI).1) ([(120:Int)]:LI)) then qAe ((qpI).2) else qAe false else none else qAe false else none else none else qAe false else none else none
def qAg (s2:Bool):OA:=some (dg s2)
def qKb (_n:Nat) (c0:Int):OA :=
 bif (decide ((55296:Int)≤c0)) then
 qAg (decide (c0≤(57343:Int)))
 else
 qAg false
def qsX (s2:Bool):OA:=some (dg s2)
def qKc (_n:Nat) (c0:Int):OA :=
 bif (decide (0≤c0)) then
 bif (decide (c0≤(1114111:Int))) then
 qsX (!(z34 c0))
 else
 qsX false
 else
 qsX false
def qiS (s2:Int):OA:=some (dc s2)
def qge (ret:Int→OA) (k0:OA) (next:LI→Int→OA) (_n:Nat) (t0:LI) (i3:Int):OA :=
 bif (decide (i3 < (t0.length:Int))) then
 bif ((decide (0≤i3))&&(decide (i3 < t0.length))) then
 bif (!(z21 (t0.getD i3.toNat 0))) then
 ret i3
 else
 next t0 (IntKind.wrap .i64 (i3+1))
 else none
 else
 k0
def qpJ (ret:Int→OA) (k0:OA):Nat→LI→Int→OA
 | 0=>fun _ _=>none
 | n+1=>qge ret k0 (qpJ ret k0 n) n
def qiT (_n:Nat):OA :=
 qiS (-1:Int)
def qEW (n:Nat) (t0:LI):OA :=
 qpJ qiS (qiT n) n t0 (0:Int)
def qgf (s4:Bool):OA:=some (dg s4)
def qdN (ret:Bool→OA) (k0:OA) (next:LU→UInt8→Int→OA) (_n:Nat) (s0:LU) (c1:UInt8) (i5:Int):OA :=
 bif (decide (i5 < (s0.length:Int))) then
 bif ((decide (0≤i5))&&(decide (i5 < s0.length))) then
 bif ((s0.getD i5.toNat (0:UInt8))==c1) then
 ret true
 else
 next s0 c1 (IntKind.wrap .i64 (i5+1))
 else none
 else
 k0
def qfl (ret:Bool→OA) (k0:OA):Nat→LU→UInt8→Int→OA
 | 0=>fun _ _ _=>none
 | n+1=>qdN ret k0 (qfl ret k0 n) n
def qfm (_n:Nat):OA :=
 qgf false
def qnN (n:Nat) (s0:LU) (c1:UInt8):OA :=
 qfl qgf (qfm n) n s0 c1 (0:Int)
def qGR (s4:Bool):OA:=some (dg s4)
def qOI (_n:Nat) (c0:UInt8) (kinds1:Int):OA :=
 qGR ((bits .and .i64 (z103 c0) kinds1) != (0:Int))
def qGS (s4:Int):OA:=some (dc s4)
def qgg (k0:Int→OA) (next:LU→Int→Int→Int→OA) (_n:Nat) (s0:LU) (kinds1:Int) (n5:Int) (i6:Int):OA :=
 bif (decide (i6 < (s0.length:Int))) then
 bif ((decide (0≤i6))&&(decide (i6 < s0.length))) then
 bif (z82 (s0.getD i6.toNat (0:UInt8)) kinds1) then
 next s0 kinds1 (IntKind.wrap .i64 (n5+1)) (IntKind.wrap .i64 (i6+1))
 else
 next s0 kinds1 n5 (IntKind.wrap .i64 (i6+1))
 else none
 else
 k0 n5
def qlJ (k0:Int→OA):Nat→LU→Int→Int→Int→OA
 | 0=>fun _ _ _ _=>none
 | n+1=>qgg k0 (qlJ k0 n) n
def qiU (_n:Nat) (n5:Int):OA :=
 qGS n5
def qEX (n:Nat) (s0:LU) (kinds1:Int):OA :=
 qlJ (qiU n) n s0 kinds1 (0:Int) (0:Int)
def qsY (s2:Bool):OA:=some (dg s2)
def qKd (_n:Nat) (name0:LU):OA :=
 bif (decide ((1:Int)≤(name0.length:Int))) then
 bif (decide ((name0.length:Int)≤(30:Int))) then
 bif ((quf name0 (256:Int))&&true) then
 qsY ((z59 name0 (256:Int))==(name0.length:Int))
 else none
 else
 qsY false
 else
 qsY false
def qgM (s4:Int):OA:=some (dc s4)
def qgh (ret:Int→OA) (k0:OA) (next:LI→Int→OA) (_n:Nat) (t1:LI) (i5:Int):OA :=
 bif (decide (i5 < (t1.length:Int))) then
 bif ((decide (0≤i5))&&(decide (i5 < t1.length))) then
 bif ((t1.getD i5.toNat 0)==(0:Int)) then
 ret (8:Int)
 else
 next t1 (IntKind.wrap .i64 (i5+1))
 else none
 else
 k0
def qlK (ret:Int→OA) (k0:OA):Nat→LI→Int→OA
 | 0=>fun _ _=>none
 | n+1=>qgh ret k0 (qlK ret k0 n) n
def qiV (_n:Nat):OA :=
 qgM (0:Int)
def qEY (n:Nat) (name0:LU) (t1:LI):OA :=
 bif ((qFZ name0)&&true) then
 bif (!(z35 name0)) then
 qgM (13:Int)
 else
 bif ((qGa t1)&&true) then
 bif (decide (0≤(z12 t1))) then
 qgM (7:Int)
 else
 qlK qgM (qiV n) n t1 (0:Int)
 else none
 else none
def qnO (s2:Bool):OA:=some (dg s2)
def qgi (ret:Bool→OA) (k0:OA) (next:LI→Int→OA) (_n:Nat) (t0:LI) (i3:Int):OA :=
 bif (decide (i3 < (t0.length:Int))) then
 bif ((decide (0≤i3))&&(decide (i3 < t0.length))) then
 bif (decide ((t0.getD i3.toNat 0) < (32:Int))) then
 ret false
 else
 bif ((decide (0≤i3))&&(decide (i3 < t0.length))) then
 bif (decide ((126:Int) < (t0.getD i3.toNat 0))) then
 ret false
 else
 next t0 (IntKind.wrap .i64 (i3+1))
 else none
 else none
 else
 k0
def qnP (ret:Bool→OA) (k0:OA):Nat→LI→Int→OA
 | 0=>fun _ _=>none
 | n+1=>qgi ret k0 (qnP ret k0 n) n
def qlL (_n:Nat):OA :=
 qnO true
def qEZ (n:Nat) (t0:LI):OA :=
 qnP qnO (qlL n) n t0 (0:Int)
def qGT (s2:LU):OA:=some (db s2 (some (2,5)))
def qaL (s0:LU) (i4:Int):=([(s0.getD i4.toNat (0:UInt8))]:LU)
def qbg (s0:LU) (i4:Int):=((decide (0≤i4))&&(decide (i4 < s0.length)))
def qgj (k0:LU→OA) (next:LU→LU→Int→OA) (_n:Nat) (s0:LU) (out3:LU) (i4:Int):OA :=
 bif (decide (i4 < (s0.length:Int))) then bif (qbg s0 i4) then bif ((s0.getD i4.toNat (0:UInt8))==(34:UInt8)) then bif (decide (out3.length+List.length ([(92:UInt8)]:LU)≤room)) then bif (qbg s0 i4) then bif (decide (List.length (out3++([(92:UInt8)]:LU))+List.length (qaL s0 i4)≤room)) then next s0 ((out3++([(92:UInt8)]:LU))++(qaL s0 i4)) (IntKind.wrap .i64 (i4+1)) else none else none else none else bif (qbg s0 i4) then bif ((s0.getD i4.toNat (0:UInt8))==(92:UInt8)) then bif (decide (out3.length+List.length ([(92:UInt8)]:LU)≤room)) then bif (qbg s0 i4) then bif (decide (List.length (out3++([(92:UInt8)]:LU))+List.length (qaL s0 i4)≤room)) then next s0 ((out3++([(92:UInt8)]:LU))++(qaL s0 i4)) (IntKind.wrap .i64 (i4+1)) else none else none else none else bif (qbg s0 i4) then bif (decide (out3.length+List.length (qaL s0 i4)≤room)) then next s0 (out3++(qaL s0 i4)) (IntKind.wrap .i64 (i4+1)) else none else none else none else none else k0 out3
def qpK (k0:LU→OA):Nat→LU→LU→Int→OA
 | 0=>fun _ _ _=>none
 | n+1=>qgj k0 (qpK k0 n) n
def qep (_n:Nat) (out3:LU):OA :=
 bif (decide (out3.length+List.length ([(34:UInt8)]:LU)≤room)) then
 qGT (out3++([(34:UInt8)]:LU))
 else none
def qFa (n:Nat) (s0:LU):OA :=
 qpK (qep n) n s0 ([(34:UInt8)]:LU) (0:Int)
def qsZ (s2:LU):OA:=some (da s2)
def qKe (_n:Nat) (s0:LU):OA :=
 bif (decide ((0:Int) < (s0.length:Int))) then
 bif ((quf s0 (64:Int))&&true) then
 bif ((z59 s0 (64:Int))==(s0.length:Int)) then
 qsZ s0
 else
 bif ((qAY s0)&&true) then
 qsZ (z60 s0)
 else none
 else none
 else
 bif ((qAY s0)&&true) then
 qsZ (z60 s0)
 else none
def qnQ (s4:LU):OA:=some (db s4 (some (4,5)))
def qgk (k0:LU→LU→OA) (next:LU→LI→LU→Int→OA) (_n:Nat) (name0:LU) (t1:LI) (b5:LU) (i6:Int):OA :=
 bif (decide (i6 < (t1.length:Int))) then
 bif ((decide (0≤i6))&&(decide (i6 < t1.length))) then
 bif (decide (b5.length+List.length ([(UInt8.ofNat (IntKind.wrap .u8 (t1.getD i6.toNat 0)).toNat)]:LU)≤room)) then
 next name0 t1 (b5++([(UInt8.ofNat (IntKind.wrap .u8 (t1.getD i6.toNat 0)).toNat)]:LU)) (IntKind.wrap .i64 (i6+1))
 else none
 else none
 else
 k0 name0 b5
def qpL (k0:LU→LU→OA):Nat→LU→LI→LU→Int→OA
 | 0=>fun _ _ _ _=>none
 | n+1=>qgk k0 (qpL k0 n) n
def qeq (_n:Nat) (name0:LU) (b5:LU):OA :=
 bif (decide (List.length ([]:LU)+name0.length≤room)) then
 bif (decide (List.length (([]:LU)++name0)+List.length ([(61:UInt8)]:LU)≤room)) then
 bif ((qFY b5)&&true) then
 bif (decide (List.length ((([]:LU)++name0)++([(61:UInt8)]:LU))+List.length (z37 b5)≤room)) then
 bif (decide ((74:Int) < ((((([]:LU)++name0)++([(61:UInt8)]:LU))++(z37 b5)).length:Int))) then
 qnQ ([]:LU)
 else
 qnQ (((([]:LU)++name0)++([(61:UInt8)]:LU))++(z37 b5))
 else none
 else none
 else none
 else none
def qFb (n:Nat) (name0:LU) (t1:LI):OA :=
 bif ((qmc name0 t1)&&true) then
 bif ((z22 name0 t1) != (0:Int)) then
 qnQ ([]:LU)
 else
 bif ((qGb t1)&&true) then
 bif (!(z36 t1)) then
 qnQ ([]:LU)
 else
 qpL (qeq n) n name0 t1 ([]:LU) (0:Int)
 else none
 else none
def qAh (s2:Int):OA:=some (di s2)
def qGU (_n:Nat) (x0:UInt8):OA :=
 qAh (IntKind.wrap .i32 ((UInt8.toNat x0:Nat):Int))
def qta (s2:UInt8) (s3:Bool):OA:=some (.tup [(dn s2),(dg s3)])
def qlM (ret:UInt8→Bool→OA) (k0:OA) (next:Int→Int→OA) (_n:Nat) (c0:Int) (n4:Int):OA :=
 bif (decide (n4 < (256:Int))) then
 bif ((z104 (UInt8.ofNat (IntKind.wrap .u8 n4).toNat))==c0) then
 bif (c0 != (65533:Int)) then
 ret (UInt8.ofNat (IntKind.wrap .u8 n4).toNat) true
 else
 next c0 (IntKind.wrap .i64 (n4+1))
 else
 next c0 (IntKind.wrap .i64 (n4+1))
 else
 k0
def qnR (ret:UInt8→Bool→OA) (k0:OA):Nat→Int→Int→OA
 | 0=>fun _ _=>none
 | n+1=>qlM ret k0 (qnR ret k0 n) n
def qlN (_n:Nat):OA :=
 qta (0:UInt8) false
def qFc (n:Nat) (c0:Int):OA :=
 qnR qta (qlN n) n c0 (0:Int)
def qcg (s2:Int):OA:=some (di s2)
def qAi (_n:Nat) (x0:UInt8):OA :=
 bif (x0==(164:UInt8)) then
 qcg (8364:Int)
 else
 bif (x0==(166:UInt8)) then
 qcg (352:Int)
 else
 bif (x0==(168:UInt8)) then
 qcg (353:Int)
 else
 bif (x0==(180:UInt8)) then
 qcg (381:Int)
 else
 bif (x0==(184:UInt8)) then
 qcg (382:Int)
 else
 bif (x0==(188:UInt8)) then
 qcg (338:Int)
 else
 bif (x0==(189:UInt8)) then
 qcg (339:Int)
 else
 bif (x0==(190:UInt8)) then
 qcg (376:Int)
 else
 qcg (IntKind.wrap .i32 ((UInt8.toNat x0:Nat):Int))
def qnS (s2:UInt8) (s3:Bool):OA:=some (.tup [(dn s2),(dg s3)])
def qlO (ret:UInt8→Bool→OA) (k0:OA) (next:Int→Int→OA) (_n:Nat) (c0:Int) (n4:Int):OA :=
 bif (decide (n4 < (256:Int))) then
 bif ((z105 (UInt8.ofNat (IntKind.wrap .u8 n4).toNat))==c0) then
 bif (c0 != (65533:Int)) then
 ret (UInt8.ofNat (IntKind.wrap .u8 n4).toNat) true
 else
 next c0 (IntKind.wrap .i64 (n4+1))
 else
 next c0 (IntKind.wrap .i64 (n4+1))
 else
 k0
def qpM (ret:UInt8→Bool→OA) (k0:OA):Nat→Int→Int→OA
 | 0=>fun _ _=>none
 | n+1=>qlO ret k0 (qpM ret k0 n) n
def qiW (_n:Nat):OA :=
 qnS (0:UInt8) false
def qFd (n:Nat) (c0:Int):OA :=
 qpM qnS (qiW n) n c0 (0:Int)
def qlP (s2:Int):OA:=some (di s2)
def qiX:=([(8364:Int),(65533:Int),(8218:Int),(402:Int),(8222:Int),(8230:Int),(8224:Int),(8225:Int),(710:Int),(8240:Int),(352:Int),(8249:Int),(338:Int),(65533:Int),(381:Int),(65533:Int),(65533:Int),(8216:Int),(8217:Int),(8220:Int),(8221:Int),(8226:Int),(8211:Int),(8212:Int),(732:Int),(8482:Int),(353:Int),(8250:Int),(339:Int),(65533:Int),(382:Int),(376:Int)]:LI)
def qAj (_n:Nat) (x0:UInt8):OA :=
 bif (decide (x0 < (128:UInt8))) then qlP (IntKind.wrap .i32 ((UInt8.toNat x0:Nat):Int)) else bif (decide ((159:UInt8) < x0)) then qlP (IntKind.wrap .i32 ((UInt8.toNat x0:Nat):Int)) else bif ((decide (0≤((UInt8.toNat (x0 - (128:UInt8)):Nat):Int)))&&(decide (((UInt8.toNat (x0 - (128:UInt8)):Nat):Int) < (qiX).length))) then qlP ((qiX).getD ((UInt8.toNat (x0 - (128:UInt8)):Nat):Int).toNat 0) else none
def qnT (s2:UInt8) (s3:Bool):OA:=some (.tup [(dn s2),(dg s3)])
def qlQ (ret:UInt8→Bool→OA) (k0:OA) (next:Int→Int→OA) (_n:Nat) (c0:Int) (n4:Int):OA :=
 bif (decide (n4 < (256:Int))) then
 bif ((z106 (UInt8.ofNat (IntKind.wrap .u8 n4).toNat))==c0) then
 bif (c0 != (65533:Int)) then
 ret (UInt8.ofNat (IntKind.wrap .u8 n4).toNat) true
 else
 next c0 (IntKind.wrap .i64 (n4+1))
 else
 next c0 (IntKind.wrap .i64 (n4+1))
 else
 k0
def qpN (ret:UInt8→Bool→OA) (k0:OA):Nat→Int→Int→OA
 | 0=>fun _ _=>none
 | n+1=>qlQ ret k0 (qpN ret k0 n) n
def qiY (_n:Nat):OA :=
 qnT (0:UInt8) false
def qFe (n:Nat) (c0:Int):OA :=
 qpN qnT (qiY n) n c0 (0:Int)
def qgN (s4:Bool):OA:=some (dg s4)
def qKf (_n:Nat) (charset0:Int) (c1:Int):OA :=
 bif (charset0==(1:Int)) then
 bif (decide (0≤c1)) then
 qgN (decide (c1 < (128:Int)))
 else
 qgN false
 else
 bif (charset0==(2:Int)) then
 qgN ((z84 c1).2)
 else
 bif (charset0==(3:Int)) then
 qgN ((z85 c1).2)
 else
 bif (charset0==(4:Int)) then
 qgN ((z86 c1).2)
 else
 bif (charset0==(5:Int)) then
 qgN (z21 c1)
 else
 qgN false
def qnU (s4:Int):OA:=some (dc s4)
def qgl (ret:Int→OA) (k0:OA) (next:Int→LI→Int→OA) (_n:Nat) (charset0:Int) (t1:LI) (i5:Int):OA :=
 bif (decide (i5 < (t1.length:Int))) then
 bif ((decide (0≤i5))&&(decide (i5 < t1.length))) then
 bif (!(z83 charset0 (t1.getD i5.toNat 0))) then
 ret i5
 else
 next charset0 t1 (IntKind.wrap .i64 (i5+1))
 else none
 else
 k0
def qpO (ret:Int→OA) (k0:OA):Nat→Int→LI→Int→OA
 | 0=>fun _ _ _=>none
 | n+1=>qgl ret k0 (qpO ret k0 n) n
def qiZ (_n:Nat):OA :=
 qnU (-1:Int)
def qFf (n:Nat) (charset0:Int) (t1:LI):OA :=
 qpO qnU (qiZ n) n charset0 t1 (0:Int)
def qtb (s4:Bool):OA:=some (dg s4)
def qKg (_n:Nat) (charset0:Int) (t1:LI):OA :=
 bif (decide ((1:Int)≤charset0)) then
 bif (decide (charset0≤(5:Int))) then
 bif ((qBO charset0 t1)&&true) then
 qtb (decide ((z61 charset0 t1) < (0:Int)))
 else none
 else
 qtb false
 else
 qtb false
def qfn (s2:Int) (s3:Int):OA:=some (.tup [(dc s2),(dc s3)])
def qgm (ret:Int→Int→OA) (k0:OA) (next:LI→Int→OA) (_n:Nat) (t0:LI) (n4:Int):OA :=
 bif (decide (n4≤(5:Int))) then
 bif ((qBP n4 t0)&&true) then
 bif (z38 n4 t0) then
 ret n4 (0:Int)
 else
 next t0 (IntKind.wrap .i64 (n4+1))
 else none
 else
 k0
def qlR (ret:Int→Int→OA) (k0:OA):Nat→LI→Int→OA
 | 0=>fun _ _=>none
 | n+1=>qgm ret k0 (qlR ret k0 n) n
def qer (_n:Nat):OA :=
 qfn (0:Int) (7:Int)
def qFg (n:Nat) (t0:LI):OA :=
 qlR qfn (qer n) n t0 (1:Int)
def qjV (s2:LU):OA:=some (db s2 (some (2,5)))
def qhC (c0:Int):=(UInt8.ofNat (IntKind.wrap .u8 (IntKind.wrap .i64 ((128:Int)+(Int.tmod (IntKind.wrap .i64 c0) (64:Int))))).toNat)
def qlS (c0:Int):=(UInt8.ofNat (IntKind.wrap .u8 (IntKind.wrap .i64 ((128:Int)+(Int.tmod (IntKind.wrap .i64 (Int.tdiv (IntKind.wrap .i64 c0) (64:Int))) (64:Int))))).toNat)
def qKh (_n:Nat) (c0:Int):OA :=
 bif (!(z21 c0)) then qjV ([]:LU) else bif (decide ((IntKind.wrap .i64 c0) < (128:Int))) then qjV ([(UInt8.ofNat (IntKind.wrap .u8 (IntKind.wrap .i64 c0)).toNat)]:LU) else bif (decide ((IntKind.wrap .i64 c0) < (2048:Int))) then qjV ([(UInt8.ofNat (IntKind.wrap .u8 (IntKind.wrap .i64 ((192:Int)+(IntKind.wrap .i64 (Int.tdiv (IntKind.wrap .i64 c0) (64:Int)))))).toNat),(qhC c0)]:LU) else bif (decide ((IntKind.wrap .i64 c0) < (65536:Int))) then qjV ([(UInt8.ofNat (IntKind.wrap .u8 (IntKind.wrap .i64 ((224:Int)+(IntKind.wrap .i64 (Int.tdiv (IntKind.wrap .i64 c0) (4096:Int)))))).toNat),(qlS c0),(qhC c0)]:LU) else qjV ([(UInt8.ofNat (IntKind.wrap .u8 (IntKind.wrap .i64 ((240:Int)+(IntKind.wrap .i64 (Int.tdiv (IntKind.wrap .i64 c0) (262144:Int)))))).toNat),(UInt8.ofNat (IntKind.wrap .u8 (IntKind.wrap .i64 ((128:Int)+(Int.tmod (IntKind.wrap .i64 (Int.tdiv (IntKind.wrap .i64 c0) (4096:Int))) (64:Int))))).toNat),(qlS c0),(qhC c0)]:LU)
def qja (s4:LU):OA:=some (db s4 (some (4,5)))
def qKi (_n:Nat) (charset0:Int) (c1:Int):OA :=
 bif (!(z83 charset0 c1)) then
 qja ([]:LU)
 else
 bif (charset0==(1:Int)) then
 qja ([(UInt8.ofNat (IntKind.wrap .u8 c1).toNat)]:LU)
 else
 bif (charset0==(2:Int)) then
 qja ([((z84 c1).1)]:LU)
 else
 bif (charset0==(3:Int)) then
 qja ([((z85 c1).1)]:LU)
 else
 bif (charset0==(4:Int)) then
 qja ([((z86 c1).1)]:LU)
 else
 qja (z87 c1)
def qgO (s4:LU) (s5:Int):OA:=some (.tup [(da s4),(dc s5)])
def qgn (ret:LU→Int→OA) (k0:LU→OA) (next:Int→LI→LU→Int→OA) (_n:Nat) (charset0:Int) (t1:LI) (out6:LU) (i7:Int):OA :=
 bif (decide (i7 < (t1.length:Int))) then
 bif ((decide (0≤i7))&&(decide (i7 < t1.length))) then
 bif (((z62 charset0 (t1.getD i7.toNat 0)).length:Int)==(0:Int)) then
 ret ([]:LU) (9:Int)
 else
 bif (decide (out6.length+List.length (z62 charset0 (t1.getD i7.toNat 0))≤room)) then
 next charset0 t1 (out6++(z62 charset0 (t1.getD i7.toNat 0))) (IntKind.wrap .i64 (i7+1))
 else none
 else none
 else
 k0 out6
def qpP (ret:LU→Int→OA) (k0:LU→OA):Nat→Int→LI→LU→Int→OA
 | 0=>fun _ _ _ _=>none
 | n+1=>qgn ret k0 (qpP ret k0 n) n
def qgo (_n:Nat) (out6:LU):OA :=
 qgO out6 (0:Int)
def qFh (n:Nat) (charset0:Int) (t1:LI):OA :=
 bif (decide (charset0 < (1:Int))) then
 qgO ([]:LU) (10:Int)
 else
 bif (decide ((5:Int) < charset0)) then
 qgO ([]:LU) (10:Int)
 else
 qpP qgO (qgo n) n charset0 t1 ([]:LU) (0:Int)
def qpQ (s2:UInt8):OA:=some (dn s2)
def qfo (n0:Int):=(Int.tmod (IntKind.wrap .i64 ((Int.tmod n0 (16:Int))+(16:Int))) (16:Int))
def qAk (_n:Nat) (n0:Int):OA :=
 bif (decide ((qfo n0) < (10:Int))) then qpQ (UInt8.ofNat (IntKind.wrap .u8 (IntKind.wrap .i64 ((48:Int)+(qfo n0)))).toNat) else qpQ (UInt8.ofNat (IntKind.wrap .u8 (IntKind.wrap .i64 ((IntKind.wrap .i64 ((65:Int)+(qfo n0))) - (10:Int)))).toNat)
def qGV (s6:LU):OA:=some (db s6 (some (6,5)))
def qfp (c2:UInt8):=(IntKind.wrap .i64 ((UInt8.toNat c2:Nat):Int))
def qlT (sign1:UInt8) (c2:UInt8):=([sign1,(z107 (IntKind.wrap .i64 (Int.tdiv (qfp c2) (16:Int)))),(z107 (Int.tmod (qfp c2) (16:Int)))]:LU)
def qKj (_n:Nat) (b0:LU) (sign1:UInt8) (c2:UInt8):OA :=
 bif (decide (List.length ([]:LU)+b0.length≤room)) then bif ((qdY (IntKind.wrap .i64 (Int.tdiv (qfp c2) (16:Int))))&&true) then bif ((qdY (Int.tmod (qfp c2) (16:Int)))&&true) then bif (decide (List.length (([]:LU)++b0)+List.length (qlT sign1 c2)≤room)) then qGV ((([]:LU)++b0)++(qlT sign1 c2)) else none else none else none else none
def qAl (s2:LU):OA:=some (db s2 (some (2,5)))
def qKk (_n:Nat) (c0:UInt8):OA :=
 bif (z82 c0 (256:Int)) then
 qAl ([c0]:LU)
 else
 bif ((qHZ ([]:LU) (37:UInt8) c0)&&true) then
 qAl (z88 ([]:LU) (37:UInt8) c0)
 else none
def qGW (s2:LU):OA:=some (db s2 (some (2,5)))
def qgp (k0:LU→OA) (next:LU→LU→Int→OA) (_n:Nat) (s0:LU) (out3:LU) (i4:Int):OA :=
 bif (decide (i4 < (s0.length:Int))) then
 bif ((decide (0≤i4))&&(decide (i4 < s0.length))) then
 bif (decide (out3.length+List.length (z63 (s0.getD i4.toNat (0:UInt8)))≤room)) then
 next s0 (out3++(z63 (s0.getD i4.toNat (0:UInt8)))) (IntKind.wrap .i64 (i4+1))
 else none
 else none
 else
 k0 out3
def qpR (k0:LU→OA):Nat→LU→LU→Int→OA
 | 0=>fun _ _ _=>none
 | n+1=>qgp k0 (qpR k0 n) n
def qgq (_n:Nat) (out3:LU):OA :=
 qGW out3
def qFi (n:Nat) (s0:LU):OA :=
 qpR (qgq n) n s0 ([]:LU) (0:Int)
def qAm (s2:List LU) (s3:Int):OA:=some (.tup [(.dat (.sl (.sl .byte)) s2 none),(dc s3)])
def qby (t0:LI) (i7:Int):=(List.drop i7.toNat (List.take (IntKind.wrap .i64 (i7+1)).toNat t0))
def qgr (k0:List LU→OA) (next:LI→Int→List LU→Int→OA) (_n:Nat) (t0:LI) (n4:Int) (out6:List LU) (i7:Int):OA :=
 bif (decide (i7 < (t0.length:Int))) then bif (((decide (0≤i7))&&(decide (i7≤(IntKind.wrap .i64 (i7+1)))))&&(decide ((IntKind.wrap .i64 (i7+1))≤(t0.length:Int)))) then bif ((qBT n4 (qby t0 i7))&&true) then bif ((qFX ((z39 n4 (qby t0 i7)).1))&&true) then bif (decide (out6.length+List.length ([(z40 ((z39 n4 (qby t0 i7)).1))]:List LU)≤room)) then next t0 n4 (out6++([(z40 ((z39 n4 (qby t0 i7)).1))]:List LU)) (IntKind.wrap .i64 (i7+1)) else none else none else none else none else k0 out6
def qpS (k0:List LU→OA):Nat→LI→Int→List LU→Int→OA
 | 0=>fun _ _ _ _=>none
 | n+1=>qgr k0 (qpS k0 n) n
def qgs (_n:Nat) (out6:List LU):OA :=
 qAm out6 (0:Int)
def qFj (n:Nat) (t0:LI):OA :=
 bif ((qtY t0)&&true) then
 bif (((z24 t0).2) != (0:Int)) then
 qAm ([]:List LU) ((z24 t0).2)
 else
 qpS (qgs n) n t0 ((z24 t0).1) ([]:List LU) (0:Int)
 else none
def qnV (s2:LU):OA:=some (db s2 (some (2,5)))
def qdO (p0:LU×(Int×(Bool×(LU×Unit)))):=((([]:LU)++p0.1)++([(42:UInt8)]:LU))
def qKl (_n:Nat) (p0:LU×(Int×(Bool×(LU×Unit)))):OA :=
 bif (decide (List.length ([]:LU)+List.length p0.1≤room)) then bif (decide (0≤p0.2.1)) then bif (decide (List.length (([]:LU)++p0.1)+List.length ([(42:UInt8)]:LU)≤room)) then bif ((qBa p0.2.1)&&true) then bif (decide (List.length (qdO p0)+List.length (z64 p0.2.1)≤room)) then bif p0.2.2.1 then bif (decide (List.length ((qdO p0)++(z64 p0.2.1))+List.length ([(42:UInt8)]:LU)≤room)) then qnV (((qdO p0)++(z64 p0.2.1))++([(42:UInt8)]:LU)) else none else qnV ((qdO p0)++(z64 p0.2.1)) else none else none else none else bif p0.2.2.1 then bif (decide (List.length (([]:LU)++p0.1)+List.length ([(42:UInt8)]:LU)≤room)) then qnV (qdO p0) else none else qnV (([]:LU)++p0.1) else none
def qAn (s6:LU):OA:=some (db s6 (some (6,5)))
def qfq (name0:LU) (n1:Int):=((z41 (name0,(n1,(true,(([]:LU),())))))++([(61:UInt8)]:LU))
def qKm (_n:Nat) (name0:LU) (n1:Int) (charset2:LU):OA :=
 bif ((qvx (name0,(n1,(true,(([]:LU),())))))&&true) then bif (decide (List.length (z41 (name0,(n1,(true,(([]:LU),())))))+List.length ([(61:UInt8)]:LU)≤room)) then bif (decide (n1≤(0:Int))) then bif (decide (List.length (qfq name0 n1)+charset2.length≤room)) then bif (decide (List.length ((qfq name0 n1)++charset2)+List.length ([(39:UInt8),(39:UInt8)]:LU)≤room)) then qAn (((qfq name0 n1)++charset2)++([(39:UInt8),(39:UInt8)]:LU)) else none else none else qAn (qfq name0 n1) else none else none
def qjb (s2:List LU):OA:=some (.dat (.sl .str) s2 (some (2,9)))
def qKn (_n:Nat) (n0:Int):OA :=
 bif (n0==(1:Int)) then
 qjb ([([117,115,45,97,115,99,105,105]:LU),([97,115,99,105,105]:LU),([97,110,115,105,95,120,51,46,52,45,49,57,54,56]:LU),([105,115,111,54,52,54,45,117,115]:LU)]:List LU)
 else
 bif (n0==(2:Int)) then
 qjb ([([105,115,111,45,56,56,53,57,45,49]:LU),([105,115,111,95,56,56,53,57,45,49]:LU),([108,97,116,105,110,49]:LU),([108,49]:LU)]:List LU)
 else
 bif (n0==(3:Int)) then
 qjb ([([105,115,111,45,56,56,53,57,45,49,53]:LU),([105,115,111,95,56,56,53,57,45,49,53]:LU),([108,97,116,105,110,45,57]:LU)]:List LU)
 else
 bif (n0==(4:Int)) then
 qjb ([([119,105,110,100,111,119,115,45,49,50,53,50]:LU),([99,112,49,50,53,50]:LU)]:List LU)
 else
 bif (n0==(5:Int)) then
 qjb ([([117,116,102,45,56]:LU),([117,116,102,56]:LU)]:List LU)
 else
 qjb ([]:List LU)
def qAo (s2:LU):OA:=some (df s2 none)
def qKo (_n:Nat) (n0:Int):OA :=
 bif (((z42 n0).length:Int)==(0:Int)) then
 qAo ([]:LU)
 else
 bif ((decide (0≤(0:Int)))&&(decide ((0:Int) < (z42 n0).length))) then
 qAo ((z42 n0).getD (0:Int).toNat ([]:LU))
 else none
def qnW (s4:List LU) (s5:Int):OA:=some (.tup [(.dat (.sl (.sl .byte)) s4 none),(dc s5)])
def qdP (k0:LU→Int→List LU→LU→OA) (next:LU→Int→List LU→LU→Int→OA) (_n:Nat) (name0:LU) (n8:Int) (units10:List LU) (whole12:LU) (i13:Int):OA :=
 bif (decide (i13 < (units10.length:Int))) then
 bif ((decide (0≤i13))&&(decide (i13 < units10.length))) then
 bif (decide (whole12.length+List.length (units10.getD i13.toNat ([]:LU))≤room)) then
 next name0 n8 units10 (whole12++(units10.getD i13.toNat ([]:LU))) (IntKind.wrap .i64 (i13+1))
 else none
 else none
 else
 k0 name0 n8 units10 whole12
def qgP (k0:LU→Int→List LU→LU→OA):Nat→LU→Int→List LU→LU→Int→OA
 | 0=>fun _ _ _ _ _=>none
 | n+1=>qdP k0 (qgP k0 n) n
def qO (out14:List LU):=(IntKind.wrap .i64 ((out14.length:Int) - (1:Int)))
def qL (out14:List LU):=(IntKind.wrap .i64 ((qO out14)+1))
def qaI (out14:List LU):=((decide (0≤(qO out14)))&&(decide ((qO out14) < out14.length)))
def qav (name0:LU) (out14:List LU):=([(z26 name0 (qL out14) ([]:LU))]:List LU)
def qaJ (out14:List LU):=(out14.getD (qO out14).toNat ([]:LU))
def qah (units10:List LU) (i16:Int):=(units10.getD i16.toNat ([]:LU))
def qbh (units10:List LU) (i16:Int):=((decide (0≤i16))&&(decide (i16 < units10.length)))
def qdQ (k2:List LU→OA) (next:LU→List LU→List LU→Bool→Int→OA) (_n:Nat) (name0:LU) (units10:List LU) (out14:List LU) (fresh15:Bool) (i16:Int):OA :=
 bif (decide (i16 < (units10.length:Int))) then bif (!fresh15) then bif (qaI out14) then bif (qbh units10 i16) then bif (decide ((74:Int) < (IntKind.wrap .i64 (((qaJ out14).length:Int)+((qah units10 i16).length:Int))))) then bif ((qgZ name0 (qL out14) ([]:LU))&&true) then bif (decide (out14.length+List.length (qav name0 out14)≤room)) then bif ((decide (0≤(qL out14)))&&(decide ((qL out14) < (out14++(qav name0 out14)).length))) then bif (qbh units10 i16) then bif (decide (List.length ((out14++(qav name0 out14)).getD (qL out14).toNat ([]:LU))+List.length (qah units10 i16)≤room)) then bif ((decide (0≤(qL out14)))&&(decide ((qL out14) < (out14++(qav name0 out14)).length))) then bif (((qL out14).toNat==(qL out14).toNat)&&true) then next name0 units10 (List.set (out14++(qav name0 out14)) (qL out14).toNat (((out14++(qav name0 out14)).getD (qL out14).toNat ([]:LU))++(qah units10 i16))) false (IntKind.wrap .i64 (i16+1)) else none else none else none else none else none else none else none else bif (qaI out14) then bif (qbh units10 i16) then bif (decide (List.length (qaJ out14)+List.length (qah units10 i16)≤room)) then bif (qaI out14) then bif (((qO out14).toNat==(qO out14).toNat)&&true) then next name0 units10 (List.set out14 (qO out14).toNat ((qaJ out14)++(qah units10 i16))) false (IntKind.wrap .i64 (i16+1)) else none else none else none else none else none else none else none else bif (qaI out14) then bif (qbh units10 i16) then bif (decide (List.length (qaJ out14)+List.length (qah units10 i16)≤room)) then bif (qaI out14) then bif (((qO out14).toNat==(qO out14).toNat)&&true) then next name0 units10 (List.set out14 (qO out14).toNat ((qaJ out14)++(qah units10 i16))) false (IntKind.wrap .i64 (i16+1)) else none else none else none else none else none else k2 out14
def qjc (k2:List LU→OA):Nat→LU→List LU→List LU→Bool→Int→OA
 | 0=>fun _ _ _ _ _=>none
 | n+1=>qdQ k2 (qjc k2 n) n
def qfr (_n:Nat) (out14:List LU):OA :=
 qnW out14 (0:Int)
def qdR (n:Nat) (name0:LU) (n8:Int) (units10:List LU) (whole12:LU):OA :=
 bif (decide ((whole12.length:Int)≤(74:Int))) then
 qnW ([whole12]:List LU) (0:Int)
 else
 bif ((qgZ name0 (0:Int) (z27 n8))&&true) then
 qjc (qfr n) n name0 units10 ([(z26 name0 (0:Int) (z27 n8))]:List LU) true (0:Int)
 else none
def qFk (n:Nat) (name0:LU) (t1:LI):OA :=
 bif ((qmc name0 t1)&&true) then
 bif ((z22 name0 t1) != (0:Int)) then
 qnW ([]:List LU) (z22 name0 t1)
 else
 bif ((qvy name0 t1)&&true) then
 bif (decide ((0:Int) < ((z23 name0 t1).length:Int))) then
 qnW ([(z23 name0 t1)]:List LU) (0:Int)
 else
 bif ((qtY t1)&&true) then
 bif ((qvz t1)&&true) then
 bif ((qgZ name0 (-1:Int) (z27 ((z24 t1).1)))&&true) then
 qgP (qdR n) n name0 ((z24 t1).1) ((z25 t1).1) (z26 name0 (-1:Int) (z27 ((z24 t1).1))) (0:Int)
 else none
 else none
 else none
 else none
 else none
def qOJ (s4:LU) (s5:Int):OA:=some (.tup [(da s4),(dc s5)])
def qdl:=([(59:UInt8),(13:UInt8),(10:UInt8),(32:UInt8)]:LU)
def qjW (k0:Int→LU→OA) (next:List LU→Int→LU→Int→OA) (_n:Nat) (l6:List LU) (e7:Int) (out8:LU) (i9:Int):OA :=
 bif (decide (i9 < (l6.length:Int))) then bif ((decide (0≤i9))&&(decide (i9 < l6.length))) then bif (decide (out8.length+List.length (qdl)≤room)) then bif (decide (List.length (out8++(qdl))+List.length (l6.getD i9.toNat ([]:LU))≤room)) then next l6 e7 ((out8++(qdl))++(l6.getD i9.toNat ([]:LU))) (IntKind.wrap .i64 (i9+1)) else none else none else none else k0 e7 out8
def z6_l4 (k0:Int→LU→OA):Nat→List LU→Int→LU→Int→OA
 | 0=>fun _ _ _ _=>none
 | n+1=>qjW k0 (z6_l4 k0 n) n
def qjX (_n:Nat) (e7:Int) (out8:LU):OA :=
 qOJ out8 e7
def z6_sh (n:Nat) (name0:LU) (t1:LI):OA :=
 bif ((qBb name0 t1)&&true) then
 z6_l4 (qjX n) n ((z13 name0 t1).1) ((z13 name0 t1).2) ([]:LU) (0:Int)
 else none
def qvl (s4:Bool):OA:=some (dg s4)
def qjY (ret:Bool→OA) (k0:OA) (next:LU→LU→Int→OA) (_n:Nat) (a0:LU) (b1:LU) (i5:Int):OA :=
 bif (decide (i5 < (a0.length:Int))) then
 bif ((decide (0≤i5))&&(decide (i5 < a0.length))) then
 bif ((decide (0≤i5))&&(decide (i5 < b1.length))) then
 bif ((a0.getD i5.toNat (0:UInt8)) != (b1.getD i5.toNat (0:UInt8))) then
 ret false
 else
 next a0 b1 (IntKind.wrap .i64 (i5+1))
 else none
 else none
 else
 k0
def z8_l4 (ret:Bool→OA) (k0:OA):Nat→LU→LU→Int→OA
 | 0=>fun _ _ _=>none
 | n+1=>qjY ret k0 (z8_l4 ret k0 n) n
def qtc (_n:Nat):OA :=
 qvl true
def z8_sh (n:Nat) (a0:LU) (b1:LU):OA :=
 bif ((a0.length:Int) != (b1.length:Int)) then
 qvl false
 else
 z8_l4 qvl (qtc n) n a0 b1 (0:Int)
def qtd (s2:UInt8):OA:=some (dn s2)
def qKp (_n:Nat) (c0:UInt8):OA :=
 bif (decide ((65:UInt8)≤c0)) then
 bif (decide (c0≤(90:UInt8))) then
 qtd (c0+(32:UInt8))
 else
 qtd c0
 else
 qtd c0
def qOK (s2:LU):OA:=some (db s2 (some (2,5)))
def qjZ (k0:LU→OA) (next:LU→LU→Int→OA) (_n:Nat) (s0:LU) (out3:LU) (i4:Int):OA :=
 bif (decide (i4 < (s0.length:Int))) then
 bif ((decide (0≤i4))&&(decide (i4 < s0.length))) then
 bif (decide (out3.length+List.length ([(z16 (s0.getD i4.toNat (0:UInt8)))]:LU)≤room)) then
 next s0 (out3++([(z16 (s0.getD i4.toNat (0:UInt8)))]:LU)) (IntKind.wrap .i64 (i4+1))
 else none
 else none
 else
 k0 out3
def z9_l3 (k0:LU→OA):Nat→LU→LU→Int→OA
 | 0=>fun _ _ _=>none
 | n+1=>qjZ k0 (z9_l3 k0 n) n
def qka (_n:Nat) (out3:LU):OA :=
 qOK out3
def z9_sh (n:Nat) (s0:LU):OA :=
 z9_l3 (qka n) n s0 ([]:LU) (0:Int)
def qnX (s4:Bool):OA:=some (dg s4)
def qjd (name0:LU) (t1:LI):=((z7 ((z6 name0 t1).1)).getD (0:Int).toNat (([]:LU),(([]:LI),())))
def z3_sh (_n:Nat) (name0:LU) (t1:LI):OA :=
 bif (decide ((100:Int) < (name0.length:Int))) then qnX z5 else bif (decide ((100:Int) < (t1.length:Int))) then qnX z5 else bif ((z6_ok name0 t1)&&true) then bif (((z6 name0 t1).2) != (0:Int)) then qnX z5 else bif ((z7_ok ((z6 name0 t1).1))&&true) then bif (((z7 ((z6 name0 t1).1)).length:Int)==(1:Int)) then bif ((decide (0≤(0:Int)))&&(decide ((0:Int) < (z7 ((z6 name0 t1).1)).length))) then bif ((z9_ok name0)&&true) then bif ((z8_ok (qjd name0 t1).1 (z9 name0))&&true) then bif (z8 (qjd name0 t1).1 (z9 name0)) then bif ((decide (0≤(0:Int)))&&(decide ((0:Int) < (z7 ((z6 name0 t1).1)).length))) then bif ((quc (qjd name0 t1).2.1 t1)&&true) then bif (z10 (qjd name0 t1).2.1 t1) then qnX z5 else qnX false else none else none else qnX false else none else none else none else qnX false else none else none
end
end Go.Av
