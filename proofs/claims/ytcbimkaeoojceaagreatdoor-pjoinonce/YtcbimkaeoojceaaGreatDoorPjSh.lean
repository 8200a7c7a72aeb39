import Derived.Test.YtcbimkaeoojceaaGreatDoorPjM
import Derived.Test.YtcbimkaeoojceaaGreatDoorAvE
namespace Go.Av
set_option linter.unusedSimpArgs false
set_option linter.unusedVariables false
noncomputable section
def qoE (s2:UInt8):Option AV:=some (di s2 none)
def qAX (_n:Nat) (c0:UInt8):Option AV :=
 bif (decide ((65:UInt8)≤c0)) then
 bif (decide (c0≤(90:UInt8))) then
 qoE (c0 ||| (32:UInt8))
 else
 qoE c0
 else
 qoE c0
def qyE (s2:List UInt8):Option AV:=some (db s2 (some (2,5)))
def qex (k0:List UInt8→Option AV) (next:List UInt8→Int→Int→Option AV) (_n:Nat) (out3:List UInt8) (s9:Int) (s10:Int):Option AV :=
 bif (decide (s10 < s9)) then
 bif ((decide (0≤s10))&&(decide (s10 < out3.length))) then
 bif ((decide (0≤s10))&&(decide (s10 < out3.length))) then
 next (List.set out3 s10.toNat (z44 (out3.getD s10.toNat (0:UInt8)))) s9 (IntKind.wrap .i64 (s10+1))
 else none
 else none
 else
 k0 out3
def qjg (k0:List UInt8→Option AV):Nat→List UInt8→Int→Int→Option AV
 | 0=>fun _ _ _=>none
 | n+1=>qex k0 (qjg k0 n) n
def qgO (_n:Nat) (out3:List UInt8):Option AV :=
 qyE out3
def qxy (n:Nat) (s0:List UInt8):Option AV :=
 bif ((qbY s0)&&true) then
 qjg (qgO n) n (z43 s0) ((z43 s0).length:Int) (0:Int)
 else none
def qyF (s4:Bool):Option AV:=some (dg s4)
def qEP (_n:Nat) (a0:List UInt8) (b1:List UInt8):Option AV :=
 qyF (a0==b1)
def qyG (s4:Bool):Option AV:=some (dg s4)
def qAY (_n:Nat) (a0:List UInt8) (b1:List UInt8):Option AV :=
 bif ((qfm a0)&&true) then
 bif ((qfm b1)&&true) then
 qyG (z33 (z28 a0) (z28 b1))
 else none
 else none
def qyH (s4:Int):Option AV:=some (dc s4)
def qEQ (_n:Nat) (b0:List UInt8) (c1:UInt8):Option AV :=
 qyH (z111 b0 c1)
def qtH (before4:List UInt8) (after5:List UInt8) (found6:Bool):Option AV:=some (.tup [(da before4),(da after5),(dg found6)])
def qAZ (_n:Nat) (s0:List UInt8) (sep1:List UInt8):Option AV :=
 bif ((qrR s0 sep1)&&true) then
 bif (decide (0≤(z89 s0 sep1))) then
 bif (((decide (0≤((0:Nat):Int)))&&(decide (((0:Nat):Int)≤(z89 s0 sep1))))&&(decide ((z89 s0 sep1)≤(s0.length:Int)))) then
 bif (((decide (0≤(IntKind.wrap .i64 ((z89 s0 sep1)+(sep1.length:Int)))))&&(decide ((IntKind.wrap .i64 ((z89 s0 sep1)+(sep1.length:Int)))≤(s0.length:Int))))&&(decide ((s0.length:Int)≤(s0.length:Int)))) then
 qtH (List.drop ((0:Nat):Int).toNat (List.take (z89 s0 sep1).toNat s0)) (List.drop (IntKind.wrap .i64 ((z89 s0 sep1)+(sep1.length:Int))).toNat (List.take (s0.length:Int).toNat s0)) true
 else none
 else none
 else
 qtH s0 ([]:List UInt8) false
 else none
def qoF (s2:List UInt8) (s3:List UInt8) (s4:Bool):Option AV:=some (.tup [(da s2),(da s3),(dg s4)])
def qbo (value0:List UInt8):=(z65 value0 ([(39:UInt8)]:List UInt8))
def qBa (_n:Nat) (value0:List UInt8):Option AV :=
 bif ((qkj value0 ([(39:UInt8)]:List UInt8))&&true) then bif ((qbo value0).2.2) then bif ((qkj ((qbo value0).2.1) ([(39:UInt8)]:List UInt8))&&true) then bif ((z65 ((qbo value0).2.1) ([(39:UInt8)]:List UInt8)).2.2) then bif ((qbY ((qbo value0).1))&&true) then bif ((qbY ((z65 ((qbo value0).2.1) ([(39:UInt8)]:List UInt8)).2.1))&&true) then qoF (z43 ((qbo value0).1)) (z43 ((z65 ((qbo value0).2.1) ([(39:UInt8)]:List UInt8)).2.1)) true else none else none else bif ((qbY value0)&&true) then qoF ([]:List UInt8) (z43 value0) false else none else none else bif ((qbY value0)&&true) then qoF ([]:List UInt8) (z43 value0) false else none else none
def qgP (s2:List (List UInt8)):Option AV:=some (.dat (.sl .str) s2 (some (2,9)))
def qBb (_n:Nat) (charset0:Int):Option AV :=
 bif (charset0==(1:Int)) then
 qgP ([([117,115,45,97,115,99,105,105]:List UInt8),([97,115,99,105,105]:List UInt8),([97,110,115,105,95,120,51,46,52,45,49,57,54,56]:List UInt8),([105,115,111,54,52,54,45,117,115]:List UInt8)]:List (List UInt8))
 else
 bif (charset0==(2:Int)) then
 qgP ([([105,115,111,45,56,56,53,57,45,49]:List UInt8),([105,115,111,95,56,56,53,57,45,49]:List UInt8),([108,97,116,105,110,49]:List UInt8),([108,49]:List UInt8)]:List (List UInt8))
 else
 bif (charset0==(3:Int)) then
 qgP ([([105,115,111,45,56,56,53,57,45,49,53]:List UInt8),([105,115,111,95,56,56,53,57,45,49,53]:List UInt8),([108,97,116,105,110,45,57]:List UInt8)]:List (List UInt8))
 else
 bif (charset0==(4:Int)) then
 qgP ([([119,105,110,100,111,119,115,45,49,50,53,50]:List UInt8),([99,112,49,50,53,50]:List UInt8)]:List (List UInt8))
 else
 bif (charset0==(5:Int)) then
 qgP ([([117,116,102,45,56]:List UInt8),([117,116,102,56]:List UInt8)]:List (List UInt8))
 else
 qgP ([]:List (List UInt8))
def qyI (s0:List ((List UInt8)×Int)):Option AV:=some (.abs (.sl (.pair .str (.int .i64))) (qen .str (.int .i64)) s0)
def qtI (k2:List ((List UInt8)×Int)→Int→Option AV) (next:List ((List UInt8)×Int)→Int→List (List UInt8)→Int→Int→Option AV) (_n:Nat) (m1:List ((List UInt8)×Int)) (n2:Int) (s11:List (List UInt8)) (s12:Int) (s13:Int):Option AV :=
 bif (decide (s13 < s12)) then
 bif ((decide (0≤s13))&&(decide (s13 < s11.length))) then
 next (@putM .str (.int .i64) (s11.getD s13.toNat ([]:List UInt8)) n2 m1) n2 s11 s12 (IntKind.wrap .i64 (s13+1))
 else none
 else
 k2 m1 n2
def qqq (k2:List ((List UInt8)×Int)→Int→Option AV):Nat→List ((List UInt8)×Int)→Int→List (List UInt8)→Int→Int→Option AV
 | 0=>fun _ _ _ _ _=>none
 | n+1=>qtI k2 (qqq k2 n) n
def qjh (_k0:List ((List UInt8)×Int)→Option AV) (next:List ((List UInt8)×Int)→Int→Option AV) (_n:Nat) (m1:List ((List UInt8)×Int)) (n2:Int):Option AV :=
 next m1 (IntKind.wrap .i64 (n2+1))
def qmi (k0:List ((List UInt8)×Int)→Option AV) (next:List ((List UInt8)×Int)→Int→Option AV) (n:Nat) (m1:List ((List UInt8)×Int)) (n2:Int):Option AV :=
 bif (decide (n2≤(5:Int))) then
 qqq (qjh k0 next n) n m1 n2 (z90 n2) ((z90 n2).length:Int) (0:Int)
 else
 k0 m1
def qqr (k0:List ((List UInt8)×Int)→Option AV):Nat→List ((List UInt8)×Int)→Int→Option AV
 | 0=>fun _ _=>none
 | n+1=>qmi k0 (qqr k0 n) n
def qji (_n:Nat) (m1:List ((List UInt8)×Int)):Option AV :=
 qyI m1
def qBc (n:Nat):Option AV :=
 qqr (qji n) n ([]:List ((List UInt8)×Int)) (1:Int)
def qmj (s4:List UInt8):Option AV:=some (da s4)
def qoG (k0:List UInt8→Option AV) (next:List UInt8→UInt8→Option AV) (_n:Nat) (s0:List UInt8) (c1:UInt8):Option AV :=
 bif (decide ((0:Int) < (s0.length:Int))) then
 bif ((decide (0≤(0:Int)))&&(decide ((0:Int) < s0.length))) then
 bif ((s0.getD (0:Int).toNat (0:UInt8))==c1) then
 bif (((decide (0≤(1:Int)))&&(decide ((1:Int)≤(s0.length:Int))))&&(decide ((s0.length:Int)≤(s0.length:Int)))) then
 next (List.drop (1:Int).toNat (List.take (s0.length:Int).toNat s0)) c1
 else none
 else
 k0 s0
 else none
 else
 k0 s0
def qhG (k0:List UInt8→Option AV):Nat→List UInt8→UInt8→Option AV
 | 0=>fun _ _=>none
 | n+1=>qoG k0 (qhG k0 n) n
def qfH (_n:Nat) (s0:List UInt8):Option AV :=
 bif ((s0.length:Int)==(0:Int)) then
 qmj ([]:List UInt8)
 else
 qmj s0
def qtJ (n:Nat) (s0:List UInt8) (c1:UInt8):Option AV :=
 qhG (qfH n) n s0 c1
def qtK (s4:List UInt8):Option AV:=some (da s4)
def qaC (s0:List UInt8):=(IntKind.wrap .i64 ((s0.length:Int) - (1:Int)))
def qoH (k0:List UInt8→Option AV) (next:List UInt8→UInt8→Option AV) (_n:Nat) (s0:List UInt8) (c1:UInt8):Option AV :=
 bif (decide ((0:Int) < (s0.length:Int))) then bif ((decide (0≤(qaC s0)))&&(decide ((qaC s0) < s0.length))) then bif ((s0.getD (qaC s0).toNat (0:UInt8))==c1) then bif (((decide (0≤((0:Nat):Int)))&&(decide (((0:Nat):Int)≤(qaC s0))))&&(decide ((qaC s0)≤(s0.length:Int)))) then next (List.drop ((0:Nat):Int).toNat (List.take (qaC s0).toNat s0)) c1 else none else k0 s0 else none else k0 s0
def qhH (k0:List UInt8→Option AV):Nat→List UInt8→UInt8→Option AV
 | 0=>fun _ _=>none
 | n+1=>qoH k0 (qhH k0 n) n
def qfI (_n:Nat) (s0:List UInt8):Option AV :=
 qtK s0
def qtL (n:Nat) (s0:List UInt8) (c1:UInt8):Option AV :=
 qhH (qfI n) n s0 c1
def qgQ (as2:List Bool) (ok3:Bool):Option AV:=some (.tup [(.dat (.arr 256 .bool) as2 none),(dg ok3)])
def qcC (ret:List Bool→Bool→Option AV) (k0:List Bool→Option AV) (next:List UInt8→List Bool→Int→Option AV) (_n:Nat) (chars0:List UInt8) (as2:List Bool) (i4:Int):Option AV :=
 bif (decide (i4 < (chars0.length:Int))) then
 bif ((decide (0≤i4))&&(decide (i4 < chars0.length))) then
 bif (decide ((128:UInt8)≤(chars0.getD i4.toNat (0:UInt8)))) then
 ret as2 false
 else
 bif ((decide (0≤((UInt8.toNat (chars0.getD i4.toNat (0:UInt8)):Nat):Int)))&&(decide (((UInt8.toNat (chars0.getD i4.toNat (0:UInt8)):Nat):Int) < (256:Nat)))) then
 next chars0 (List.set as2 ((UInt8.toNat (chars0.getD i4.toNat (0:UInt8)):Nat):Int).toNat true) (IntKind.wrap .i64 (i4+1))
 else none
 else none
 else
 k0 as2
def qdQ (ret:List Bool→Bool→Option AV) (k0:List Bool→Option AV):Nat→List UInt8→List Bool→Int→Option AV
 | 0=>fun _ _ _=>none
 | n+1=>qcC ret k0 (qdQ ret k0 n) n
def qdR (_n:Nat) (as2:List Bool):Option AV :=
 qgQ as2 true
def qtM (n:Nat) (chars0:List UInt8):Option AV :=
 qdQ qgQ (qdR n) n chars0 (List.replicate 256 false) (0:Int)
def qtN (s4:Bool):Option AV:=some (dg s4)
def qtO (_n:Nat) (as0:List Bool) (c1:UInt8):Option AV :=
 bif ((decide (0≤((UInt8.toNat c1:Nat):Int)))&&(decide (((UInt8.toNat c1:Nat):Int) < (256:Nat)))) then
 qtN (as0.getD ((UInt8.toNat c1:Nat):Int).toNat false)
 else none
def qmk (s4:List UInt8):Option AV:=some (da s4)
def qfJ (k0:List UInt8→Option AV) (next:List UInt8→List Bool→Option AV) (_n:Nat) (s0:List UInt8) (as1:List Bool):Option AV :=
 bif (decide ((0:Int) < (s0.length:Int))) then
 bif ((decide (0≤(0:Int)))&&(decide ((0:Int) < s0.length))) then
 bif (!(z134 as1 (s0.getD (0:Int).toNat (0:UInt8)))) then
 k0 s0
 else
 bif (((decide (0≤(1:Int)))&&(decide ((1:Int)≤(s0.length:Int))))&&(decide ((s0.length:Int)≤(s0.length:Int)))) then
 next (List.drop (1:Int).toNat (List.take (s0.length:Int).toNat s0)) as1
 else none
 else none
 else
 k0 s0
def qeZ (k0:List UInt8→Option AV):Nat→List UInt8→List Bool→Option AV
 | 0=>fun _ _=>none
 | n+1=>qfJ k0 (qeZ k0 n) n
def qdS (_n:Nat) (s0:List UInt8):Option AV :=
 bif ((s0.length:Int)==(0:Int)) then
 qmk ([]:List UInt8)
 else
 qmk s0
def qoI (n:Nat) (s0:List UInt8) (as1:List Bool):Option AV :=
 qeZ (qdS n) n s0 as1
def qtP (s4:List UInt8):Option AV:=some (da s4)
def qap (s0:List UInt8):=(IntKind.wrap .i64 ((s0.length:Int) - (1:Int)))
def qfK (k0:List UInt8→Option AV) (next:List UInt8→List Bool→Option AV) (_n:Nat) (s0:List UInt8) (as1:List Bool):Option AV :=
 bif (decide ((0:Int) < (s0.length:Int))) then bif ((decide (0≤(qap s0)))&&(decide ((qap s0) < s0.length))) then bif (!(z134 as1 (s0.getD (qap s0).toNat (0:UInt8)))) then k0 s0 else bif (((decide (0≤((0:Nat):Int)))&&(decide (((0:Nat):Int)≤(qap s0))))&&(decide ((qap s0)≤(s0.length:Int)))) then next (List.drop ((0:Nat):Int).toNat (List.take (qap s0).toNat s0)) as1 else none else none else k0 s0
def qfa (k0:List UInt8→Option AV):Nat→List UInt8→List Bool→Option AV
 | 0=>fun _ _=>none
 | n+1=>qfK k0 (qfa k0 n) n
def qfL (_n:Nat) (s0:List UInt8):Option AV :=
 qtP s0
def qoJ (n:Nat) (s0:List UInt8) (as1:List Bool):Option AV :=
 qfa (qfL n) n s0 as1
def qcn (s4:List UInt8):Option AV:=some (da s4)
def qbc (cutset1:List UInt8):=(cutset1.getD (0:Int).toNat (0:UInt8))
def qdT (cutset1:List UInt8):=((decide (0≤(0:Int)))&&(decide ((0:Int) < cutset1.length)))
def qtQ (_n:Nat) (s0:List UInt8) (cutset1:List UInt8):Option AV :=
 bif ((s0.length:Int)==(0:Int)) then qcn ([]:List UInt8) else bif (cutset1==([]:List UInt8)) then qcn s0 else bif ((cutset1.length:Int)==(1:Int)) then bif (qdT cutset1) then bif (decide ((qbc cutset1) < (128:UInt8))) then bif (qdT cutset1) then bif (qdT cutset1) then bif ((qrT s0 (qbc cutset1))&&true) then bif ((qrS (z124 s0 (qbc cutset1)) (qbc cutset1))&&true) then qcn (z123 (z124 s0 (qbc cutset1)) (qbc cutset1)) else none else none else none else none else bif ((qgx cutset1)&&true) then bif ((z125 cutset1).2) then bif ((qkl s0 ((z125 cutset1).1))&&true) then bif ((qkk (z127 s0 ((z125 cutset1).1)) ((z125 cutset1).1))&&true) then qcn (z126 (z127 s0 ((z125 cutset1).1)) ((z125 cutset1).1)) else none else none else bif ((qrV s0 cutset1)&&true) then bif ((qrU (z129 s0 cutset1) cutset1)&&true) then qcn (z128 (z129 s0 cutset1) cutset1) else none else none else none else none else bif ((qgx cutset1)&&true) then bif ((z125 cutset1).2) then bif ((qkl s0 ((z125 cutset1).1))&&true) then bif ((qkk (z127 s0 ((z125 cutset1).1)) ((z125 cutset1).1))&&true) then qcn (z126 (z127 s0 ((z125 cutset1).1)) ((z125 cutset1).1)) else none else none else bif ((qrV s0 cutset1)&&true) then bif ((qrU (z129 s0 cutset1) cutset1)&&true) then qcn (z128 (z129 s0 cutset1) cutset1) else none else none else none
def qyJ (s2:List UInt8):Option AV:=some (db s2 (some (2,5)))
def qBd (_n:Nat) (s0:List UInt8):Option AV :=
 bif ((qhy s0 ([32,9]:List UInt8))&&true) then
 bif ((qbY (z112 s0 ([32,9]:List UInt8)))&&true) then
 qyJ (z43 (z112 s0 ([32,9]:List UInt8)))
 else none
 else none
def qtR (s2:List UInt8):Option AV:=some (db s2 (some (2,5)))
def qBe (_n:Nat) (s0:List UInt8):Option AV :=
 bif (decide (0≤(z91 s0 (42:UInt8)))) then
 bif (((decide (0≤((0:Nat):Int)))&&(decide (((0:Nat):Int)≤(z91 s0 (42:UInt8)))))&&(decide ((z91 s0 (42:UInt8))≤(s0.length:Int)))) then
 bif ((qpF (List.drop ((0:Nat):Int).toNat (List.take (z91 s0 (42:UInt8)).toNat s0)))&&true) then
 qtR (z92 (List.drop ((0:Nat):Int).toNat (List.take (z91 s0 (42:UInt8)).toNat s0)))
 else none
 else none
 else
 bif ((qpF s0)&&true) then
 qtR (z92 s0)
 else none
def qtS (s2:Int) (s3:Int):Option AV:=some (.tup [(dc s2),(dc s3)])
def qBf (_n:Nat) (s0:List UInt8):Option AV :=
 bif ((qvJ s0)&&true) then
 bif ((qfm (z67 s0))&&true) then
 bif (!(Option.isSome (@findM .str (.int .i64) (z28 (z67 s0)) z66))) then
 qtS (0:Int) (10:Int)
 else
 qtS (Option.getD (@findM .str (.int .i64) (z28 (z67 s0)) z66) (0:Int)) (0:Int)
 else none
 else none
def qyK (s11:List UInt8):Option AV:=some (.tup [(.tup []),.bad,.bad,(.pbox (.osl 5 .byte) s11 none)])
def qBg (_n:Nat) (c0:UInt8) (_x1:Bool) (x2:List UInt8):Option AV :=
 bif (decide (x2.length+List.length ([c0]:List UInt8)≤room)) then
 qyK (x2++([c0]:List UInt8))
 else none
def qg (s2:Int):Option AV:=some (dc s2)
def qS:=(bits .or .i64 (bits .or .i64 (0:Int) (1:Int)) (656:Int))
def qco:=(bits .or .i64 (bits .or .i64 (0:Int) (1:Int)) (2:Int))
def qtT (_n:Nat) (c0:UInt8):Option AV :=
 bif (decide (c0 < (32:UInt8))) then bif (c0==(32:UInt8)) then qg (qco) else bif (c0==(9:UInt8)) then qg (qco) else bif (decide ((48:UInt8)≤c0)) then bif (decide (c0≤(57:UInt8))) then qg (bits .or .i64 (bits .or .i64 (0:Int) (1:Int)) (648:Int)) else bif (decide ((65:UInt8)≤c0)) then bif (decide (c0≤(90:UInt8))) then bif (decide (c0≤(90:UInt8))) then qg (qS) else qg (bits .or .i64 (0:Int) (1:Int)) else bif (decide ((97:UInt8)≤c0)) then bif (decide (c0≤(122:UInt8))) then qg (qS) else qg (bits .or .i64 (0:Int) (1:Int)) else qg (bits .or .i64 (0:Int) (1:Int)) else bif (decide ((97:UInt8)≤c0)) then bif (decide (c0≤(122:UInt8))) then qg (qS) else qg (bits .or .i64 (0:Int) (1:Int)) else qg (bits .or .i64 (0:Int) (1:Int)) else bif (decide ((65:UInt8)≤c0)) then bif (decide (c0≤(90:UInt8))) then bif (decide (c0≤(90:UInt8))) then qg (qS) else qg (bits .or .i64 (0:Int) (1:Int)) else bif (decide ((97:UInt8)≤c0)) then bif (decide (c0≤(122:UInt8))) then qg (qS) else qg (bits .or .i64 (0:Int) (1:Int)) else qg (bits .or .i64 (0:Int) (1:Int)) else bif (decide ((97:UInt8)≤c0)) then bif (decide (c0≤(122:UInt8))) then qg (qS) else qg (bits .or .i64 (0:Int) (1:Int)) else qg (bits .or .i64 (0:Int) (1:Int)) else bif (c0==(127:UInt8)) then bif (c0==(32:UInt8)) then qg (qco) else bif (c0==(9:UInt8)) then qg (qco) else bif (decide ((48:UInt8)≤c0)) then bif (decide (c0≤(57:UInt8))) then qg (bits .or .i64 (bits .or .i64 (0:Int) (1:Int)) (648:Int)) else bif (decide ((65:UInt8)≤c0)) then bif (decide (c0≤(90:UInt8))) then bif (decide (c0≤(90:UInt8))) then qg (qS) else qg (bits .or .i64 (0:Int) (1:Int)) else bif (decide ((97:UInt8)≤c0)) then bif (decide (c0≤(122:UInt8))) then qg (qS) else qg (bits .or .i64 (0:Int) (1:Int)) else qg (bits .or .i64 (0:Int) (1:Int)) else bif (decide ((97:UInt8)≤c0)) then bif (decide (c0≤(122:UInt8))) then qg (qS) else qg (bits .or .i64 (0:Int) (1:Int)) else qg (bits .or .i64 (0:Int) (1:Int)) else bif (decide ((65:UInt8)≤c0)) then bif (decide (c0≤(90:UInt8))) then bif (decide (c0≤(90:UInt8))) then qg (qS) else qg (bits .or .i64 (0:Int) (1:Int)) else bif (decide ((97:UInt8)≤c0)) then bif (decide (c0≤(122:UInt8))) then qg (qS) else qg (bits .or .i64 (0:Int) (1:Int)) else qg (bits .or .i64 (0:Int) (1:Int)) else bif (decide ((97:UInt8)≤c0)) then bif (decide (c0≤(122:UInt8))) then qg (qS) else qg (bits .or .i64 (0:Int) (1:Int)) else qg (bits .or .i64 (0:Int) (1:Int)) else bif (c0==(32:UInt8)) then qg (bits .or .i64 (0:Int) (2:Int)) else bif (c0==(9:UInt8)) then qg (bits .or .i64 (0:Int) (2:Int)) else bif (decide ((48:UInt8)≤c0)) then bif (decide (c0≤(57:UInt8))) then qg (bits .or .i64 (0:Int) (648:Int)) else bif (decide ((65:UInt8)≤c0)) then bif (decide (c0≤(90:UInt8))) then bif (decide (c0≤(90:UInt8))) then qg (bits .or .i64 (0:Int) (656:Int)) else qg (0:Int) else bif (decide ((97:UInt8)≤c0)) then bif (decide (c0≤(122:UInt8))) then qg (bits .or .i64 (0:Int) (656:Int)) else qg (0:Int) else qg (0:Int) else bif (decide ((97:UInt8)≤c0)) then bif (decide (c0≤(122:UInt8))) then qg (bits .or .i64 (0:Int) (656:Int)) else qg (0:Int) else qg (0:Int) else bif (decide ((65:UInt8)≤c0)) then bif (decide (c0≤(90:UInt8))) then bif (decide (c0≤(90:UInt8))) then qg (bits .or .i64 (0:Int) (656:Int)) else qg (0:Int) else bif (decide ((97:UInt8)≤c0)) then bif (decide (c0≤(122:UInt8))) then qg (bits .or .i64 (0:Int) (656:Int)) else qg (0:Int) else qg (0:Int) else bif (decide ((97:UInt8)≤c0)) then bif (decide (c0≤(122:UInt8))) then qg (bits .or .i64 (0:Int) (656:Int)) else qg (0:Int) else qg (0:Int)
def qtU (s4:Int):Option AV:=some (dc s4)
def qyL (_n:Nat) (s0:List UInt8) (c1:UInt8):Option AV :=
 qtU (z142 s0 c1)
def qtV (s4:Int):Option AV:=some (dc s4)
def qyM (_n:Nat) (s0:List UInt8) (c1:UInt8):Option AV :=
 qtV (z139 s0 c1)
def qtW (s4:Bool):Option AV:=some (dg s4)
def qyN (_n:Nat) (s0:List UInt8) (c1:UInt8):Option AV :=
 qtW (decide (0≤(z133 s0 c1)))
def qbd (s2:Int):Option AV:=some (dc s2)
def qbp (c0:UInt8):=(bits .or .i64 (z119 c0) (4:Int))
def qdU (c0:UInt8):=(z120 ([40,41,60,62,64,44,59,58,92,34,47,91,93,63,61]:List UInt8) c0)
def qbN (c0:UInt8):=(bits .or .i64 (qbp c0) (128:Int))
def qBh (_n:Nat) (c0:UInt8):Option AV :=
 bif (decide (c0 < (33:UInt8))) then qbd (z119 c0) else bif (decide ((126:UInt8) < c0)) then qbd (z119 c0) else bif (z120 ([33,42,43,45,47]:List UInt8) c0) then bif (z120 ([43,47]:List UInt8) c0) then bif (qdU c0) then qbd (bits .or .i64 (bits .or .i64 (qbN c0) (512:Int)) (32:Int)) else bif (!(z120 ([42,39,37]:List UInt8) c0)) then qbd (bits .or .i64 (bits .or .i64 (bits .or .i64 (qbN c0) (512:Int)) (64:Int)) (256:Int)) else qbd (bits .or .i64 (bits .or .i64 (qbN c0) (512:Int)) (64:Int)) else bif (qdU c0) then qbd (bits .or .i64 (qbN c0) (32:Int)) else bif (!(z120 ([42,39,37]:List UInt8) c0)) then qbd (bits .or .i64 (bits .or .i64 (qbN c0) (64:Int)) (256:Int)) else qbd (bits .or .i64 (qbN c0) (64:Int)) else bif (z120 ([43,47]:List UInt8) c0) then bif (qdU c0) then qbd (bits .or .i64 (bits .or .i64 (qbp c0) (512:Int)) (32:Int)) else bif (!(z120 ([42,39,37]:List UInt8) c0)) then qbd (bits .or .i64 (bits .or .i64 (bits .or .i64 (qbp c0) (512:Int)) (64:Int)) (256:Int)) else qbd (bits .or .i64 (bits .or .i64 (qbp c0) (512:Int)) (64:Int)) else bif (qdU c0) then qbd (bits .or .i64 (qbp c0) (32:Int)) else bif (!(z120 ([42,39,37]:List UInt8) c0)) then qbd (bits .or .i64 (bits .or .i64 (qbp c0) (64:Int)) (256:Int)) else qbd (bits .or .i64 (qbp c0) (64:Int))
def qyO (s4:Bool):Option AV:=some (dg s4)
def qER (_n:Nat) (c0:UInt8) (kinds1:Int):Option AV :=
 qyO ((bits .and .i64 (z99 c0) kinds1) != (0:Int))
def qgR (s2:Int) (s3:Bool):Option AV:=some (.tup [(dc s2),(dg s3)])
def qtX (_n:Nat) (c0:UInt8):Option AV :=
 bif (z77 (z44 c0) (8:Int)) then
 qgR (IntKind.wrap .i64 ((UInt8.toNat ((z44 c0) - (48:UInt8)):Nat):Int)) true
 else
 bif (decide ((97:UInt8)≤(z44 c0))) then
 bif (decide ((z44 c0)≤(102:UInt8))) then
 qgR (IntKind.wrap .i64 ((IntKind.wrap .i64 ((UInt8.toNat ((z44 c0) - (97:UInt8)):Nat):Int))+(10:Int))) true
 else
 qgR (0:Int) false
 else
 qgR (0:Int) false
def qjj (s4:UInt8) (s5:Bool):Option AV:=some (.tup [(di s4 none),(dg s5)])
def qtY (_n:Nat) (a0:UInt8) (b1:UInt8):Option AV :=
 bif (!((z138 a0).2)) then
 qjj (0:UInt8) false
 else
 bif (!((z138 b1).2)) then
 qjj (0:UInt8) false
 else
 qjj (UInt8.ofNat (IntKind.wrap .u8 (bits .or .i64 (IntKind.wrap .i64 (((z138 a0).1)*2 ^ (min (4:Int).toNat (IntKind.bits .i64)))) ((z138 b1).1))).toNat) true
def qgS (s6:UInt8) (s7:Bool):Option AV:=some (.tup [(di s6 none),(dg s7)])
def qgT (s0:List UInt8) (at1:Int):=(z130 (s0.getD (IntKind.wrap .i64 (at1+1)).toNat (0:UInt8)) (s0.getD (IntKind.wrap .i64 (at1+(2:Int))).toNat (0:UInt8)))
def qtZ (_n:Nat) (s0:List UInt8) (at1:Int) (sign2:UInt8):Option AV :=
 bif (decide (at1 < (0:Int))) then qgS (0:UInt8) false else bif (decide ((IntKind.wrap .i64 ((s0.length:Int) - (3:Int))) < at1)) then qgS (0:UInt8) false else bif ((decide (0≤at1))&&(decide (at1 < s0.length))) then bif ((s0.getD at1.toNat (0:UInt8)) != sign2) then qgS (0:UInt8) false else bif ((decide (0≤(IntKind.wrap .i64 (at1+1))))&&(decide ((IntKind.wrap .i64 (at1+1)) < s0.length))) then bif ((decide (0≤(IntKind.wrap .i64 (at1+(2:Int)))))&&(decide ((IntKind.wrap .i64 (at1+(2:Int))) < s0.length))) then qgS ((qgT s0 at1).1) ((qgT s0 at1).2) else none else none else none
def qcp (s33:List UInt8):Option AV:=some (.tup [(.tup []),.bad,(.pbox (.osl 5 .byte) s33 none)])
def qcD (k0:List UInt8→Option AV) (next:List UInt8→Int→List UInt8→Option AV) (_n:Nat) (s0:List UInt8) (at4:Int) (s33:List UInt8):Option AV :=
 bif (decide (at4 < (s0.length:Int))) then
 bif ((qnp s0 at4 (37:UInt8))&&true) then
 bif (!((z113 s0 at4 (37:UInt8)).2)) then
 bif ((decide (0≤at4))&&(decide (at4 < s0.length))) then
 bif (qtg (s0.getD at4.toNat (0:UInt8)) false s33) then
 next s0 (IntKind.wrap .i64 (at4+1)) (z94 (s0.getD at4.toNat (0:UInt8)) false s33)
 else none
 else none
 else
 bif (qtg ((z113 s0 at4 (37:UInt8)).1) true s33) then
 next s0 (IntKind.wrap .i64 ((IntKind.wrap .i64 (at4+(2:Int)))+1)) (z94 ((z113 s0 at4 (37:UInt8)).1) true s33)
 else none
 else none
 else
 k0 s33
def qbO (k0:List UInt8→Option AV):Nat→List UInt8→Int→List UInt8→Option AV
 | 0=>fun _ _ _=>none
 | n+1=>qcD k0 (qbO k0 n) n
def qbD (_n:Nat) (s33:List UInt8):Option AV :=
 qcp s33
def qjk (n:Nat) (s0:List UInt8) (f1:List UInt8):Option AV :=
 qbO (qbD n) n s0 (0:Int) f1
def qyP (s2:List UInt8):Option AV:=some (da s2)
def qBi (_n:Nat) (s0:List UInt8):Option AV :=
 bif (qcB s0 ([]:List UInt8)) then
 qyP (qAj s0 ([]:List UInt8))
 else none
def qoK (s2:List UInt8):Option AV:=some (da s2)
def qBj (_n:Nat) (p0:(List UInt8)×(Int×(Bool×((List UInt8)×Unit)))):Option AV :=
 bif p0.2.2.1 then
 bif ((qxr p0.2.2.2.1)&&true) then
 qoK (z68 p0.2.2.2.1)
 else none
 else
 qoK p0.2.2.2.1
def qua (s13:List Int):Option AV:=some (.tup [(.tup []),.bad,.bad,(.pbox (.osl 21 (.int .i32)) s13 none)])
def qBk (_n:Nat) (c0:Int) (e1:Int) (x2:List Int):Option AV :=
 bif (e1 != (0:Int)) then
 bif (decide (x2.length+List.length ([(65533:Int)]:List Int)≤room)) then
 qua (x2++([(65533:Int)]:List Int))
 else none
 else
 bif (decide (x2.length+List.length ([c0]:List Int)≤room)) then
 qua (x2++([c0]:List Int))
 else none
def qdg (s2:Int):Option AV:=some (dc s2)
def qub (_n:Nat) (c0:UInt8):Option AV :=
 bif (decide (c0 < (128:UInt8))) then
 qdg (1:Int)
 else
 bif (decide (c0 < (194:UInt8))) then
 qdg (0:Int)
 else
 bif (decide ((244:UInt8) < c0)) then
 qdg (0:Int)
 else
 bif (decide (c0 < (224:UInt8))) then
 qdg (2:Int)
 else
 bif (decide (c0 < (240:UInt8))) then
 qdg (3:Int)
 else
 qdg (4:Int)
def quc (s2:Bool):Option AV:=some (dg s2)
def qud (_n:Nat) (c0:UInt8):Option AV :=
 quc ((c0 &&& ~~~ (63:UInt8))==(128:UInt8))
def qbw (s4:Bool):Option AV:=some (dg s4)
def que (_n:Nat) (first0:UInt8) (c1:UInt8):Option AV :=
 bif (first0==(224:UInt8)) then
 bif (decide ((160:UInt8)≤c1)) then
 qbw (z131 c1)
 else
 qbw false
 else
 bif (first0==(237:UInt8)) then
 bif (decide (c1 < (160:UInt8))) then
 qbw (z131 c1)
 else
 qbw false
 else
 bif (first0==(240:UInt8)) then
 bif (decide ((144:UInt8)≤c1)) then
 qbw (z131 c1)
 else
 qbw false
 else
 bif (first0==(244:UInt8)) then
 bif (decide (c1 < (144:UInt8))) then
 qbw (z131 c1)
 else
 qbw false
 else
 qbw (z131 c1)
def qaD (s2:Int):Option AV:=some (dc s2)
def qbq (ret:Int→Option AV) (k0:List UInt8→Int→Option AV) (next:List UInt8→Int→Option AV) (_n:Nat) (s0:List UInt8) (n3:Int):Option AV :=
 bif ((decide (0≤(0:Int)))&&(decide ((0:Int) < s0.length))) then
 bif (decide (n3 < (z117 (s0.getD (0:Int).toNat (0:UInt8))))) then
 bif (decide (n3 < (s0.length:Int))) then
 bif ((decide (0≤n3))&&(decide (n3 < s0.length))) then
 bif (!(z131 (s0.getD n3.toNat (0:UInt8)))) then
 ret n3
 else
 bif (n3==(1:Int)) then
 bif ((decide (0≤(0:Int)))&&(decide ((0:Int) < s0.length))) then
 bif ((decide (0≤(1:Int)))&&(decide ((1:Int) < s0.length))) then
 bif (!(z132 (s0.getD (0:Int).toNat (0:UInt8)) (s0.getD (1:Int).toNat (0:UInt8)))) then
 ret n3
 else
 next s0 (IntKind.wrap .i64 (n3+1))
 else none
 else none
 else
 next s0 (IntKind.wrap .i64 (n3+1))
 else none
 else
 k0 s0 n3
 else
 k0 s0 n3
 else none
def qfb (ret:Int→Option AV) (k0:List UInt8→Int→Option AV):Nat→List UInt8→Int→Option AV
 | 0=>fun _ _=>none
 | n+1=>qbq ret k0 (qfb ret k0 n) n
def qah (_n:Nat) (s0:List UInt8) (n3:Int):Option AV :=
 bif ((decide (0≤(0:Int)))&&(decide ((0:Int) < s0.length))) then
 qaD (bif (decide ((z117 (s0.getD (0:Int).toNat (0:UInt8))) < n3)) then (z117 (s0.getD (0:Int).toNat (0:UInt8))) else n3)
 else none
def qoL (n:Nat) (s0:List UInt8):Option AV :=
 qfb qaD (qah n) n s0 (1:Int)
def qgU (s2:UInt8):Option AV:=some (di s2 none)
def quf (_n:Nat) (n0:Int):Option AV :=
 bif (n0==(2:Int)) then
 qgU (192:UInt8)
 else
 bif (n0==(3:Int)) then
 qgU (224:UInt8)
 else
 bif (n0==(4:Int)) then
 qgU (240:UInt8)
 else
 qgU (0:UInt8)
def qdV (s2:Int) (s3:Int) (s4:Int):Option AV:=some (.tup [(.dat (.int .i32) s2 none),(dc s3),(dc s4)])
def qcE (k1:Int→Int→Option AV) (next:Int→Int→List UInt8→Int→Int→Option AV) (_n:Nat) (n5:Int) (c6:Int) (s48:List UInt8) (s49:Int) (s50:Int):Option AV :=
 bif (decide (s50 < s49)) then
 bif ((decide (0≤s50))&&(decide (s50 < s48.length))) then
 next n5 (bits .or .i32 (IntKind.wrap .i32 (c6*2 ^ (min (6:Int).toNat (IntKind.bits .i32)))) (IntKind.wrap .i32 ((UInt8.toNat ((s48.getD s50.toNat (0:UInt8)) &&& (63:UInt8)):Nat):Int))) s48 s49 (IntKind.wrap .i64 (s50+1))
 else none
 else
 k1 n5 c6
def qfc (k1:Int→Int→Option AV):Nat→Int→Int→List UInt8→Int→Int→Option AV
 | 0=>fun _ _ _ _ _=>none
 | n+1=>qcE k1 (qfc k1 n) n
def qcF (_n:Nat) (n5:Int) (c6:Int):Option AV :=
 qdV c6 n5 (0:Int)
def qbP (s0:List UInt8):=((decide (0≤(0:Int)))&&(decide ((0:Int) < s0.length)))
def qcG (s0:List UInt8):=(List.drop (1:Int).toNat (List.take (z116 s0).toNat s0))
def qdW (s0:List UInt8):=(decide ((z116 s0) < (z117 (s0.getD (0:Int).toNat (0:UInt8)))))
def qfM (s0:List UInt8):=(((decide (0≤(1:Int)))&&(decide ((1:Int)≤(z116 s0))))&&(decide ((z116 s0)≤(s0.length:Int))))
def qfN (s0:List UInt8):=(IntKind.wrap .i32 ((UInt8.toNat ((s0.getD (0:Int).toNat (0:UInt8)) &&& ~~~ (z118 (z116 s0))):Nat):Int))
def qxz (n:Nat) (s0:List UInt8):Option AV :=
 bif ((s0.length:Int)==(0:Int)) then qdV (0:Int) (0:Int) (4:Int) else bif ((qhx s0)&&true) then bif ((z116 s0)==(0:Int)) then qdV (0:Int) (1:Int) (3:Int) else bif (qbP s0) then bif (qdW s0) then bif ((z116 s0)==(s0.length:Int)) then qdV (0:Int) (z116 s0) (4:Int) else bif (qbP s0) then bif (qdW s0) then qdV (0:Int) (z116 s0) (3:Int) else bif (qbP s0) then bif (qfM s0) then qfc (qcF n) n (z116 s0) (qfN s0) (qcG s0) ((qcG s0).length:Int) (0:Int) else none else none else none else bif (qbP s0) then bif (qdW s0) then qdV (0:Int) (z116 s0) (3:Int) else bif (qbP s0) then bif (qfM s0) then qfc (qcF n) n (z116 s0) (qfN s0) (qcG s0) ((qcG s0).length:Int) (0:Int) else none else none else none else none else none
def qbe (s24:List Int):Option AV:=some (.tup [(.tup []),.bad,(.pbox (.osl 21 (.int .i32)) s24 none)])
def qcH (k0:List Int→Option AV) (next:List UInt8→List Int→Option AV) (_n:Nat) (s0:List UInt8) (s24:List Int):Option AV :=
 bif (decide ((0:Int) < (s0.length:Int))) then
 bif ((qvE s0)&&true) then
 bif (qvM ((z98 s0).1) ((z98 s0).2.2) s24) then
 bif (((decide (0≤((z98 s0).2.1)))&&(decide (((z98 s0).2.1)≤(s0.length:Int))))&&(decide ((s0.length:Int)≤(s0.length:Int)))) then
 next (List.drop ((z98 s0).2.1).toNat (List.take (s0.length:Int).toNat s0)) (z74 ((z98 s0).1) ((z98 s0).2.2) s24)
 else none
 else none
 else none
 else
 k0 s24
def qbr (k0:List Int→Option AV):Nat→List UInt8→List Int→Option AV
 | 0=>fun _ _=>none
 | n+1=>qcH k0 (qbr k0 n) n
def qaT (_n:Nat) (s24:List Int):Option AV :=
 qbe s24
def qjl (n:Nat) (s0:List UInt8) (f1:List Int):Option AV :=
 qbr (qaT n) n s0 f1
def qyQ (s2:List Int):Option AV:=some (.dat (.sl (.int .i32)) s2 none)
def qBl (_n:Nat) (s0:List UInt8):Option AV :=
 bif (qcA s0 ([]:List Int)) then
 qyQ (qzZ s0 ([]:List Int))
 else none
def qug (s2:List Int):Option AV:=some (.dat (.sl (.int .i32)) s2 (some (2,21)))
def qey (k0:List Int→Option AV) (next:List Int→List UInt8→Int→Int→Option AV) (_n:Nat) (t3:List Int) (s9:List UInt8) (s10:Int) (s11:Int):Option AV :=
 bif (decide (s11 < s10)) then
 bif ((decide (0≤s11))&&(decide (s11 < s9.length))) then
 bif ((decide (0≤s11))&&(decide (s11 < t3.length))) then
 next (List.set t3 s11.toNat (IntKind.wrap .i32 ((UInt8.toNat (s9.getD s11.toNat (0:UInt8)):Nat):Int))) s9 s10 (IntKind.wrap .i64 (s11+1))
 else none
 else none
 else
 k0 t3
def qml (k0:List Int→Option AV):Nat→List Int→List UInt8→Int→Int→Option AV
 | 0=>fun _ _ _ _=>none
 | n+1=>qey k0 (qml k0 n) n
def qgV (_n:Nat) (t3:List Int):Option AV :=
 qug t3
def qxA (n:Nat) (s0:List UInt8):Option AV :=
 bif (((decide (0≤(s0.length:Int)))&&(decide ((s0.length:Int)≤(s0.length:Int))))&&(decide ((s0.length:Int)≤(room:Int)))) then
 qml (qgV n) n (List.replicate (s0.length:Int).toNat 0) s0 (s0.length:Int) (0:Int)
 else none
def quh (s2:Int):Option AV:=some (.dat (.int .i32) s2 none)
def qBm (_n:Nat) (c0:Int):Option AV :=
 bif (decide ((128:Int)≤c0)) then
 quh (65533:Int)
 else
 quh c0
def qui (s2:List Int):Option AV:=some (.dat (.sl (.int .i32)) s2 (some (2,21)))
def qez (k0:List Int→Option AV) (next:List Int→Int→Int→Option AV) (_n:Nat) (t3:List Int) (s10:Int) (s11:Int):Option AV :=
 bif (decide (s11 < s10)) then
 bif ((decide (0≤s11))&&(decide (s11 < t3.length))) then
 bif ((decide (0≤s11))&&(decide (s11 < t3.length))) then
 next (List.set t3 s11.toNat (z95 (t3.getD s11.toNat 0))) s10 (IntKind.wrap .i64 (s11+1))
 else none
 else none
 else
 k0 t3
def qmm (k0:List Int→Option AV):Nat→List Int→Int→Int→Option AV
 | 0=>fun _ _ _=>none
 | n+1=>qez k0 (qmm k0 n) n
def qgW (_n:Nat) (t3:List Int):Option AV :=
 qui t3
def qxB (n:Nat) (s0:List UInt8):Option AV :=
 bif ((qpC s0)&&true) then
 qmm (qgW n) n (z72 s0) ((z72 s0).length:Int) (0:Int)
 else none
def quj (s0:List (UInt8×(Int×Unit))):Option AV:=some (.dat (.arr 8 (.pair .byte (.pair (.int .i32) .unit))) s0 none)
def qyR (_n:Nat):Option AV :=
 quj ([((164:UInt8),((8364:Int),())),((166:UInt8),((352:Int),())),((168:UInt8),((353:Int),())),((180:UInt8),((381:Int),())),((184:UInt8),((382:Int),())),((188:UInt8),((338:Int),())),((189:UInt8),((339:Int),())),((190:UInt8),((376:Int),()))]:List (UInt8×(Int×Unit)))
def qbE (s2:Int):Option AV:=some (.dat (.int .i32) s2 none)
def quk (ret:Int→Option AV) (k0:UInt8→Option AV) (next:UInt8→List (UInt8×(Int×Unit))→Int→Option AV) (_n:Nat) (x0:UInt8) (s5:List (UInt8×(Int×Unit))) (s6:Int):Option AV :=
 bif (decide (s6 < (8:Int))) then
 bif ((decide (0≤s6))&&(decide (s6 < (8:Nat)))) then
 bif ((s5.getD s6.toNat ((0:UInt8),((0:Int),()))).1==x0) then
 ret (s5.getD s6.toNat ((0:UInt8),((0:Int),()))).2.1
 else
 next x0 s5 (IntKind.wrap .i64 (s6+1))
 else none
 else
 k0 x0
def qqs (ret:Int→Option AV) (k0:UInt8→Option AV):Nat→UInt8→List (UInt8×(Int×Unit))→Int→Option AV
 | 0=>fun _ _ _=>none
 | n+1=>quk ret k0 (qqs ret k0 n) n
def qjm (_n:Nat) (x0:UInt8):Option AV :=
 qbE (IntKind.wrap .i32 ((UInt8.toNat x0:Nat):Int))
def qxC (n:Nat) (x0:UInt8):Option AV :=
 qqs qbE (qjm n) n x0 z114 (0:Int)
def qyS (s2:List Int):Option AV:=some (.dat (.sl (.int .i32)) s2 (some (2,21)))
def qeA (k0:List Int→Option AV) (next:List Int→List UInt8→Int→Int→Option AV) (_n:Nat) (t3:List Int) (s6:List UInt8) (s7:Int) (s8:Int):Option AV :=
 bif (decide (s8 < s7)) then
 bif ((decide (0≤s8))&&(decide (s8 < s6.length))) then
 bif (decide (t3.length+List.length ([(z96 (s6.getD s8.toNat (0:UInt8)))]:List Int)≤room)) then
 next (t3++([(z96 (s6.getD s8.toNat (0:UInt8)))]:List Int)) s6 s7 (IntKind.wrap .i64 (s8+1))
 else none
 else none
 else
 k0 t3
def qmn (k0:List Int→Option AV):Nat→List Int→List UInt8→Int→Int→Option AV
 | 0=>fun _ _ _ _=>none
 | n+1=>qeA k0 (qmn k0 n) n
def qeB (_n:Nat) (t3:List Int):Option AV :=
 qyS t3
def qxD (n:Nat) (s0:List UInt8):Option AV :=
 qmn (qeB n) n ([]:List Int) s0 (s0.length:Int) (0:Int)
def qul (s0:List Int):Option AV:=some (.dat (.sl (.int .i32)) s0 none)
def qyT (_n:Nat):Option AV :=
 qul (List.drop 0 (List.take 32 ([(8364:Int),(0:Int),(8218:Int),(402:Int),(8222:Int),(8230:Int),(8224:Int),(8225:Int),(710:Int),(8240:Int),(352:Int),(8249:Int),(338:Int),(0:Int),(381:Int),(0:Int),(0:Int),(8216:Int),(8217:Int),(8220:Int),(8221:Int),(8226:Int),(8211:Int),(8212:Int),(732:Int),(8482:Int),(353:Int),(8250:Int),(339:Int),(0:Int),(382:Int),(376:Int)]:List Int)))
def qkO (s2:Int):Option AV:=some (.dat (.int .i32) s2 none)
def qdX (x0:UInt8):=((UInt8.toNat (x0 - (128:UInt8)):Nat):Int)
def qBn (_n:Nat) (x0:UInt8):Option AV :=
 bif (decide (x0 < (128:UInt8))) then qkO (IntKind.wrap .i32 ((UInt8.toNat x0:Nat):Int)) else bif (decide ((160:UInt8)≤x0)) then qkO (IntKind.wrap .i32 ((UInt8.toNat x0:Nat):Int)) else bif ((decide (0≤(qdX x0)))&&(decide ((qdX x0) < z115.length))) then bif ((z115.getD (qdX x0).toNat 0) != (0:Int)) then qkO (z115.getD (qdX x0).toNat 0) else qkO (65533:Int) else none
def qyU (s2:List Int):Option AV:=some (.dat (.sl (.int .i32)) s2 (some (2,21)))
def qeC (k0:List Int→Option AV) (next:List Int→List UInt8→Int→Int→Option AV) (_n:Nat) (t3:List Int) (s9:List UInt8) (s10:Int) (s11:Int):Option AV :=
 bif (decide (s11 < s10)) then
 bif ((decide (0≤s11))&&(decide (s11 < s9.length))) then
 bif (decide (t3.length+List.length ([(z97 (s9.getD s11.toNat (0:UInt8)))]:List Int)≤room)) then
 next (t3++([(z97 (s9.getD s11.toNat (0:UInt8)))]:List Int)) s9 s10 (IntKind.wrap .i64 (s11+1))
 else none
 else none
 else
 k0 t3
def qmo (k0:List Int→Option AV):Nat→List Int→List UInt8→Int→Int→Option AV
 | 0=>fun _ _ _ _=>none
 | n+1=>qeC k0 (qmo k0 n) n
def qeD (_n:Nat) (t3:List Int):Option AV :=
 qyU t3
def qxE (n:Nat) (s0:List UInt8):Option AV :=
 bif (((decide (0≤(0:Int)))&&(decide (0≤(s0.length:Int))))&&(decide ((s0.length:Int)≤(room:Int)))) then
 qmo (qeD n) n (List.replicate (0:Int).toNat 0) s0 (s0.length:Int) (0:Int)
 else none
def qhI (s4:List Int):Option AV:=some (.dat (.sl (.int .i32)) s4 none)
def qBo (_n:Nat) (charset0:Int) (s1:List UInt8):Option AV :=
 bif (charset0==(1:Int)) then
 bif ((qvH s1)&&true) then
 qhI (z69 s1)
 else none
 else
 bif (charset0==(3:Int)) then
 bif ((qvF s1)&&true) then
 qhI (z70 s1)
 else none
 else
 bif (charset0==(4:Int)) then
 bif ((qvG s1)&&true) then
 qhI (z71 s1)
 else none
 else
 bif (charset0==(5:Int)) then
 bif ((qpB s1)&&true) then
 qhI (z51 s1)
 else none
 else
 bif ((qpC s1)&&true) then
 qhI (z72 s1)
 else none
def qkP (s2:List Int):Option AV:=some (.dat (.sl (.int .i32)) s2 none)
def qbf:=(([]:List UInt8),((0:Int),(false,(([]:List UInt8),()))))
def qcI (k0:(List UInt8)×(Int×(Bool×((List UInt8)×Unit)))→Int→List UInt8→Option AV) (next:(List UInt8)×(Int×(Bool×((List UInt8)×Unit)))→Int→List UInt8→List ((List UInt8)×(Int×(Bool×((List UInt8)×Unit))))→Int→Int→Option AV) (_n:Nat) (first3:(List UInt8)×(Int×(Bool×((List UInt8)×Unit)))) (charset4:Int) (s10:List UInt8) (s42:List ((List UInt8)×(Int×(Bool×((List UInt8)×Unit))))) (s43:Int) (s44:Int):Option AV :=
 bif (decide (s44 < s43)) then bif ((decide (0≤s44))&&(decide (s44 < s42.length))) then bif ((qho (s42.getD s44.toNat (qbf)))&&true) then bif (decide (s10.length+List.length (z49 (s42.getD s44.toNat (qbf)))≤room)) then next first3 charset4 (s10++(z49 (s42.getD s44.toNat (qbf)))) s42 s43 (IntKind.wrap .i64 (s44+1)) else none else none else none else k0 first3 charset4 s10
def qcq (k0:(List UInt8)×(Int×(Bool×((List UInt8)×Unit)))→Int→List UInt8→Option AV):Nat→(List UInt8)×(Int×(Bool×((List UInt8)×Unit)))→Int→List UInt8→List ((List UInt8)×(Int×(Bool×((List UInt8)×Unit))))→Int→Int→Option AV
 | 0=>fun _ _ _ _ _ _=>none
 | n+1=>qcI k0 (qcq k0 n) n
def qai (_n:Nat) (first3:(List UInt8)×(Int×(Bool×((List UInt8)×Unit)))) (charset4:Int) (s10:List UInt8):Option AV :=
 bif first3.2.2.1 then
 bif ((qvI charset4 s10)&&true) then
 qkP (z50 charset4 s10)
 else none
 else
 bif ((qpB s10)&&true) then
 qkP (z51 s10)
 else none
def qN (l0:List ((List UInt8)×(Int×(Bool×((List UInt8)×Unit))))):=(l0.getD (0:Int).toNat (([]:List UInt8),((0:Int),(false,(([]:List UInt8),())))))
def qaa (l0:List ((List UInt8)×(Int×(Bool×((List UInt8)×Unit))))):=((qN l0).1,((qN l0).2.1,((qN l0).2.2.1,(((z46 (qN l0).2.2.2.1).2.1),(qN l0).2.2.2.2))))
def qaH (l0:List ((List UInt8)×(Int×(Bool×((List UInt8)×Unit))))):=(List.drop (1:Int).toNat (List.take (l0.length:Int).toNat l0))
def qcJ (l0:List ((List UInt8)×(Int×(Bool×((List UInt8)×Unit))))):=(((decide (0≤(1:Int)))&&(decide ((1:Int)≤(l0.length:Int))))&&(decide ((l0.length:Int)≤(l0.length:Int))))
def qxF (n:Nat) (l0:List ((List UInt8)×(Int×(Bool×((List UInt8)×Unit))))):Option AV :=
 bif ((decide (0≤(0:Int)))&&(decide ((0:Int) < l0.length))) then bif (qN l0).2.2.1 then bif ((qxs (qN l0).2.2.2.1)&&true) then bif ((qvL ((z46 (qN l0).2.2.2.1).1))&&true) then bif ((z46 (qN l0).2.2.2.1).2.2) then bif (((z47 ((z46 (qN l0).2.2.2.1).1)).2)==(0:Int)) then bif ((qho (qaa l0))&&true) then bif ((qlX (z49 (qaa l0)))&&true) then bif (qcJ l0) then qcq (qai n) n (qaa l0) ((z47 ((z46 (qN l0).2.2.2.1).1)).1) (z48 (z49 (qaa l0))) (qaH l0) ((qaH l0).length:Int) (0:Int) else none else none else none else bif ((qho (qaa l0))&&true) then bif ((qlX (z49 (qaa l0)))&&true) then bif (qcJ l0) then qcq (qai n) n (qaa l0) (2:Int) (z48 (z49 (qaa l0))) (qaH l0) ((qaH l0).length:Int) (0:Int) else none else none else none else bif ((qho (qaa l0))&&true) then bif ((qlX (z49 (qaa l0)))&&true) then bif (qcJ l0) then qcq (qai n) n (qaa l0) (2:Int) (z48 (z49 (qaa l0))) (qaH l0) ((qaH l0).length:Int) (0:Int) else none else none else none else none else none else bif ((qho (qN l0))&&true) then bif ((qlX (z49 (qN l0)))&&true) then bif (qcJ l0) then qcq (qai n) n (qN l0) (2:Int) (z48 (z49 (qN l0))) (qaH l0) ((qaH l0).length:Int) (0:Int) else none else none else none else none
def qhJ (s2:List ((List UInt8)×((List Int)×Unit))):Option AV:=some (.dat (.sl (.pair (.sl .byte) (.pair (.sl (.int .i32)) .unit))) s2 (some (2,31)))
def qcK (k2:List ((List UInt8)×(Int×(Bool×((List UInt8)×Unit))))→List ((List UInt8)×((List Int)×Unit))→List ((List UInt8)×Bool)→List UInt8→List ((List UInt8)×(Int×(Bool×((List UInt8)×Unit))))→List ((List UInt8)×(Int×(Bool×((List UInt8)×Unit))))→Int→Int→Option AV) (next:List ((List UInt8)×(Int×(Bool×((List UInt8)×Unit))))→List ((List UInt8)×((List Int)×Unit))→List ((List UInt8)×Bool)→List UInt8→List ((List UInt8)×(Int×(Bool×((List UInt8)×Unit))))→List ((List UInt8)×(Int×(Bool×((List UInt8)×Unit))))→Int→Int→List Int→Int→Int→Option AV) (_n:Nat) (l0:List ((List UInt8)×(Int×(Bool×((List UInt8)×Unit))))) (out3:List ((List UInt8)×((List Int)×Unit))) (met4:List ((List UInt8)×Bool)) (name7:List UInt8) (of9:List ((List UInt8)×(Int×(Bool×((List UInt8)×Unit))))) (s13:List ((List UInt8)×(Int×(Bool×((List UInt8)×Unit))))) (s14:Int) (s15:Int) (s37:List Int) (s38:Int) (s39:Int):Option AV :=
 bif (decide (s39 < s38)) then
 bif ((decide (0≤s39))&&(decide (s39 < s37.length))) then
 bif ((decide (0≤(s37.getD s39.toNat 0)))&&(decide ((s37.getD s39.toNat 0) < l0.length))) then
 bif (decide (of9.length+List.length ([(l0.getD (s37.getD s39.toNat 0).toNat (([]:List UInt8),((0:Int),(false,(([]:List UInt8),())))))]:List ((List UInt8)×(Int×(Bool×((List UInt8)×Unit)))))≤room)) then
 next l0 out3 met4 name7 (of9++([(l0.getD (s37.getD s39.toNat 0).toNat (([]:List UInt8),((0:Int),(false,(([]:List UInt8),())))))]:List ((List UInt8)×(Int×(Bool×((List UInt8)×Unit)))))) s13 s14 s15 s37 s38 (IntKind.wrap .i64 (s39+1))
 else none
 else none
 else none
 else
 k2 l0 out3 met4 name7 of9 s13 s14 s15
def qgX (k2:List ((List UInt8)×(Int×(Bool×((List UInt8)×Unit))))→List ((List UInt8)×((List Int)×Unit))→List ((List UInt8)×Bool)→List UInt8→List ((List UInt8)×(Int×(Bool×((List UInt8)×Unit))))→List ((List UInt8)×(Int×(Bool×((List UInt8)×Unit))))→Int→Int→Option AV):Nat→List ((List UInt8)×(Int×(Bool×((List UInt8)×Unit))))→List ((List UInt8)×((List Int)×Unit))→List ((List UInt8)×Bool)→List UInt8→List ((List UInt8)×(Int×(Bool×((List UInt8)×Unit))))→List ((List UInt8)×(Int×(Bool×((List UInt8)×Unit))))→Int→Int→List Int→Int→Int→Option AV
 | 0=>fun _ _ _ _ _ _ _ _ _ _ _=>none
 | n+1=>qcK k2 (qgX k2 n) n
def qcL (_k0:List ((List UInt8)×((List Int)×Unit))→Option AV) (next:List ((List UInt8)×(Int×(Bool×((List UInt8)×Unit))))→List ((List UInt8)×((List Int)×Unit))→List ((List UInt8)×Bool)→List ((List UInt8)×(Int×(Bool×((List UInt8)×Unit))))→Int→Int→Option AV) (_n:Nat) (l0:List ((List UInt8)×(Int×(Bool×((List UInt8)×Unit))))) (out3:List ((List UInt8)×((List Int)×Unit))) (met4:List ((List UInt8)×Bool)) (name7:List UInt8) (of9:List ((List UInt8)×(Int×(Bool×((List UInt8)×Unit))))) (s13:List ((List UInt8)×(Int×(Bool×((List UInt8)×Unit))))) (s14:Int) (s15:Int):Option AV :=
 bif ((qqj of9)&&true) then
 bif (decide (out3.length+List.length ([(name7,((z30 of9),()))]:List ((List UInt8)×((List Int)×Unit)))≤room)) then
 next l0 (out3++([(name7,((z30 of9),()))]:List ((List UInt8)×((List Int)×Unit)))) met4 s13 s14 (IntKind.wrap .i64 (s15+1))
 else none
 else none
def qW (s13:List ((List UInt8)×(Int×(Bool×((List UInt8)×Unit))))) (s15:Int):=(z28 (s13.getD s15.toNat (([]:List UInt8),((0:Int),(false,(([]:List UInt8),()))))).1)
def qdh (k0:List ((List UInt8)×((List Int)×Unit))→Option AV) (next:List ((List UInt8)×(Int×(Bool×((List UInt8)×Unit))))→List ((List UInt8)×((List Int)×Unit))→List ((List UInt8)×Bool)→List ((List UInt8)×(Int×(Bool×((List UInt8)×Unit))))→Int→Int→Option AV) (n:Nat) (l0:List ((List UInt8)×(Int×(Bool×((List UInt8)×Unit))))) (out3:List ((List UInt8)×((List Int)×Unit))) (met4:List ((List UInt8)×Bool)) (s13:List ((List UInt8)×(Int×(Bool×((List UInt8)×Unit))))) (s14:Int) (s15:Int):Option AV :=
 bif (decide (s15 < s14)) then bif ((decide (0≤s15))&&(decide (s15 < s13.length))) then bif ((qfm (s13.getD s15.toNat (([]:List UInt8),((0:Int),(false,(([]:List UInt8),()))))).1)&&true) then bif ((qqi l0 (qW s13 s15))&&true) then bif (Option.getD (@findM .str .bool (qW s13 s15) met4) false) then next l0 out3 met4 s13 s14 (IntKind.wrap .i64 (s15+1)) else bif (((z29 l0 (qW s13 s15)).length:Int)==(0:Int)) then next l0 out3 met4 s13 s14 (IntKind.wrap .i64 (s15+1)) else qgX (qcL k0 next n) n l0 out3 (@putM .str .bool (qW s13 s15) true met4) (qW s13 s15) ([]:List ((List UInt8)×(Int×(Bool×((List UInt8)×Unit))))) s13 s14 s15 (z29 l0 (qW s13 s15)) ((z29 l0 (qW s13 s15)).length:Int) (0:Int) else none else none else none else k0 out3
def qkQ (k0:List ((List UInt8)×((List Int)×Unit))→Option AV):Nat→List ((List UInt8)×(Int×(Bool×((List UInt8)×Unit))))→List ((List UInt8)×((List Int)×Unit))→List ((List UInt8)×Bool)→List ((List UInt8)×(Int×(Bool×((List UInt8)×Unit))))→Int→Int→Option AV
 | 0=>fun _ _ _ _ _ _=>none
 | n+1=>qdh k0 (qkQ k0 n) n
def qdi (_n:Nat) (out3:List ((List UInt8)×((List Int)×Unit))):Option AV :=
 qhJ out3
def qBp (n:Nat) (l0:List ((List UInt8)×(Int×(Bool×((List UInt8)×Unit))))):Option AV :=
 qkQ (qdi n) n l0 ([]:List ((List UInt8)×((List Int)×Unit))) ([]:List ((List UInt8)×Bool)) l0 (l0.length:Int) (0:Int)
def qum (s4:Int):Option AV:=some (dc s4)
def qBq (_n:Nat) (s0:List UInt8) (at1:Int):Option AV :=
 qum (bif (decide ((s0.length:Int) < (bif (decide ((0:Int) > at1)) then (0:Int) else at1))) then (s0.length:Int) else (bif (decide ((0:Int) > at1)) then (0:Int) else at1))
def qeE (s4:Bool) (s56:Int×(Int×(Bool×Unit))):Option AV:=some (.tup [(dg s4),(.pbox (.ppair (.leaf (.int .i64)) (.ppair (.leaf (.int .i64)) (.ppair (.leaf .bool) (.leaf .unit)))) s56 none),.bad])
def qbg (k0:Int×(Int×(Bool×Unit))):=((IntKind.wrap .i64 (k0.1+1)),k0.2)
def qun (_n:Nat) (k0:Int×(Int×(Bool×Unit))) (c1:UInt8):Option AV :=
 bif k0.2.2.1 then qeE false (k0.1,(k0.2.1,(false,k0.2.2.2))) else bif (c1==(92:UInt8)) then qeE false (k0.1,(k0.2.1,(true,k0.2.2.2))) else bif (c1==(40:UInt8)) then qeE false ((qbg k0).1,((bif (decide ((qbg k0).1 > (qbg k0).2.1)) then (qbg k0).1 else (qbg k0).2.1),(qbg k0).2.2)) else bif (c1==(41:UInt8)) then qeE (((IntKind.wrap .i64 (k0.1 - (1:Int))),k0.2).1==(0:Int)) ((IntKind.wrap .i64 (k0.1 - (1:Int))),k0.2) else qeE false k0
def qkR (s2:Int) (s3:Int):Option AV:=some (.tup [(dc s2),(dc s3)])
def qeF (ret:Int→Int→Option AV) (k0:List UInt8→Int×(Int×(Bool×Unit))→Option AV) (next:List UInt8→Int×(Int×(Bool×Unit))→List UInt8→Int→Int→Option AV) (_n:Nat) (s0:List UInt8) (k4:Int×(Int×(Bool×Unit))) (s12:List UInt8) (s13:Int) (s14:Int):Option AV :=
 bif (decide (s14 < s13)) then
 bif ((decide (0≤s14))&&(decide (s14 < s12.length))) then
 bif (qol k4 (s12.getD s14.toNat (0:UInt8))) then
 bif ((z100 k4 (s12.getD s14.toNat (0:UInt8))).1) then
 ret (IntKind.wrap .i64 (s14+1)) ((z100 k4 (s12.getD s14.toNat (0:UInt8))).2).2.1
 else
 next s0 ((z100 k4 (s12.getD s14.toNat (0:UInt8))).2) s12 s13 (IntKind.wrap .i64 (s14+1))
 else none
 else none
 else
 k0 s0 k4
def qmp (ret:Int→Int→Option AV) (k0:List UInt8→Int×(Int×(Bool×Unit))→Option AV):Nat→List UInt8→Int×(Int×(Bool×Unit))→List UInt8→Int→Int→Option AV
 | 0=>fun _ _ _ _ _=>none
 | n+1=>qeF ret k0 (qmp ret k0 n) n
def qgY (_n:Nat) (s0:List UInt8) (k4:Int×(Int×(Bool×Unit))):Option AV :=
 qkR (s0.length:Int) k4.2.1
def qBr (n:Nat) (s0:List UInt8):Option AV :=
 qmp qkR (qgY n) n s0 ((0:Int),((0:Int),(false,()))) s0 (s0.length:Int) (0:Int)
def qhK (s4:Int):Option AV:=some (dc s4)
def qaE (s0:List UInt8) (at1:Int):=(s0.getD at1.toNat (0:UInt8))
def qjn (ret:Int→Option AV) (k0:Int→Option AV) (next:List UInt8→Int→Option AV) (_n:Nat) (s0:List UInt8) (at1:Int):Option AV :=
 bif (decide (at1 < (s0.length:Int))) then bif ((decide (0≤at1))&&(decide (at1 < s0.length))) then bif ((qaE s0 at1)==(40:UInt8)) then bif (((decide (0≤at1))&&(decide (at1≤(s0.length:Int))))&&(decide ((s0.length:Int)≤(s0.length:Int)))) then bif ((qxi (List.drop at1.toNat (List.take (s0.length:Int).toNat s0)))&&true) then next s0 (IntKind.wrap .i64 (at1+((z78 (List.drop at1.toNat (List.take (s0.length:Int).toNat s0))).1))) else none else none else bif ((qaE s0 at1)==(13:UInt8)) then bif ((qaE s0 at1)==(13:UInt8)) then next s0 (IntKind.wrap .i64 (at1+1)) else ret at1 else bif ((qaE s0 at1)==(10:UInt8)) then bif ((qaE s0 at1)==(10:UInt8)) then next s0 (IntKind.wrap .i64 (at1+1)) else ret at1 else bif (z77 (qaE s0 at1) (2:Int)) then next s0 (IntKind.wrap .i64 (at1+1)) else ret at1 else none else k0 at1
def qmq (ret:Int→Option AV) (k0:Int→Option AV):Nat→List UInt8→Int→Option AV
 | 0=>fun _ _=>none
 | n+1=>qjn ret k0 (qmq ret k0 n) n
def qgZ (_n:Nat) (at1:Int):Option AV :=
 qhK at1
def qBs (n:Nat) (s0:List UInt8) (at1:Int):Option AV :=
 qmq qhK (qgZ n) n s0 (z76 s0 at1)
def qfd (s2:List UInt8) (s3:Int) (s4:Int):Option AV:=some (.tup [(da s2),(dc s3),(dc s4)])
def qT (s19:List UInt8) (s21:Int):=(s19.getD s21.toNat (0:UInt8))
def qaM (ret:List UInt8→Int→Int→Option AV) (k0:Option AV) (next:List UInt8→Bool→List UInt8→Int→Int→Option AV) (_n:Nat) (out5:List UInt8) (taken6:Bool) (s19:List UInt8) (s20:Int) (s21:Int):Option AV :=
 bif (decide (s21 < s20)) then bif ((decide (0≤s21))&&(decide (s21 < s19.length))) then bif taken6 then bif (decide (out5.length+List.length ([(qT s19 s21)]:List UInt8)≤room)) then next (out5++([(qT s19 s21)]:List UInt8)) false s19 s20 (IntKind.wrap .i64 (s21+1)) else none else bif ((qT s19 s21)==(34:UInt8)) then ret out5 (IntKind.wrap .i64 (s21+(2:Int))) (0:Int) else bif ((qT s19 s21)==(92:UInt8)) then next out5 true s19 s20 (IntKind.wrap .i64 (s21+1)) else bif (decide (out5.length+List.length ([(qT s19 s21)]:List UInt8)≤room)) then next (out5++([(qT s19 s21)]:List UInt8)) taken6 s19 s20 (IntKind.wrap .i64 (s21+1)) else none else none else k0
def qjo (ret:List UInt8→Int→Int→Option AV) (k0:Option AV):Nat→List UInt8→Bool→List UInt8→Int→Int→Option AV
 | 0=>fun _ _ _ _ _=>none
 | n+1=>qaM ret k0 (qjo ret k0 n) n
def qeG (_n:Nat):Option AV :=
 qfd ([]:List UInt8) (0:Int) (4:Int)
def qxG (n:Nat) (s0:List UInt8):Option AV :=
 bif ((s0.length:Int)==(0:Int)) then
 qfd ([]:List UInt8) (0:Int) (3:Int)
 else
 bif ((decide (0≤(0:Int)))&&(decide ((0:Int) < s0.length))) then
 bif ((s0.getD (0:Int).toNat (0:UInt8)) != (34:UInt8)) then
 qfd ([]:List UInt8) (0:Int) (3:Int)
 else
 bif (((decide (0≤(1:Int)))&&(decide ((1:Int)≤(s0.length:Int))))&&(decide ((s0.length:Int)≤(s0.length:Int)))) then
 qjo qfd (qeG n) n ([]:List UInt8) false (List.drop (1:Int).toNat (List.take (s0.length:Int).toNat s0)) ((List.drop (1:Int).toNat (List.take (s0.length:Int).toNat s0)).length:Int) (0:Int)
 else none
 else none
def qkS (s2:Int):Option AV:=some (dc s2)
def qBt (_n:Nat) (s0:List UInt8):Option AV :=
 bif ((decide (0≤(0:Int)))&&(decide ((0:Int) < s0.length))) then
 bif ((s0.getD (0:Int).toNat (0:UInt8))==(34:UInt8)) then
 bif ((qqg s0)&&true) then
 bif (((z75 s0).2.2) != (0:Int)) then
 qkS (s0.length:Int)
 else
 qkS ((z75 s0).2.1)
 else none
 else
 bif ((s0.getD (0:Int).toNat (0:UInt8))==(40:UInt8)) then
 bif ((qgJ s0 (0:Int))&&true) then
 qkS (z54 s0 (0:Int))
 else none
 else
 qkS (1:Int)
 else none
def qup (s2:List (List UInt8)):Option AV:=some (.dat (.sl (.sl .byte)) s2 (some (2,22)))
def qjp (k0:List UInt8→List (List UInt8)→Option AV) (next:List UInt8→List (List UInt8)→Int→Option AV) (_n:Nat) (s0:List UInt8) (l3:List (List UInt8)) (at4:Int):Option AV :=
 bif (decide (at4 < (s0.length:Int))) then
 bif ((decide (0≤at4))&&(decide (at4 < s0.length))) then
 bif ((s0.getD at4.toNat (0:UInt8)) != (59:UInt8)) then
 bif (((decide (0≤at4))&&(decide (at4≤(s0.length:Int))))&&(decide ((s0.length:Int)≤(s0.length:Int)))) then
 bif ((qqh (List.drop at4.toNat (List.take (s0.length:Int).toNat s0)))&&true) then
 next s0 l3 (IntKind.wrap .i64 (at4+(z52 (List.drop at4.toNat (List.take (s0.length:Int).toNat s0)))))
 else none
 else none
 else
 bif (((decide (0≤((0:Nat):Int)))&&(decide (((0:Nat):Int)≤at4)))&&(decide (at4≤(s0.length:Int)))) then
 bif ((qbY (List.drop ((0:Nat):Int).toNat (List.take at4.toNat s0)))&&true) then
 bif (decide (l3.length+List.length ([(z43 (List.drop ((0:Nat):Int).toNat (List.take at4.toNat s0)))]:List (List UInt8))≤room)) then
 bif (((decide (0≤(IntKind.wrap .i64 (at4+1))))&&(decide ((IntKind.wrap .i64 (at4+1))≤(s0.length:Int))))&&(decide ((s0.length:Int)≤(s0.length:Int)))) then
 next (List.drop (IntKind.wrap .i64 (at4+1)).toNat (List.take (s0.length:Int).toNat s0)) (l3++([(z43 (List.drop ((0:Nat):Int).toNat (List.take at4.toNat s0)))]:List (List UInt8))) (0:Int)
 else none
 else none
 else none
 else none
 else none
 else
 k0 s0 l3
def qkT (k0:List UInt8→List (List UInt8)→Option AV):Nat→List UInt8→List (List UInt8)→Int→Option AV
 | 0=>fun _ _ _=>none
 | n+1=>qjp k0 (qkT k0 n) n
def qdj (_n:Nat) (s0:List UInt8) (l3:List (List UInt8)):Option AV :=
 bif ((qbY s0)&&true) then
 bif (decide (l3.length+List.length ([(z43 s0)]:List (List UInt8))≤room)) then
 qup (l3++([(z43 s0)]:List (List UInt8)))
 else none
 else none
def qBu (n:Nat) (s0:List UInt8):Option AV :=
 qkT (qdj n) n s0 ([]:List (List UInt8)) (0:Int)
def qoM (s4:List UInt8) (s5:Int) (s6:Int):Option AV:=some (.tup [(da s4),(dc s5),(dc s6)])
def qeH (k0:List UInt8→Int→Int→Option AV) (next:List UInt8→Int→Int→Option AV) (_n:Nat) (s0:List UInt8) (at1:Int) (n7:Int):Option AV :=
 bif (decide (n7 < (s0.length:Int))) then
 bif ((decide (0≤n7))&&(decide (n7 < s0.length))) then
 bif (z77 (s0.getD n7.toNat (0:UInt8)) (64:Int)) then
 next s0 at1 (IntKind.wrap .i64 (n7+1))
 else
 k0 s0 at1 n7
 else none
 else
 k0 s0 at1 n7
def qmr (k0:List UInt8→Int→Int→Option AV):Nat→List UInt8→Int→Int→Option AV
 | 0=>fun _ _ _=>none
 | n+1=>qeH k0 (qmr k0 n) n
def qha (_n:Nat) (s0:List UInt8) (at1:Int) (n7:Int):Option AV :=
 bif (at1==(s0.length:Int)) then
 qoM ([]:List UInt8) (0:Int) (4:Int)
 else
 bif (n7==at1) then
 qoM ([]:List UInt8) (0:Int) (3:Int)
 else
 bif (((decide (0≤at1))&&(decide (at1≤n7)))&&(decide (n7≤(s0.length:Int)))) then
 bif ((qbY (List.drop at1.toNat (List.take n7.toNat s0)))&&true) then
 qoM (z43 (List.drop at1.toNat (List.take n7.toNat s0))) n7 (0:Int)
 else none
 else none
def qxH (n:Nat) (s0:List UInt8) (at1:Int):Option AV :=
 qmr (qha n) n s0 (z76 s0 at1) (z76 s0 at1)
def qoN (s6:Int) (s7:Bool):Option AV:=some (.tup [(dc s6),(dg s7)])
def qBv (_n:Nat) (s0:List UInt8) (at1:Int) (c2:UInt8):Option AV :=
 bif ((qgJ s0 at1)&&true) then
 bif ((z54 s0 at1)==(s0.length:Int)) then
 qoN (z76 s0 at1) false
 else
 bif ((decide (0≤(z54 s0 at1)))&&(decide ((z54 s0 at1) < s0.length))) then
 bif ((s0.getD (z54 s0 at1).toNat (0:UInt8)) != c2) then
 qoN (z76 s0 at1) false
 else
 qoN (IntKind.wrap .i64 ((z54 s0 at1)+1)) true
 else none
 else none
def qkU (s4:List UInt8) (s5:Int) (s6:Int):Option AV:=some (.tup [(da s4),(dc s5),(dc s6)])
def qcM (s0:List UInt8) (at1:Int):=(List.drop (z76 s0 at1).toNat (List.take (s0.length:Int).toNat s0))
def qBw (_n:Nat) (s0:List UInt8) (at1:Int):Option AV :=
 bif ((z76 s0 at1)==(s0.length:Int)) then bif ((qlY s0 (z76 s0 at1))&&true) then qkU ((z53 s0 (z76 s0 at1)).1) ((z53 s0 (z76 s0 at1)).2.1) ((z53 s0 (z76 s0 at1)).2.2) else none else bif ((decide (0≤(z76 s0 at1)))&&(decide ((z76 s0 at1) < s0.length))) then bif ((s0.getD (z76 s0 at1).toNat (0:UInt8)) != (34:UInt8)) then bif ((qlY s0 (z76 s0 at1))&&true) then qkU ((z53 s0 (z76 s0 at1)).1) ((z53 s0 (z76 s0 at1)).2.1) ((z53 s0 (z76 s0 at1)).2.2) else none else bif (((decide (0≤(z76 s0 at1)))&&(decide ((z76 s0 at1)≤(s0.length:Int))))&&(decide ((s0.length:Int)≤(s0.length:Int)))) then bif ((qqg (qcM s0 at1))&&true) then bif (((z75 (qcM s0 at1)).2.2) != (0:Int)) then qkU ([]:List UInt8) (0:Int) ((z75 (qcM s0 at1)).2.2) else qkU ((z75 (qcM s0 at1)).1) (IntKind.wrap .i64 ((z76 s0 at1)+((z75 (qcM s0 at1)).2.1))) (0:Int) else none else none else none
def quq (s2:Bool):Option AV:=some (dg s2)
def qBx (_n:Nat) (part0:List UInt8):Option AV :=
 bif ((qgJ part0 (0:Int))&&true) then
 quq ((z54 part0 (0:Int))==(part0.length:Int))
 else none
def qur (s4:Int):Option AV:=some (dc s4)
def qcN (k0:Int→Option AV) (next:Int→Int→List UInt8→Int→Int→Option AV) (_n:Nat) (kinds1:Int) (n5:Int) (s8:List UInt8) (s9:Int) (s10:Int):Option AV :=
 bif (decide (s10 < s9)) then
 bif ((decide (0≤s10))&&(decide (s10 < s8.length))) then
 bif (z77 (s8.getD s10.toNat (0:UInt8)) kinds1) then
 next kinds1 (IntKind.wrap .i64 (n5+1)) s8 s9 (IntKind.wrap .i64 (s10+1))
 else
 next kinds1 n5 s8 s9 (IntKind.wrap .i64 (s10+1))
 else none
 else
 k0 n5
def qdY (k0:Int→Option AV):Nat→Int→Int→List UInt8→Int→Int→Option AV
 | 0=>fun _ _ _ _ _=>none
 | n+1=>qcN k0 (qdY k0 n) n
def qdZ (_n:Nat) (n5:Int):Option AV :=
 qur n5
def qoO (n:Nat) (s0:List UInt8) (kinds1:Int):Option AV :=
 qdY (qdZ n) n kinds1 (0:Int) s0 (s0.length:Int) (0:Int)
def qus (s4:Bool):Option AV:=some (dg s4)
def qBy (_n:Nat) (s0:List UInt8) (kinds1:Int):Option AV :=
 bif ((qnt s0 kinds1)&&true) then
 qus ((z101 s0 kinds1)==(s0.length:Int))
 else none
def qms (s4:Bool):Option AV:=some (dg s4)
def qut (_n:Nat) (s0:List UInt8) (suffix1:List UInt8):Option AV :=
 bif (decide ((suffix1.length:Int)≤(s0.length:Int))) then
 bif (((decide (0≤(IntKind.wrap .i64 ((s0.length:Int) - (suffix1.length:Int)))))&&(decide ((IntKind.wrap .i64 ((s0.length:Int) - (suffix1.length:Int)))≤(s0.length:Int))))&&(decide ((s0.length:Int)≤(s0.length:Int)))) then
 qms (z33 (List.drop (IntKind.wrap .i64 ((s0.length:Int) - (suffix1.length:Int))).toNat (List.take (s0.length:Int).toNat s0)) suffix1)
 else none
 else
 qms false
def quu (before4:List UInt8) (found5:Bool):Option AV:=some (.tup [(da before4),(dg found5)])
def qBz (_n:Nat) (s0:List UInt8) (suffix1:List UInt8):Option AV :=
 bif ((qnq s0 suffix1)&&true) then
 bif (!(z102 s0 suffix1)) then
 quu s0 false
 else
 bif (((decide (0≤((0:Nat):Int)))&&(decide (((0:Nat):Int)≤(IntKind.wrap .i64 ((s0.length:Int) - (suffix1.length:Int))))))&&(decide ((IntKind.wrap .i64 ((s0.length:Int) - (suffix1.length:Int)))≤(s0.length:Int)))) then
 quu (List.drop ((0:Nat):Int).toNat (List.take (IntKind.wrap .i64 ((s0.length:Int) - (suffix1.length:Int))).toNat s0)) true
 else none
 else none
def qfe (s2:Int):Option AV:=some (dc s2)
def qcr (k0:Int→Option AV) (next:Int→List UInt8→Int→Int→Option AV) (_n:Nat) (n3:Int) (s30:List UInt8) (s31:Int) (s32:Int):Option AV :=
 bif (decide (s32 < s31)) then
 bif ((decide (0≤s32))&&(decide (s32 < s30.length))) then
 next (IntKind.wrap .i64 ((IntKind.wrap .i64 ((10:Int)*n3))+(IntKind.wrap .i64 ((UInt8.toNat ((s30.getD s32.toNat (0:UInt8)) - (48:UInt8)):Nat):Int)))) s30 s31 (IntKind.wrap .i64 (s32+1))
 else none
 else
 k0 n3
def qjq (k0:Int→Option AV):Nat→Int→List UInt8→Int→Int→Option AV
 | 0=>fun _ _ _ _=>none
 | n+1=>qcr k0 (qjq k0 n) n
def qdk (_n:Nat) (n3:Int):Option AV :=
 qfe n3
def qxI (n:Nat) (s0:List UInt8):Option AV :=
 bif ((s0.length:Int)==(0:Int)) then
 qfe (-1:Int)
 else
 bif (decide ((3:Int) < (s0.length:Int))) then
 qfe (-1:Int)
 else
 bif ((qpE s0 (8:Int))&&true) then
 bif (!(z79 s0 (8:Int))) then
 qfe (-1:Int)
 else
 bif ((decide (0≤(0:Int)))&&(decide ((0:Int) < s0.length))) then
 bif ((s0.getD (0:Int).toNat (0:UInt8))==(48:UInt8)) then
 bif (decide ((1:Int) < (s0.length:Int))) then
 qfe (-1:Int)
 else
 qjq (qdk n) n (0:Int) s0 (s0.length:Int) (0:Int)
 else
 qjq (qdk n) n (0:Int) s0 (s0.length:Int) (0:Int)
 else none
 else none
def qhb (s2:List UInt8) (s3:Int) (s4:Bool):Option AV:=some (.tup [(da s2),(dc s3),(dg s4)])
def qaI (a0:List UInt8):=(z65 (z28 a0) ([(42:UInt8)]:List UInt8))
def qea (a0:List UInt8):=(z80 ((qaI a0).2.1) ([(42:UInt8)]:List UInt8))
def qBA (_n:Nat) (a0:List UInt8):Option AV :=
 bif ((qfm a0)&&true) then bif ((qkj (z28 a0) ([(42:UInt8)]:List UInt8))&&true) then bif (!((qaI a0).2.2)) then qhb (z28 a0) (-1:Int) false else bif ((((qaI a0).1).length:Int)==(0:Int)) then qhb (z28 a0) (-1:Int) false else bif ((qpE ((qaI a0).1) (256:Int))&&true) then bif (!(z79 ((qaI a0).1) (256:Int))) then qhb (z28 a0) (-1:Int) false else bif ((((qaI a0).2.1).length:Int)==(0:Int)) then qhb ((qaI a0).1) (-1:Int) true else bif ((qxh ((qaI a0).2.1) ([(42:UInt8)]:List UInt8))&&true) then bif ((qxm ((qea a0).1))&&true) then bif ((z81 ((qea a0).1))==(-1:Int)) then qhb (z28 a0) (-1:Int) false else qhb ((qaI a0).1) (z81 ((qea a0).1)) ((qea a0).2) else none else none else none else none else none
def qhL (s2:(List UInt8)×(Int×(Bool×((List UInt8)×Unit)))) (s3:Int):Option AV:=some (.tup [(.dat (.pair (.sl .byte) (.pair (.int .i64) (.pair .bool (.pair (.sl .byte) .unit)))) s2 none),(dc s3)])
def qjr (part0:List UInt8):=(((z58 ((z53 part0 (z54 part0 (0:Int))).1)).1),(([]:List UInt8),((0:Int),(false,(((z56 part0 (z54 part0 ((z55 part0 ((z53 part0 (z54 part0 (0:Int))).2.1) (61:UInt8)).1))).1),())))).2)
def qeb (part0:List UInt8):=(z55 part0 ((z53 part0 (z54 part0 (0:Int))).2.1) (61:UInt8))
def qfO (part0:List UInt8):=((qjr part0).1,(((z58 ((z53 part0 (z54 part0 (0:Int))).1)).2.1),(qjr part0).2.2))
def qec:=(([]:List UInt8),((0:Int),(false,(([]:List UInt8),()))))
def qcO (part0:List UInt8):=(z56 part0 (z54 part0 ((qeb part0).1)))
def qBB (_n:Nat) (part0:List UInt8):Option AV :=
 bif ((qgJ part0 (0:Int))&&true) then bif ((qlY part0 (z54 part0 (0:Int)))&&true) then bif (((z53 part0 (z54 part0 (0:Int))).2.2) != (0:Int)) then qhL (qec) (3:Int) else bif ((qxj part0 ((z53 part0 (z54 part0 (0:Int))).2.1) (61:UInt8))&&true) then bif (!((qeb part0).2)) then qhL (qec) (3:Int) else bif ((qgJ part0 ((qeb part0).1))&&true) then bif ((qxk part0 (z54 part0 ((qeb part0).1)))&&true) then bif (((qcO part0).2.2) != (0:Int)) then qhL (qec) (3:Int) else bif (((decide (0≤((qcO part0).2.1)))&&(decide (((qcO part0).2.1)≤(part0.length:Int))))&&(decide ((part0.length:Int)≤(part0.length:Int)))) then bif ((qxo (List.drop ((qcO part0).2.1).toNat (List.take (part0.length:Int).toNat part0)))&&true) then bif (!(z57 (List.drop ((qcO part0).2.1).toNat (List.take (part0.length:Int).toNat part0)))) then qhL (qec) (3:Int) else bif ((qxn ((z53 part0 (z54 part0 (0:Int))).1))&&true) then qhL ((qfO part0).1,((qfO part0).2.1,(((z58 ((z53 part0 (z54 part0 (0:Int))).1)).2.2),(qfO part0).2.2.2))) (0:Int) else none else none else none else none else none else none else none else none
def quv (s2:List ((List UInt8)×(Int×(Bool×((List UInt8)×Unit))))):Option AV:=some (.dat (.sl (.pair (.sl .byte) (.pair (.int .i64) (.pair .bool (.pair (.sl .byte) .unit))))) s2 (some (2,59)))
def qeI (k0:List ((List UInt8)×(Int×(Bool×((List UInt8)×Unit))))→Option AV) (next:List ((List UInt8)×(Int×(Bool×((List UInt8)×Unit))))→List (List UInt8)→Int→Int→Option AV) (_n:Nat) (l3:List ((List UInt8)×(Int×(Bool×((List UInt8)×Unit))))) (s9:List (List UInt8)) (s10:Int) (s11:Int):Option AV :=
 bif (decide (s11 < s10)) then
 bif ((decide (0≤s11))&&(decide (s11 < s9.length))) then
 bif ((qxp (s9.getD s11.toNat ([]:List UInt8)))&&true) then
 bif (((z32 (s9.getD s11.toNat ([]:List UInt8))).2)==(0:Int)) then
 bif (decide (l3.length+List.length ([((z32 (s9.getD s11.toNat ([]:List UInt8))).1)]:List ((List UInt8)×(Int×(Bool×((List UInt8)×Unit)))))≤room)) then
 next (l3++([((z32 (s9.getD s11.toNat ([]:List UInt8))).1)]:List ((List UInt8)×(Int×(Bool×((List UInt8)×Unit)))))) s9 s10 (IntKind.wrap .i64 (s11+1))
 else none
 else
 next l3 s9 s10 (IntKind.wrap .i64 (s11+1))
 else none
 else none
 else
 k0 l3
def qmt (k0:List ((List UInt8)×(Int×(Bool×((List UInt8)×Unit))))→Option AV):Nat→List ((List UInt8)×(Int×(Bool×((List UInt8)×Unit))))→List (List UInt8)→Int→Int→Option AV
 | 0=>fun _ _ _ _=>none
 | n+1=>qeI k0 (qmt k0 n) n
def qeJ (_n:Nat) (l3:List ((List UInt8)×(Int×(Bool×((List UInt8)×Unit))))):Option AV :=
 quv l3
def qxJ (n:Nat) (s0:List UInt8):Option AV :=
 bif ((qxl s0)&&true) then
 qmt (qeJ n) n ([]:List ((List UInt8)×(Int×(Bool×((List UInt8)×Unit))))) (z31 s0) ((z31 s0).length:Int) (0:Int)
 else none
def qES (s2:List ((List UInt8)×((List Int)×Unit))):Option AV:=some (.dat (.sl (.pair (.sl .byte) (.pair (.sl (.int .i32)) .unit))) s2 (some (2,31)))
def z7_sh (_n:Nat) (s0:List UInt8):Option AV :=
 bif ((qxq s0)&&true) then
 bif ((qlZ (z15 s0))&&true) then
 qES (z14 (z15 s0))
 else none
 else none
def qhM (s4:Bool):Option AV:=some (dg s4)
def qeK (ret:Bool→Option AV) (k0:Option AV) (next:List Int→List Int→Int→Option AV) (_n:Nat) (a0:List Int) (b1:List Int) (i5:Int):Option AV :=
 bif (decide (i5 < (a0.length:Int))) then
 bif ((decide (0≤i5))&&(decide (i5 < a0.length))) then
 bif ((decide (0≤i5))&&(decide (i5 < b1.length))) then
 bif ((a0.getD i5.toNat 0) != (b1.getD i5.toNat 0)) then
 ret false
 else
 next a0 b1 (IntKind.wrap .i64 (i5+1))
 else none
 else none
 else
 k0
def qjs (ret:Bool→Option AV) (k0:Option AV):Nat→List Int→List Int→Int→Option AV
 | 0=>fun _ _ _=>none
 | n+1=>qeK ret k0 (qjs ret k0 n) n
def qjt (_n:Nat):Option AV :=
 qhM true
def qxK (n:Nat) (a0:List Int) (b1:List Int):Option AV :=
 bif ((a0.length:Int) != (b1.length:Int)) then
 qhM false
 else
 qjs qhM (qjt n) n a0 b1 (0:Int)
def qyV (s3:Bool) (s9:List UInt8):Option AV:=some (.tup [(dg s3),.bad,(.pbox (.leaf (.sl .byte)) s9 none)])
def qBC (_n:Nat) (p0:(List UInt8)×((List Int)×Unit)) (x1:List UInt8):Option AV :=
 bif ((qlC p0.1 x1)&&true) then
 qyV (z19 p0.1 x1) x1
 else none
def qbF (s4:Int) (s20:List UInt8):Option AV:=some (.tup [(dc s4),.bad,(.pbox (.leaf (.sl .byte)) s20 none)])
def qaj (s0:List ((List UInt8)×((List Int)×Unit))) (s8:Int):=(s0.getD s8.toNat (([]:List UInt8),(([]:List Int),())))
def qaU (ret:Int→List UInt8→Option AV) (k0:List UInt8→Option AV) (next:List ((List UInt8)×((List Int)×Unit))→Int→Int→List UInt8→Option AV) (_n:Nat) (s0:List ((List UInt8)×((List Int)×Unit))) (s7:Int) (s8:Int) (s20:List UInt8):Option AV :=
 bif (decide (s8 < s7)) then bif ((decide (0≤s8))&&(decide (s8 < s0.length))) then bif (qth (qaj s0 s8) s20) then bif ((z18 (qaj s0 s8) s20).1) then ret s8 ((z18 (qaj s0 s8) s20).2) else next s0 s7 (IntKind.wrap .i64 (s8+1)) ((z18 (qaj s0 s8) s20).2) else none else none else k0 s20
def qbQ (ret:Int→List UInt8→Option AV) (k0:List UInt8→Option AV):Nat→List ((List UInt8)×((List Int)×Unit))→Int→Int→List UInt8→Option AV
 | 0=>fun _ _ _ _=>none
 | n+1=>qaU ret k0 (qbQ ret k0 n) n
def qbG (_n:Nat) (s20:List UInt8):Option AV :=
 qbF (-1:Int) s20
def qju (n:Nat) (s0:List ((List UInt8)×((List Int)×Unit))) (f1:List UInt8):Option AV :=
 qbQ qbF (qbG n) n s0 (s0.length:Int) (0:Int) f1
def quw (s4:List Int) (s5:Bool):Option AV:=some (.tup [(.dat (.sl (.int .i32)) s4 none),(dg s5)])
def qBD (_n:Nat) (l0:List ((List UInt8)×((List Int)×Unit))) (name1:List UInt8):Option AV :=
 bif (qdO l0 name1) then
 bif (decide (((qgK l0 name1).1) < (0:Int))) then
 quw ([]:List Int) false
 else
 bif ((decide (0≤((qgK l0 name1).1)))&&(decide (((qgK l0 name1).1) < l0.length))) then
 bif ((qzT (l0.getD ((qgK l0 name1).1).toNat (([]:List UInt8),(([]:List Int),()))).2.1)&&true) then
 quw (z20 (l0.getD ((qgK l0 name1).1).toNat (([]:List UInt8),(([]:List Int),()))).2.1) true
 else none
 else none
 else none
def qux (s0:Bool):Option AV:=some (dg s0)
def qeL:=([(97:UInt8),(42:UInt8),(48:UInt8),(42:UInt8),(61:UInt8),(117:UInt8),(116:UInt8),(102:UInt8),(45:UInt8),(56:UInt8),(39:UInt8),(39:UInt8),(37:UInt8),(67:UInt8),(51:UInt8),(59:UInt8),(32:UInt8),(65:UInt8),(42:UInt8),(49:UInt8),(42:UInt8),(61:UInt8),(37:UInt8),(65:UInt8),(57:UInt8),(59:UInt8),(32:UInt8),(98:UInt8),(61:UInt8),(120:UInt8)]:List UInt8)
def qmu:=(z11 (z7 (qeL)) ([(66:UInt8)]:List UInt8))
def quy:=((z7 (qeL)).getD (0:Int).toNat (([]:List UInt8),(([]:List Int),())))
def z5_sh (_n:Nat):Option AV :=
 bif ((z7_ok (qeL))&&true) then bif ((qma (z7 (qeL)) ([(66:UInt8)]:List UInt8))&&true) then bif (((z7 (qeL)).length:Int)==(2:Int)) then bif ((decide (0≤(0:Int)))&&(decide ((0:Int) < (z7 (qeL)).length))) then bif ((qpD (quy).2.1 ([(233:Int)]:List Int))&&true) then bif (z10 (quy).2.1 ([(233:Int)]:List Int)) then bif ((qpD ((qmu).1) ([(120:Int)]:List Int))&&true) then bif (z10 ((qmu).1) ([(120:Int)]:List Int)) then qux ((qmu).2) else qux false else none else qux false else none else none else qux false else none else none
def qqt (s4:Bool):Option AV:=some (dg s4)
def qhN (ret:Bool→Option AV) (k0:Option AV) (next:List UInt8→List UInt8→Int→Option AV) (_n:Nat) (a0:List UInt8) (b1:List UInt8) (i5:Int):Option AV :=
 bif (decide (i5 < (a0.length:Int))) then
 bif ((decide (0≤i5))&&(decide (i5 < a0.length))) then
 bif ((decide (0≤i5))&&(decide (i5 < b1.length))) then
 bif ((a0.getD i5.toNat (0:UInt8)) != (b1.getD i5.toNat (0:UInt8))) then
 ret false
 else
 next a0 b1 (IntKind.wrap .i64 (i5+1))
 else none
 else none
 else
 k0
def z8_l4 (ret:Bool→Option AV) (k0:Option AV):Nat→List UInt8→List UInt8→Int→Option AV
 | 0=>fun _ _ _=>none
 | n+1=>qhN ret k0 (z8_l4 ret k0 n) n
def qoP (_n:Nat):Option AV :=
 qqt true
def z8_sh (n:Nat) (a0:List UInt8) (b1:List UInt8):Option AV :=
 bif ((a0.length:Int) != (b1.length:Int)) then
 qqt false
 else
 z8_l4 qqt (qoP n) n a0 b1 (0:Int)
def quz (s2:Bool):Option AV:=some (dg s2)
def qBE (_n:Nat) (c0:Int):Option AV :=
 bif (decide ((55296:Int)≤c0)) then
 quz (decide (c0≤(57343:Int)))
 else
 quz false
def qoQ (s2:Bool):Option AV:=some (dg s2)
def qBF (_n:Nat) (c0:Int):Option AV :=
 bif (decide (0≤c0)) then
 bif (decide (c0≤(1114111:Int))) then
 qoQ (!(z34 c0))
 else
 qoQ false
 else
 qoQ false
def qhc (s2:Int):Option AV:=some (dc s2)
def qeM (ret:Int→Option AV) (k0:Option AV) (next:List Int→Int→Option AV) (_n:Nat) (t0:List Int) (i3:Int):Option AV :=
 bif (decide (i3 < (t0.length:Int))) then
 bif ((decide (0≤i3))&&(decide (i3 < t0.length))) then
 bif (!(z21 (t0.getD i3.toNat 0))) then
 ret i3
 else
 next t0 (IntKind.wrap .i64 (i3+1))
 else none
 else
 k0
def qmv (ret:Int→Option AV) (k0:Option AV):Nat→List Int→Int→Option AV
 | 0=>fun _ _=>none
 | n+1=>qeM ret k0 (qmv ret k0 n) n
def qhd (_n:Nat):Option AV :=
 qhc (-1:Int)
def qxL (n:Nat) (t0:List Int):Option AV :=
 qmv qhc (qhd n) n t0 (0:Int)
def qeN (s2:Bool):Option AV:=some (dg s2)
def qhO (ret:Bool→Option AV) (k2:List UInt8→List ((List UInt8)×((List Int)×Unit))→Int→(List UInt8)×((List Int)×Unit)→List ((List UInt8)×((List Int)×Unit))→Int→Int→Option AV) (next:List UInt8→List ((List UInt8)×((List Int)×Unit))→Int→(List UInt8)×((List Int)×Unit)→List ((List UInt8)×((List Int)×Unit))→Int→Int→Int→Int→Option AV) (_n:Nat) (s0:List UInt8) (l3:List ((List UInt8)×((List Int)×Unit))) (n4:Int) (p6:(List UInt8)×((List Int)×Unit)) (s19:List ((List UInt8)×((List Int)×Unit))) (s20:Int) (s21:Int) (s26:Int) (s27:Int):Option AV :=
 bif (decide (s27 < s26)) then
 bif ((decide (0≤s27))&&(decide (s27 < l3.length))) then
 bif ((z8_ok (l3.getD s27.toNat (([]:List UInt8),(([]:List Int),()))).1 p6.1)&&true) then
 bif (z8 (l3.getD s27.toNat (([]:List UInt8),(([]:List Int),()))).1 p6.1) then
 ret false
 else
 next s0 l3 n4 p6 s19 s20 s21 s26 (IntKind.wrap .i64 (s27+1))
 else none
 else none
 else
 k2 s0 l3 n4 p6 s19 s20 s21
def z4_l9 (ret:Bool→Option AV) (k2:List UInt8→List ((List UInt8)×((List Int)×Unit))→Int→(List UInt8)×((List Int)×Unit)→List ((List UInt8)×((List Int)×Unit))→Int→Int→Option AV):Nat→List UInt8→List ((List UInt8)×((List Int)×Unit))→Int→(List UInt8)×((List Int)×Unit)→List ((List UInt8)×((List Int)×Unit))→Int→Int→Int→Int→Option AV
 | 0=>fun _ _ _ _ _ _ _ _ _=>none
 | n+1=>qhO ret k2 (z4_l9 ret k2 n) n
def qX (s40:List UInt8) (s42:Int):=(s40.getD s42.toNat (0:UInt8))
def qeO (k4:List UInt8→List ((List UInt8)×((List Int)×Unit))→Int→(List UInt8)×((List Int)×Unit)→List UInt8→List ((List UInt8)×((List Int)×Unit))→Int→Int→Option AV) (next:List UInt8→List ((List UInt8)×((List Int)×Unit))→Int→(List UInt8)×((List Int)×Unit)→List UInt8→List ((List UInt8)×((List Int)×Unit))→Int→Int→List UInt8→Int→Int→Option AV) (_n:Nat) (s0:List UInt8) (l3:List ((List UInt8)×((List Int)×Unit))) (n4:Int) (p6:(List UInt8)×((List Int)×Unit)) (big8:List UInt8) (s19:List ((List UInt8)×((List Int)×Unit))) (s20:Int) (s21:Int) (s40:List UInt8) (s41:Int) (s42:Int):Option AV :=
 bif (decide (s42 < s41)) then bif ((decide (0≤s42))&&(decide (s42 < s40.length))) then bif (decide ((97:UInt8)≤(qX s40 s42))) then bif (decide ((qX s40 s42)≤(122:UInt8))) then bif (decide (big8.length+List.length ([((qX s40 s42) - (32:UInt8))]:List UInt8)≤room)) then next s0 l3 n4 p6 (big8++([((qX s40 s42) - (32:UInt8))]:List UInt8)) s19 s20 s21 s40 s41 (IntKind.wrap .i64 (s42+1)) else none else bif (decide (big8.length+List.length ([(qX s40 s42)]:List UInt8)≤room)) then next s0 l3 n4 p6 (big8++([(qX s40 s42)]:List UInt8)) s19 s20 s21 s40 s41 (IntKind.wrap .i64 (s42+1)) else none else bif (decide (big8.length+List.length ([(qX s40 s42)]:List UInt8)≤room)) then next s0 l3 n4 p6 (big8++([(qX s40 s42)]:List UInt8)) s19 s20 s21 s40 s41 (IntKind.wrap .i64 (s42+1)) else none else none else k4 s0 l3 n4 p6 big8 s19 s20 s21
def qmw (k4:List UInt8→List ((List UInt8)×((List Int)×Unit))→Int→(List UInt8)×((List Int)×Unit)→List UInt8→List ((List UInt8)×((List Int)×Unit))→Int→Int→Option AV):Nat→List UInt8→List ((List UInt8)×((List Int)×Unit))→Int→(List UInt8)×((List Int)×Unit)→List UInt8→List ((List UInt8)×((List Int)×Unit))→Int→Int→List UInt8→Int→Int→Option AV
 | 0=>fun _ _ _ _ _ _ _ _ _ _ _=>none
 | n+1=>qeO k4 (qmw k4 n) n
def qeP (ret:Bool→Option AV) (_k0:List UInt8→Int→Option AV) (next:List UInt8→List ((List UInt8)×((List Int)×Unit))→Int→List ((List UInt8)×((List Int)×Unit))→Int→Int→Option AV) (_n:Nat) (s0:List UInt8) (l3:List ((List UInt8)×((List Int)×Unit))) (n4:Int) (p6:(List UInt8)×((List Int)×Unit)) (big8:List UInt8) (s19:List ((List UInt8)×((List Int)×Unit))) (s20:Int) (s21:Int):Option AV :=
 bif ((qma l3 big8)&&true) then
 bif (!((z11 l3 big8).2)) then
 ret false
 else
 bif ((qpD ((z11 l3 big8).1) p6.2.1)&&true) then
 bif (!(z10 ((z11 l3 big8).1) p6.2.1)) then
 ret false
 else
 bif ((qyq p6.2.1)&&true) then
 bif (decide (0≤(z12 p6.2.1))) then
 ret false
 else
 next s0 l3 (IntKind.wrap .i64 (n4+(p6.2.1.length:Int))) s19 s20 (IntKind.wrap .i64 (s21+1))
 else none
 else none
 else none
def qhe (ret:Bool→Option AV) (k0:List UInt8→Int→Option AV) (next:List UInt8→List ((List UInt8)×((List Int)×Unit))→Int→List ((List UInt8)×((List Int)×Unit))→Int→Int→Option AV) (n:Nat) (s0:List UInt8) (l3:List ((List UInt8)×((List Int)×Unit))) (n4:Int) (p6:(List UInt8)×((List Int)×Unit)) (s19:List ((List UInt8)×((List Int)×Unit))) (s20:Int) (s21:Int):Option AV :=
 qmw (qeP ret k0 next n) n s0 l3 n4 p6 ([]:List UInt8) s19 s20 s21 p6.1 (p6.1.length:Int) (0:Int)
def qhf (ret:Bool→Option AV) (k0:List UInt8→Int→Option AV) (next:List UInt8→List ((List UInt8)×((List Int)×Unit))→Int→List ((List UInt8)×((List Int)×Unit))→Int→Int→Option AV) (n:Nat) (s0:List UInt8) (l3:List ((List UInt8)×((List Int)×Unit))) (n4:Int) (s19:List ((List UInt8)×((List Int)×Unit))) (s20:Int) (s21:Int):Option AV :=
 bif (decide (s21 < s20)) then
 bif ((decide (0≤s21))&&(decide (s21 < s19.length))) then
 z4_l9 ret (qhe ret k0 next n) n s0 l3 n4 (s19.getD s21.toNat (([]:List UInt8),(([]:List Int),()))) s19 s20 s21 s21 (0:Int)
 else none
 else
 k0 s0 n4
def z4_l6 (ret:Bool→Option AV) (k0:List UInt8→Int→Option AV):Nat→List UInt8→List ((List UInt8)×((List Int)×Unit))→Int→List ((List UInt8)×((List Int)×Unit))→Int→Int→Option AV
 | 0=>fun _ _ _ _ _ _=>none
 | n+1=>qhf ret k0 (z4_l6 ret k0 n) n
def qcU (_n:Nat) (s0:List UInt8) (n4:Int):Option AV :=
 bif (decide (n4≤(s0.length:Int))) then
 qeN z5
 else
 qeN false
def z4_sh (n:Nat) (s0:List UInt8):Option AV :=
 bif (decide ((400:Int) < (s0.length:Int))) then
 qeN z5
 else
 bif ((z7_ok s0)&&true) then
 z4_l6 qeN (qcU n) n s0 (z7 s0) (0:Int) (z7 s0) ((z7 s0).length:Int) (0:Int)
 else none
end
end Go.Av
