import Derived.Test.YtcfhfjjohmdaoaaDoorFwC
namespace Go.Av
set_option linter.unusedSimpArgs false
set_option linter.unusedVariables false
noncomputable section
def qX (s4:List UInt8):Option AV:=some (da s4)
def qE (k0:List UInt8→Option AV) (next:List UInt8→UInt8→Option AV) (_n:Nat) (s0:List UInt8) (c1:UInt8):Option AV :=
 bif (decide ((0:Int) < (s0.length:Int))) then
 bif ((decide (0≤(0:Int)))&&(decide ((0:Int) < s0.length))) then
 bif ((s0.getD (0:Int).toNat (0:UInt8))==c1) then
 bif (((decide (0≤(1:Int)))&&(decide ((1:Int)≤(s0.length:Int))))&&(decide ((s0.length:Int)≤(s0.length:Int)))) then
 next (List.drop (1:Int).toNat (List.take (s0.length:Int).toNat s0)) c1
 else none
 else
 k0 s0
 else none
 else
 k0 s0
def qh (k0:List UInt8→Option AV):Nat→List UInt8→UInt8→Option AV
 | 0=>fun _ _=>none
 | n+1=>qE k0 (qh k0 n) n
def qr (_n:Nat) (s0:List UInt8):Option AV :=
 bif ((s0.length:Int)==(0:Int)) then
 qX ([]:List UInt8)
 else
 qX s0
def qO (n:Nat) (s0:List UInt8) (c1:UInt8):Option AV :=
 qh (qr n) n s0 c1
def qks (as2:List Bool) (ok3:Bool):Option AV:=some (.tup [(.dat (.arr 256 .bool) as2 none),(dg ok3)])
def qes (ret:List Bool→Bool→Option AV) (k0:List Bool→Option AV) (next:List UInt8→List Bool→Int→Option AV) (_n:Nat) (chars0:List UInt8) (as2:List Bool) (i4:Int):Option AV :=
 bif (decide (i4 < (chars0.length:Int))) then
 bif ((decide (0≤i4))&&(decide (i4 < chars0.length))) then
 bif (decide ((128:UInt8)≤(chars0.getD i4.toNat (0:UInt8)))) then
 ret as2 false
 else
 bif ((decide (0≤((UInt8.toNat (chars0.getD i4.toNat (0:UInt8)):Nat):Int)))&&(decide (((UInt8.toNat (chars0.getD i4.toNat (0:UInt8)):Nat):Int) < (256:Nat)))) then
 next chars0 (List.set as2 ((UInt8.toNat (chars0.getD i4.toNat (0:UInt8)):Nat):Int).toNat true) (IntKind.wrap .i64 (i4+1))
 else none
 else none
 else
 k0 as2
def qiy (ret:List Bool→Bool→Option AV) (k0:List Bool→Option AV):Nat→List UInt8→List Bool→Int→Option AV
 | 0=>fun _ _ _=>none
 | n+1=>qes ret k0 (qiy ret k0 n) n
def qgp (_n:Nat) (as2:List Bool):Option AV :=
 qks as2 true
def qvv (n:Nat) (chars0:List UInt8):Option AV :=
 qiy qks (qgp n) n chars0 (List.replicate 256 false) (0:Int)
def qqX (s4:Bool):Option AV:=some (dg s4)
def qqY (_n:Nat) (as0:List Bool) (c1:UInt8):Option AV :=
 bif ((decide (0≤((UInt8.toNat c1:Nat):Int)))&&(decide (((UInt8.toNat c1:Nat):Int) < (256:Nat)))) then
 qqX (as0.getD ((UInt8.toNat c1:Nat):Int).toNat false)
 else none
def qqZ (s4:List UInt8):Option AV:=some (da s4)
def qiz (k0:List UInt8→Option AV) (next:List UInt8→List Bool→Option AV) (_n:Nat) (s0:List UInt8) (as1:List Bool):Option AV :=
 bif (decide ((0:Int) < (s0.length:Int))) then
 bif ((decide (0≤(0:Int)))&&(decide ((0:Int) < s0.length))) then
 bif (!(z108 as1 (s0.getD (0:Int).toNat (0:UInt8)))) then
 k0 s0
 else
 bif (((decide (0≤(1:Int)))&&(decide ((1:Int)≤(s0.length:Int))))&&(decide ((s0.length:Int)≤(s0.length:Int)))) then
 next (List.drop (1:Int).toNat (List.take (s0.length:Int).toNat s0)) as1
 else none
 else none
 else
 k0 s0
def qkt (k0:List UInt8→Option AV):Nat→List UInt8→List Bool→Option AV
 | 0=>fun _ _=>none
 | n+1=>qiz k0 (qkt k0 n) n
def qgq (_n:Nat) (s0:List UInt8):Option AV :=
 bif ((s0.length:Int)==(0:Int)) then
 qqZ ([]:List UInt8)
 else
 qqZ s0
def qtc (n:Nat) (s0:List UInt8) (as1:List Bool):Option AV :=
 qkt (qgq n) n s0 as1
def qdP (s4:List UInt8):Option AV:=some (da s4)
def qvw (_n:Nat) (s0:List UInt8) (cutset1:List UInt8):Option AV :=
 bif ((s0.length:Int)==(0:Int)) then
 qdP ([]:List UInt8)
 else
 bif (cutset1==([]:List UInt8)) then
 qdP s0
 else
 bif ((cutset1.length:Int)==(1:Int)) then
 bif ((decide (0≤(0:Int)))&&(decide ((0:Int) < cutset1.length))) then
 bif (decide ((cutset1.getD (0:Int).toNat (0:UInt8)) < (128:UInt8))) then
 bif ((decide (0≤(0:Int)))&&(decide ((0:Int) < cutset1.length))) then
 bif ((qB s0 (cutset1.getD (0:Int).toNat (0:UInt8)))&&true) then
 qdP (qN s0 (cutset1.getD (0:Int).toNat (0:UInt8)))
 else none
 else none
 else
 bif ((qjB cutset1)&&true) then
 bif ((z92 cutset1).2) then
 bif ((qsa s0 ((z92 cutset1).1))&&true) then
 qdP (z93 s0 ((z92 cutset1).1))
 else none
 else
 bif ((quK s0 cutset1)&&true) then
 qdP (z94 s0 cutset1)
 else none
 else none
 else none
 else
 bif ((qjB cutset1)&&true) then
 bif ((z92 cutset1).2) then
 bif ((qsa s0 ((z92 cutset1).1))&&true) then
 qdP (z93 s0 ((z92 cutset1).1))
 else none
 else
 bif ((quK s0 cutset1)&&true) then
 qdP (z94 s0 cutset1)
 else none
 else none
def qra (s2:Int):Option AV:=some (dc s2)
def qvx (_n:Nat) (line0:List UInt8):Option AV :=
 bif ((qoj line0 ([62]:List UInt8))&&true) then
 qra (IntKind.wrap .i64 ((line0.length:Int) - ((z76 line0 ([62]:List UInt8)).length:Int)))
 else none
def qtG (s4:Bool):Option AV:=some (dg s4)
def qwW (_n:Nat) (a0:List UInt8) (b1:List UInt8):Option AV :=
 qtG (a0==b1)
def qrb (s4:Bool):Option AV:=some (dg s4)
def qvy (_n:Nat) (s0:List UInt8) (prefix1:List UInt8):Option AV :=
 bif (decide ((prefix1.length:Int)≤(s0.length:Int))) then
 bif (((decide (0≤((0:Nat):Int)))&&(decide (((0:Nat):Int)≤(prefix1.length:Int))))&&(decide ((prefix1.length:Int)≤(s0.length:Int)))) then
 qrb (z96 (List.drop ((0:Nat):Int).toNat (List.take (prefix1.length:Int).toNat s0)) prefix1)
 else none
 else
 qrb false
def qrc (s4:List UInt8):Option AV:=some (da s4)
def qvz (_n:Nat) (s0:List UInt8) (prefix1:List UInt8):Option AV :=
 bif (z95 s0 prefix1) then
 bif (((decide (0≤(prefix1.length:Int)))&&(decide ((prefix1.length:Int)≤(s0.length:Int))))&&(decide ((s0.length:Int)≤(s0.length:Int)))) then
 qrc (List.drop (prefix1.length:Int).toNat (List.take (s0.length:Int).toNat s0))
 else none
 else
 qrc s0
def qtH (s2:List UInt8):Option AV:=some (db s2 (some (2,5)))
def qiA (line0:List UInt8):=(z77 (List.drop (z42 line0).toNat (List.take (line0.length:Int).toNat line0)) ([(32:UInt8)]:List UInt8))
def qvA (_n:Nat) (line0:List UInt8):Option AV :=
 bif ((qkh line0)&&true) then bif (((decide (0≤(z42 line0)))&&(decide ((z42 line0)≤(line0.length:Int))))&&(decide ((line0.length:Int)≤(line0.length:Int)))) then bif ((qie (qiA line0))&&true) then qtH (z60 (qiA line0)) else none else none else none
def qrd (s4:Bool):Option AV:=some (dg s4)
def qvB (_n:Nat) (s0:List UInt8) (suffix1:List UInt8):Option AV :=
 bif (decide ((suffix1.length:Int)≤(s0.length:Int))) then
 bif (((decide (0≤(IntKind.wrap .i64 ((s0.length:Int) - (suffix1.length:Int)))))&&(decide ((IntKind.wrap .i64 ((s0.length:Int) - (suffix1.length:Int)))≤(s0.length:Int))))&&(decide ((s0.length:Int)≤(s0.length:Int)))) then
 qrd (z96 (List.drop (IntKind.wrap .i64 ((s0.length:Int) - (suffix1.length:Int))).toNat (List.take (s0.length:Int).toNat s0)) suffix1)
 else none
 else
 qrd false
def qre (s2:Bool):Option AV:=some (dg s2)
def qvC (_n:Nat) (line0:List UInt8):Option AV :=
 bif ((qdi line0)&&true) then
 bif ((qlp (z44 line0) ([(32:UInt8)]:List UInt8))&&true) then
 bif (z78 (z44 line0) ([(32:UInt8)]:List UInt8)) then
 qre ((z44 line0) != ([45,45,32]:List UInt8))
 else
 qre false
 else none
 else none
def qgr (s68:(List (Int×((List UInt8)×Unit)))×(Bool×Unit)):Option AV:=some (.tup [(.tup []),(.pbox (.ppair (.psl 77 (.ppair (.leaf (.int .i64)) (.ppair (.osl 5 .byte) (.leaf .unit)))) (.ppair (.leaf .bool) (.leaf .unit))) s68 none),.bad])
def qdQ (r0:(List (Int×((List UInt8)×Unit)))×(Bool×Unit)) (line1:List UInt8):=(((List.set r0.1 (IntKind.wrap .i64 ((r0.1.length:Int) - (1:Int))).toNat ((r0.1.getD (IntKind.wrap .i64 ((r0.1.length:Int) - (1:Int))).toNat ((0:Int),(([]:List UInt8),()))).1,(((r0.1.getD (IntKind.wrap .i64 ((r0.1.length:Int) - (1:Int))).toNat ((0:Int),(([]:List UInt8),()))).2.1++(z44 line1)),(r0.1.getD (IntKind.wrap .i64 ((r0.1.length:Int) - (1:Int))).toNat ((0:Int),(([]:List UInt8),()))).2.2))),r0.2).1,((z46 line1),((List.set r0.1 (IntKind.wrap .i64 ((r0.1.length:Int) - (1:Int))).toNat ((r0.1.getD (IntKind.wrap .i64 ((r0.1.length:Int) - (1:Int))).toNat ((0:Int),(([]:List UInt8),()))).1,(((r0.1.getD (IntKind.wrap .i64 ((r0.1.length:Int) - (1:Int))).toNat ((0:Int),(([]:List UInt8),()))).2.1++(z44 line1)),(r0.1.getD (IntKind.wrap .i64 ((r0.1.length:Int) - (1:Int))).toNat ((0:Int),(([]:List UInt8),()))).2.2))),r0.2).2.2))
def qaT (r0:(List (Int×((List UInt8)×Unit)))×(Bool×Unit)) (line1:List UInt8):=( bif (decide (List.length (r0.1.getD (IntKind.wrap .i64 ((r0.1.length:Int) - (1:Int))).toNat ((0:Int),(([]:List UInt8),()))).2.1+List.length (z44 line1)≤room)) then bif ((decide (0≤(IntKind.wrap .i64 ((r0.1.length:Int) - (1:Int)))))&&(decide ((IntKind.wrap .i64 ((r0.1.length:Int) - (1:Int))) < r0.1.length))) then bif (((IntKind.wrap .i64 ((r0.1.length:Int) - (1:Int))).toNat==(IntKind.wrap .i64 ((r0.1.length:Int) - (1:Int))).toNat)&&true) then bif ((qgj line1)&&true) then qgr (qdQ r0 line1) else none else none else none else none)
def qcC (r0:(List (Int×((List UInt8)×Unit)))×(Bool×Unit)) (line1:List UInt8):=( bif ((qdi line1)&&true) then bif (decide (List.length (r0.1.getD (IntKind.wrap .i64 ((r0.1.length:Int) - (1:Int))).toNat ((0:Int),(([]:List UInt8),()))).2.1+List.length (z44 line1)≤room)) then bif ((decide (0≤(IntKind.wrap .i64 ((r0.1.length:Int) - (1:Int)))))&&(decide ((IntKind.wrap .i64 ((r0.1.length:Int) - (1:Int))) < r0.1.length))) then bif (((IntKind.wrap .i64 ((r0.1.length:Int) - (1:Int))).toNat==(IntKind.wrap .i64 ((r0.1.length:Int) - (1:Int))).toNat)&&true) then bif ((qgj line1)&&true) then qgr (qdQ r0 line1) else none else none else none else none else none)
def qbQ (r0:(List (Int×((List UInt8)×Unit)))×(Bool×Unit)) (line1:List UInt8):=( bif (decide (List.length r0.1+List.length ([((z42 line1),((z44 line1),()))]:List (Int×((List UInt8)×Unit)))≤room)) then bif ((qgj line1)&&true) then qgr (((r0.1++([((z42 line1),((z44 line1),()))]:List (Int×((List UInt8)×Unit)))),r0.2).1,((z46 line1),((r0.1++([((z42 line1),((z44 line1),()))]:List (Int×((List UInt8)×Unit)))),r0.2).2.2)) else none else none)
def qaU (r0:(List (Int×((List UInt8)×Unit)))×(Bool×Unit)):=((decide (0≤(IntKind.wrap .i64 ((r0.1.length:Int) - (1:Int)))))&&(decide ((IntKind.wrap .i64 ((r0.1.length:Int) - (1:Int))) < r0.1.length)))
def qiB (r0:(List (Int×((List UInt8)×Unit)))×(Bool×Unit)) (line1:List UInt8):=( bif ((qdi line1)&&true) then bif (decide (List.length r0.1+List.length ([((z42 line1),((z44 line1),()))]:List (Int×((List UInt8)×Unit)))≤room)) then bif ((qgj line1)&&true) then qgr (((r0.1++([((z42 line1),((z44 line1),()))]:List (Int×((List UInt8)×Unit)))),r0.2).1,((z46 line1),((r0.1++([((z42 line1),((z44 line1),()))]:List (Int×((List UInt8)×Unit)))),r0.2).2.2)) else none else none else none)
def qbr (r0:(List (Int×((List UInt8)×Unit)))×(Bool×Unit)):=(IntKind.wrap .i64 ((r0.1.length:Int) - (1:Int))).toNat
def qvD (_n:Nat) (r0:(List (Int×((List UInt8)×Unit)))×(Bool×Unit)) (line1:List UInt8):Option AV :=
 bif ((qkh line1)&&true) then bif r0.2.1 then bif (qaU r0) then bif ((r0.1.getD (qbr r0) ((0:Int),(([]:List UInt8),()))).1==(z42 line1)) then both ( both ( bif (qaU r0) then both (qcC r0 line1) (qcC r0 line1) else none) ( bif ((qdi line1)&&true) then bif (qaU r0) then bif (decide (List.length (r0.1.getD (qbr r0) ((0:Int),(([]:List UInt8),()))).2.1+List.length (z44 line1)≤room)) then bif (qaU r0) then bif (((qbr r0)==(qbr r0))&&true) then bif ((qgj line1)&&true) then qgr (qdQ r0 line1) else none else none else none else none else none else none)) ( both ( bif (qaU r0) then both ( both (qcC r0 line1) (qcC r0 line1)) ( both ( both (qcC r0 line1) ( bif ((qdi line1)&&true) then both (qaT r0 line1) (qaT r0 line1) else none)) ( bif ((qdi line1)&&true) then both (qaT r0 line1) ( both (qaT r0 line1) (qaT r0 line1)) else none)) else none) ( bif ((qdi line1)&&true) then both ( bif (qaU r0) then bif (decide (List.length (r0.1.getD (qbr r0) ((0:Int),(([]:List UInt8),()))).2.1+List.length (z44 line1)≤room)) then bif (qaU r0) then bif (((qbr r0)==(qbr r0))&&true) then bif ((qgj line1)&&true) then qgr (qdQ r0 line1) else none else none else none else none else none) ( bif (qaU r0) then both (qaT r0 line1) ( both (qaT r0 line1) (qaT r0 line1)) else none) else none)) else both (qiB r0 line1) ( bif ((qdi line1)&&true) then both (qbQ r0 line1) ( both (qbQ r0 line1) (qbQ r0 line1)) else none) else none else both (qiB r0 line1) ( bif ((qdi line1)&&true) then both (qbQ r0 line1) ( both (qbQ r0 line1) (qbQ r0 line1)) else none) else none
def qtI (s4:Int):Option AV:=some (dc s4)
def qwX (_n:Nat) (b0:List UInt8) (c1:UInt8):Option AV :=
 qtI (z120 b0 c1)
def qrf (before4:List UInt8) (after5:List UInt8) (found6:Bool):Option AV:=some (.tup [(da before4),(da after5),(dg found6)])
def qvE (_n:Nat) (s0:List UInt8) (sep1:List UInt8):Option AV :=
 bif ((qjC s0 sep1)&&true) then
 bif (decide (0≤(z81 s0 sep1))) then
 bif (((decide (0≤((0:Nat):Int)))&&(decide (((0:Nat):Int)≤(z81 s0 sep1))))&&(decide ((z81 s0 sep1)≤(s0.length:Int)))) then
 bif (((decide (0≤(IntKind.wrap .i64 ((z81 s0 sep1)+(sep1.length:Int)))))&&(decide ((IntKind.wrap .i64 ((z81 s0 sep1)+(sep1.length:Int)))≤(s0.length:Int))))&&(decide ((s0.length:Int)≤(s0.length:Int)))) then
 qrf (List.drop ((0:Nat):Int).toNat (List.take (z81 s0 sep1).toNat s0)) (List.drop (IntKind.wrap .i64 ((z81 s0 sep1)+(sep1.length:Int))).toNat (List.take (s0.length:Int).toNat s0)) true
 else none
 else none
 else
 qrf s0 ([]:List UInt8) false
 else none
def qtJ (s2:List (List UInt8)):Option AV:=some (.dat (.sl (.sl .byte)) s2 (some (2,22)))
def qaY:=([(13:UInt8),(10:UInt8)]:List UInt8)
def qiC (k0:List (List UInt8)→Option AV) (next:List UInt8→List (List UInt8)→Option AV) (_n:Nat) (s0:List UInt8) (out3:List (List UInt8)):Option AV :=
 bif (decide ((0:Int) < (s0.length:Int))) then bif ((qnH s0 (qaY))&&true) then bif ((qie ((z51 s0 (qaY)).1))&&true) then bif (decide (out3.length+List.length ([(z60 ((z51 s0 (qaY)).1))]:List (List UInt8))≤room)) then next ((z51 s0 (qaY)).2.1) (out3++([(z60 ((z51 s0 (qaY)).1))]:List (List UInt8))) else none else none else none else k0 out3
def qiD (k0:List (List UInt8)→Option AV):Nat→List UInt8→List (List UInt8)→Option AV
 | 0=>fun _ _=>none
 | n+1=>qiC k0 (qiD k0 n) n
def qiE (_n:Nat) (out3:List (List UInt8)):Option AV :=
 qtJ out3
def qtd (n:Nat) (s0:List UInt8):Option AV :=
 qiD (qiE n) n s0 ([]:List (List UInt8))
def qtK (s2:List (Int×((List UInt8)×Unit))):Option AV:=some (.dat (.sl (.pair (.int .i64) (.pair (.sl .byte) .unit))) s2 none)
def qet (k0:(List (Int×((List UInt8)×Unit)))×(Bool×Unit)→Option AV) (next:(List (Int×((List UInt8)×Unit)))×(Bool×Unit)→List (List UInt8)→Int→Int→Option AV) (_n:Nat) (r3:(List (Int×((List UInt8)×Unit)))×(Bool×Unit)) (s12:List (List UInt8)) (s13:Int) (s14:Int):Option AV :=
 bif (decide (s14 < s13)) then
 bif ((decide (0≤s14))&&(decide (s14 < s12.length))) then
 bif (qok r3 (s12.getD s14.toNat ([]:List UInt8))) then
 next (z69 r3 (s12.getD s14.toNat ([]:List UInt8))) s12 s13 (IntKind.wrap .i64 (s14+1))
 else none
 else none
 else
 k0 r3
def qgs (k0:(List (Int×((List UInt8)×Unit)))×(Bool×Unit)→Option AV):Nat→(List (Int×((List UInt8)×Unit)))×(Bool×Unit)→List (List UInt8)→Int→Int→Option AV
 | 0=>fun _ _ _ _=>none
 | n+1=>qet k0 (qgs k0 n) n
def qgt (_n:Nat) (r3:(List (Int×((List UInt8)×Unit)))×(Bool×Unit)):Option AV :=
 qtK r3.1
def qte (n:Nat) (s0:List UInt8):Option AV :=
 bif ((qsW s0)&&true) then
 qgs (qgt n) n (([]:List (Int×((List UInt8)×Unit))),(false,())) (z70 s0) ((z70 s0).length:Int) (0:Int)
 else none
def qrg (s2:Bool):Option AV:=some (dg s2)
def qtL (_n:Nat) (bufLen0:Int):Option AV :=
 qrg (decide ((8:Int) < bufLen0))
def qae (s4:Int):Option AV:=some (dc s4)
def qeu (m0:Int) (ret:Int→Option AV) (k0:Option AV) (next:List UInt8→Nat→Option AV) (_n:Nat) (s28:List UInt8) (s28p:Nat):Option AV :=
 bif (decide (s28p < s28.length)) then
 bif (decide (s28p < s28.length)) then
 bif ((decL s28 s28p).1==(65533:Int)) then
 ret (0:Int)
 else
 next s28 (bif (decide (s28p < s28.length)) then s28p+(decL s28 s28p).2 else s28p)
 else none
 else
 k0
def qiF (m0:Int) (ret:Int→Option AV) (k0:Option AV):Nat→List UInt8→Nat→Option AV
 | 0=>fun _ _=>none
 | n+1=>(qeu m0) ret k0 ((qiF m0) ret k0 n) n
def qiG (m0:Int) (_n:Nat):Option AV :=
 qae (-1:Int)
def qcD (m0:Int) (ret:Int→Option AV) (k2:Option AV) (next:List Bool→List UInt8→Int→Int→Option AV) (_n:Nat) (as7:List Bool) (s60:List UInt8) (s61:Int) (s62:Int):Option AV :=
 bif (decide (s62 < s61)) then
 bif ((decide (0≤s62))&&(decide (s62 < s60.length))) then
 bif (z108 as7 (s60.getD s62.toNat (0:UInt8))) then
 ret s62
 else
 next as7 s60 s61 (IntKind.wrap .i64 (s62+1))
 else none
 else
 k2
def qdR (m0:Int) (ret:Int→Option AV) (k2:Option AV):Nat→List Bool→List UInt8→Int→Int→Option AV
 | 0=>fun _ _ _ _=>none
 | n+1=>(qcD m0) ret k2 ((qdR m0) ret k2 n) n
def qdS (m0:Int) (_n:Nat):Option AV :=
 qae (-1:Int)
def qcE (m0:Int) (ret:Int→Option AV) (k6:List UInt8→List UInt8→Int→Int→Option AV) (next:List UInt8→List UInt8→Int→Int→Int→List UInt8→Nat→Option AV) (_n:Nat) (s0:List UInt8) (chars1:List UInt8) (width11:Int) (i12:Int) (r13:Int) (s121:List UInt8) (s121p:Nat):Option AV :=
 bif (decide (s121p < s121.length)) then
 bif (decide (s121p < s121.length)) then
 bif (r13==(decL s121 s121p).1) then
 ret i12
 else
 next s0 chars1 width11 i12 r13 s121 (bif (decide (s121p < s121.length)) then s121p+(decL s121 s121p).2 else s121p)
 else none
 else
 k6 s0 chars1 width11 i12
def qcn (m0:Int) (ret:Int→Option AV) (k6:List UInt8→List UInt8→Int→Int→Option AV):Nat→List UInt8→List UInt8→Int→Int→Int→List UInt8→Nat→Option AV
 | 0=>fun _ _ _ _ _ _ _=>none
 | n+1=>(qcE m0) ret k6 ((qcn m0) ret k6 n) n
def qcF (m0:Int) (_ret:Int→Option AV) (_k4:Option AV) (next:List UInt8→List UInt8→Int→Option AV) (_n:Nat) (s0:List UInt8) (chars1:List UInt8) (width11:Int) (i12:Int):Option AV :=
 next s0 chars1 (IntKind.wrap .i64 (i12+width11))
def qt (s0:List UInt8) (i12:Int):=(z109 (List.drop i12.toNat (List.take (s0.length:Int).toNat s0)))
def qdT (m0:Int) (ret:Int→Option AV) (k4:Option AV) (next:List UInt8→List UInt8→Int→Option AV) (n:Nat) (s0:List UInt8) (chars1:List UInt8) (i12:Int):Option AV :=
 bif (decide (i12 < (s0.length:Int))) then bif ((decide (0≤i12))&&(decide (i12 < s0.length))) then bif (decide ((IntKind.wrap .i32 ((UInt8.toNat (s0.getD i12.toNat (0:UInt8)):Nat):Int)) < (128:Int))) then bif ((decide (0≤i12))&&(decide (i12 < s0.length))) then bif (decide (0≤(z105 chars1 (s0.getD i12.toNat (0:UInt8))))) then ret i12 else next s0 chars1 (IntKind.wrap .i64 (i12+1)) else none else bif (((decide (0≤i12))&&(decide (i12≤(s0.length:Int))))&&(decide ((s0.length:Int)≤(s0.length:Int)))) then bif ((qjA (List.drop i12.toNat (List.take (s0.length:Int).toNat s0)))&&true) then bif (((qt s0 i12).1) != (65533:Int)) then bif ((chars1.length:Int)==((qt s0 i12).2)) then bif (chars1==(Utf8.encode ((qt s0 i12).1)).data.toList) then ret i12 else next s0 chars1 (IntKind.wrap .i64 (i12+((qt s0 i12).2))) else bif (decide (((qt s0 i12).2)≤m0)) then bif ((qjz m0 chars1 (Utf8.encode ((qt s0 i12).1)).data.toList)&&true) then bif (decide (0≤(z110 chars1 (Utf8.encode ((qt s0 i12).1)).data.toList))) then ret i12 else next s0 chars1 (IntKind.wrap .i64 (i12+((qt s0 i12).2))) else none else (qcn m0) ret ((qcF m0) ret k4 next n) n s0 chars1 ((qt s0 i12).2) i12 ((qt s0 i12).1) chars1 0 else (qcn m0) ret ((qcF m0) ret k4 next n) n s0 chars1 ((qt s0 i12).2) i12 ((qt s0 i12).1) chars1 0 else none else none else none else k4
def qco (m0:Int) (ret:Int→Option AV) (k4:Option AV):Nat→List UInt8→List UInt8→Int→Option AV
 | 0=>fun _ _ _=>none
 | n+1=>(qdT m0) ret k4 ((qco m0) ret k4 n) n
def qcG (m0:Int) (_n:Nat):Option AV :=
 qae (-1:Int)
def qdU (chars1:List UInt8):=(IntKind.wrap .i32 ((UInt8.toNat (chars1.getD (0:Int).toNat (0:UInt8)):Nat):Int))
def qtf (m0:Int) (n:Nat) (s0:List UInt8) (chars1:List UInt8):Option AV :=
 bif (chars1==([]:List UInt8)) then qae (-1:Int) else bif ((s0.length:Int)==(1:Int)) then bif ((decide (0≤(0:Int)))&&(decide ((0:Int) < s0.length))) then bif (decide ((128:Int)≤(IntKind.wrap .i32 ((UInt8.toNat (s0.getD (0:Int).toNat (0:UInt8)):Nat):Int)))) then (qiF m0) qae ((qiG m0) n) n chars1 0 else bif ((decide (0≤(0:Int)))&&(decide ((0:Int) < s0.length))) then bif (decide (0≤(z105 chars1 (s0.getD (0:Int).toNat (0:UInt8))))) then qae (0:Int) else qae (-1:Int) else none else none else bif ((chars1.length:Int)==(1:Int)) then bif ((decide (0≤(0:Int)))&&(decide ((0:Int) < chars1.length))) then bif (decide ((128:Int)≤(qdU chars1))) then bif ((qpN s0 (65533:Int))&&true) then qae (z106 s0 (65533:Int)) else none else bif ((qpN s0 (qdU chars1))&&true) then qae (z106 s0 (qdU chars1)) else none else none else bif (z107 (s0.length:Int)) then bif ((qjB chars1)&&true) then bif ((z92 chars1).2) then (qdR m0) qae ((qdS m0) n) n ((z92 chars1).1) s0 (s0.length:Int) (0:Int) else (qco m0) qae ((qcG m0) n) n s0 chars1 (0:Int) else none else (qco m0) qae ((qcG m0) n) n s0 chars1 (0:Int)
def qtM (s4:Bool):Option AV:=some (dg s4)
def qvF (_n:Nat) (b0:List UInt8) (chars1:List UInt8):Option AV :=
 bif ((qle b0 chars1)&&true) then
 qtM (decide (0≤(z83 b0 chars1)))
 else none
def qtN (s4:Bool):Option AV:=some (dg s4)
def qvG (_n:Nat) (b0:List UInt8) (subslice1:List UInt8):Option AV :=
 bif ((qjC b0 subslice1)&&true) then
 qtN ((z81 b0 subslice1) != (-1:Int))
 else none
def qht (s2:Bool):Option AV:=some (dg s2)
def qvH (_n:Nat) (p0:Int×((List UInt8)×Unit)):Option AV :=
 bif (decide (p0.1 < (0:Int))) then
 qht false
 else
 bif (decide ((9:Int) < p0.1)) then
 qht false
 else
 bif ((qpO p0.2.1 ([13,10]:List UInt8))&&true) then
 bif (z53 p0.2.1 ([13,10]:List UInt8)) then
 qht false
 else
 bif ((qlp p0.2.1 ([(32:UInt8)]:List UInt8))&&true) then
 bif (z78 p0.2.1 ([(32:UInt8)]:List UInt8)) then
 qht false
 else
 bif ((qpP p0.2.1 ([(45:UInt8),(45:UInt8),(32:UInt8)]:List UInt8))&&true) then
 qht (!(z88 p0.2.1 ([(45:UInt8),(45:UInt8),(32:UInt8)]:List UInt8)))
 else none
 else none
 else none
def qeW (s2:Bool):Option AV:=some (dg s2)
def qvI (_n:Nat) (text0:List UInt8):Option AV :=
 bif (z95 text0 ([(70:UInt8),(114:UInt8),(111:UInt8),(109:UInt8),(32:UInt8)]:List UInt8)) then
 qeW true
 else
 bif (decide ((0:Int) < (text0.length:Int))) then
 bif ((decide (0≤(0:Int)))&&(decide ((0:Int) < text0.length))) then
 bif ((text0.getD (0:Int).toNat (0:UInt8))==(32:UInt8)) then
 qeW true
 else
 bif ((decide (0≤(0:Int)))&&(decide ((0:Int) < text0.length))) then
 qeW ((text0.getD (0:Int).toNat (0:UInt8))==(62:UInt8))
 else none
 else none
 else
 qeW false
def qtO (s6:Int):Option AV:=some (dc s6)
def qbF (t1:List UInt8) (n8:Int):=(IntKind.wrap .i64 ((z99 (List.drop n8.toNat (List.take (t1.length:Int).toNat t1)) (32:UInt8))+1))
def qev (t1:List UInt8) (n8:Int):=(((decide (0≤n8))&&(decide (n8≤(t1.length:Int))))&&(decide ((t1.length:Int)≤(t1.length:Int))))
def qiH (k0:Int→Option AV) (next:Int→List UInt8→Int→Int→Int→Option AV) (_n:Nat) (depth0:Int) (t1:List UInt8) (width2:Int) (at7:Int) (n8:Int):Option AV :=
 bif (decide ((0:Int) < n8)) then bif (decide (n8 < (t1.length:Int))) then bif (((decide (0≤((0:Nat):Int)))&&(decide (((0:Nat):Int)≤n8)))&&(decide (n8≤(t1.length:Int)))) then bif ((qdj depth0 (List.drop ((0:Nat):Int).toNat (List.take n8.toNat t1)))&&true) then bif (decide (((z48 depth0 (List.drop ((0:Nat):Int).toNat (List.take n8.toNat t1))).length:Int)≤width2)) then bif (qev t1 n8) then bif ((qbF t1 n8)==(0:Int)) then k0 n8 else next depth0 t1 width2 n8 (IntKind.wrap .i64 (n8+(qbF t1 n8))) else none else bif (qev t1 n8) then bif ((qbF t1 n8)==(0:Int)) then k0 at7 else next depth0 t1 width2 at7 (IntKind.wrap .i64 (n8+(qbF t1 n8))) else none else none else none else k0 at7 else k0 at7
def qiI (k0:Int→Option AV):Nat→Int→List UInt8→Int→Int→Int→Option AV
 | 0=>fun _ _ _ _ _=>none
 | n+1=>qiH k0 (qiI k0 n) n
def qiJ (_n:Nat) (at7:Int):Option AV :=
 qtO at7
def qtg (n:Nat) (depth0:Int) (t1:List UInt8) (width2:Int):Option AV :=
 qiI (qiJ n) n depth0 t1 width2 (IntKind.wrap .i64 ((z99 t1 (32:UInt8))+1)) (IntKind.wrap .i64 ((z99 t1 (32:UInt8))+1))
def qna (s6:List UInt8):Option AV:=some (db s6 (some (6,5)))
def qbG (width2:Int) (p4:Int×((List UInt8)×Unit)) (t7:List UInt8):=(List.drop ((0:Nat):Int).toNat (List.take (z90 p4.1 t7 width2).toNat t7))
def qiK (k0:List UInt8→Int×((List UInt8)×Unit)→List UInt8→Option AV) (next:List UInt8→Int→Int×((List UInt8)×Unit)→List UInt8→Option AV) (_n:Nat) (out0:List UInt8) (width2:Int) (p4:Int×((List UInt8)×Unit)) (t7:List UInt8):Option AV :=
 bif ((qdj p4.1 t7)&&true) then bif (decide (width2 < ((z48 p4.1 t7).length:Int))) then bif ((qol p4.1 t7 width2)&&true) then bif ((z90 p4.1 t7 width2)==(0:Int)) then k0 out0 p4 t7 else bif (((decide (0≤((0:Nat):Int)))&&(decide (((0:Nat):Int)≤(z90 p4.1 t7 width2))))&&(decide ((z90 p4.1 t7 width2)≤(t7.length:Int)))) then bif ((qdj p4.1 (qbG width2 p4 t7))&&true) then bif (decide (out0.length+List.length (z48 p4.1 (qbG width2 p4 t7))≤room)) then bif (decide (List.length (out0++(z48 p4.1 (qbG width2 p4 t7)))+List.length ([13,10]:List UInt8)≤room)) then bif (((decide (0≤(z90 p4.1 t7 width2)))&&(decide ((z90 p4.1 t7 width2)≤(t7.length:Int))))&&(decide ((t7.length:Int)≤(t7.length:Int)))) then next ((out0++(z48 p4.1 (qbG width2 p4 t7)))++([13,10]:List UInt8)) width2 p4 (List.drop (z90 p4.1 t7 width2).toNat (List.take (t7.length:Int).toNat t7)) else none else none else none else none else none else none else k0 out0 p4 t7 else none
def qiL (k0:List UInt8→Int×((List UInt8)×Unit)→List UInt8→Option AV):Nat→List UInt8→Int→Int×((List UInt8)×Unit)→List UInt8→Option AV
 | 0=>fun _ _ _ _=>none
 | n+1=>qiK k0 (qiL k0 n) n
def qbw (_n:Nat) (out0:List UInt8) (p4:Int×((List UInt8)×Unit)) (t7:List UInt8):Option AV :=
 bif ((qdj p4.1 t7)&&true) then
 bif (decide (out0.length+List.length (z48 p4.1 t7)≤room)) then
 bif (decide (List.length (out0++(z48 p4.1 t7))+List.length ([13,10]:List UInt8)≤room)) then
 qna ((out0++(z48 p4.1 t7))++([13,10]:List UInt8))
 else none
 else none
 else none
def qth (n:Nat) (out0:List UInt8) (p1:Int×((List UInt8)×Unit)) (width2:Int):Option AV :=
 qiL (qbw n) n out0 width2 p1 p1.2.1
def qgu (s4:List UInt8) (s5:Int):Option AV:=some (.tup [(da s4),(dc s5)])
def qew (ret:List UInt8→Int→Option AV) (k0:List (Int×((List UInt8)×Unit))→Int→Option AV) (next:List (Int×((List UInt8)×Unit))→Int→List (Int×((List UInt8)×Unit))→Int→Int→Option AV) (_n:Nat) (l0:List (Int×((List UInt8)×Unit))) (width1:Int) (s17:List (Int×((List UInt8)×Unit))) (s18:Int) (s19:Int):Option AV :=
 bif (decide (s19 < s18)) then
 bif ((decide (0≤s19))&&(decide (s19 < s17.length))) then
 bif ((qqI (s17.getD s19.toNat ((0:Int),(([]:List UInt8),()))))&&true) then
 bif (!(z72 (s17.getD s19.toNat ((0:Int),(([]:List UInt8),()))))) then
 ret ([]:List UInt8) (3:Int)
 else
 next l0 width1 s17 s18 (IntKind.wrap .i64 (s19+1))
 else none
 else none
 else
 k0 l0 width1
def qgv (ret:List UInt8→Int→Option AV) (k0:List (Int×((List UInt8)×Unit))→Int→Option AV):Nat→List (Int×((List UInt8)×Unit))→Int→List (Int×((List UInt8)×Unit))→Int→Int→Option AV
 | 0=>fun _ _ _ _ _=>none
 | n+1=>qew ret k0 (qgv ret k0 n) n
def qcH (k2:List UInt8→Option AV) (next:Int→List UInt8→List (Int×((List UInt8)×Unit))→Int→Int→Option AV) (_n:Nat) (width1:Int) (out8:List UInt8) (s27:List (Int×((List UInt8)×Unit))) (s28:Int) (s29:Int):Option AV :=
 bif (decide (s29 < s28)) then
 bif ((decide (0≤s29))&&(decide (s29 < s27.length))) then
 bif (qon out8 (s27.getD s29.toNat ((0:Int),(([]:List UInt8),()))) width1) then
 next width1 (z73 out8 (s27.getD s29.toNat ((0:Int),(([]:List UInt8),()))) width1) s27 s28 (IntKind.wrap .i64 (s29+1))
 else none
 else none
 else
 k2 out8
def qcp (k2:List UInt8→Option AV):Nat→Int→List UInt8→List (Int×((List UInt8)×Unit))→Int→Int→Option AV
 | 0=>fun _ _ _ _ _=>none
 | n+1=>qcH k2 (qcp k2 n) n
def qdV (_n:Nat) (out8:List UInt8):Option AV :=
 qgu out8 (0:Int)
def qex (n:Nat) (l0:List (Int×((List UInt8)×Unit))) (width1:Int):Option AV :=
 qcp (qdV n) n width1 ([]:List UInt8) l0 (l0.length:Int) (0:Int)
def qti (n:Nat) (l0:List (Int×((List UInt8)×Unit))) (width1:Int):Option AV :=
 bif (decide (width1 < (10:Int))) then
 qgu ([]:List UInt8) (1:Int)
 else
 bif (decide ((1000:Int) < width1)) then
 qgu ([]:List UInt8) (1:Int)
 else
 qgv qgu (qex n) n l0 width1 l0 (l0.length:Int) (0:Int)
def qku (s0:Bool):Option AV:=some (dg s0)
def qiM:=([((1:Int),(([(97:UInt8),(97:UInt8),(97:UInt8),(97:UInt8),(97:UInt8),(32:UInt8),(98:UInt8),(98:UInt8),(98:UInt8),(98:UInt8),(98:UInt8)]:List UInt8),()))]:List (Int×((List UInt8)×Unit)))
def qfy:=([(97:UInt8),(32:UInt8),(13:UInt8),(10:UInt8),(98:UInt8)]:List UInt8)
def qwY (_n:Nat):Option AV :=
 bif ((qlq (qfy))&&true) then bif ((qlr (qiM) (10:Int))&&true) then bif (((z36 (qfy)).length:Int)==(1:Int)) then bif ((decide (0≤(0:Int)))&&(decide ((0:Int) < (z36 (qfy)).length))) then bif (((z36 (qfy)).getD (0:Int).toNat ((0:Int),(([]:List UInt8),()))).2.1==([97,32,98]:List UInt8)) then bif (((z39 (qiM) (10:Int)).1)==([62,32,97,97,97,97,97,32,13,10,62,32,98,98,98,98,98,13,10]:List UInt8)) then qku (((z39 (qiM) (10:Int)).2)==(0:Int)) else qku false else qku false else none else qku false else none else none
def qhu (s4:Bool):Option AV:=some (dg s4)
def qey (ret:Bool→Option AV) (k0:Option AV) (next:List UInt8→List UInt8→Int→Option AV) (_n:Nat) (a0:List UInt8) (b1:List UInt8) (i5:Int):Option AV :=
 bif (decide (i5 < (a0.length:Int))) then
 bif ((decide (0≤i5))&&(decide (i5 < a0.length))) then
 bif ((decide (0≤i5))&&(decide (i5 < b1.length))) then
 bif ((a0.getD i5.toNat (0:UInt8)) != (b1.getD i5.toNat (0:UInt8))) then
 ret false
 else
 next a0 b1 (IntKind.wrap .i64 (i5+1))
 else none
 else none
 else
 k0
def qiN (ret:Bool→Option AV) (k0:Option AV):Nat→List UInt8→List UInt8→Int→Option AV
 | 0=>fun _ _ _=>none
 | n+1=>qey ret k0 (qiN ret k0 n) n
def qiO (_n:Nat):Option AV :=
 qhu true
def qtj (n:Nat) (a0:List UInt8) (b1:List UInt8):Option AV :=
 bif ((a0.length:Int) != (b1.length:Int)) then
 qhu false
 else
 qiN qhu (qiO n) n a0 b1 (0:Int)
def qrh (s4:Bool):Option AV:=some (dg s4)
def qvJ (_n:Nat) (a0:Int×((List UInt8)×Unit)) (b1:Int×((List UInt8)×Unit)):Option AV :=
 bif (a0.1==b1.1) then
 bif ((qha a0.2.1 b1.2.1)&&true) then
 qrh (z15 a0.2.1 b1.2.1)
 else none
 else
 qrh false
def qhv (s4:Bool):Option AV:=some (dg s4)
def qez (ret:Bool→Option AV) (k0:Option AV) (next:List (Int×((List UInt8)×Unit))→List (Int×((List UInt8)×Unit))→Int→Int→Option AV) (_n:Nat) (a0:List (Int×((List UInt8)×Unit))) (b1:List (Int×((List UInt8)×Unit))) (s12:Int) (s13:Int):Option AV :=
 bif (decide (s13 < s12)) then
 bif ((decide (0≤s13))&&(decide (s13 < a0.length))) then
 bif ((decide (0≤s13))&&(decide (s13 < b1.length))) then
 bif ((qqK (a0.getD s13.toNat ((0:Int),(([]:List UInt8),()))) (b1.getD s13.toNat ((0:Int),(([]:List UInt8),()))))&&true) then
 bif (!(z68 (a0.getD s13.toNat ((0:Int),(([]:List UInt8),()))) (b1.getD s13.toNat ((0:Int),(([]:List UInt8),()))))) then
 ret false
 else
 next a0 b1 s12 (IntKind.wrap .i64 (s13+1))
 else none
 else none
 else none
 else
 k0
def qgw (ret:Bool→Option AV) (k0:Option AV):Nat→List (Int×((List UInt8)×Unit))→List (Int×((List UInt8)×Unit))→Int→Int→Option AV
 | 0=>fun _ _ _ _=>none
 | n+1=>qez ret k0 (qgw ret k0 n) n
def qgx (_n:Nat):Option AV :=
 qhv true
def qtk (n:Nat) (a0:List (Int×((List UInt8)×Unit))) (b1:List (Int×((List UInt8)×Unit))):Option AV :=
 bif ((a0.length:Int) != (b1.length:Int)) then
 qhv false
 else
 qgw qhv (qgx n) n a0 b1 (a0.length:Int) (0:Int)
def qtP (s2:Int):Option AV:=some (dc s2)
def qeA (k0:Int→Option AV) (next:List UInt8→Int→Option AV) (_n:Nat) (l0:List UInt8) (n3:Int):Option AV :=
 bif (decide (n3 < (l0.length:Int))) then
 bif ((decide (0≤n3))&&(decide (n3 < l0.length))) then
 bif ((l0.getD n3.toNat (0:UInt8))==(62:UInt8)) then
 next l0 (IntKind.wrap .i64 (n3+1))
 else
 k0 n3
 else none
 else
 k0 n3
def qgy (k0:Int→Option AV):Nat→List UInt8→Int→Option AV
 | 0=>fun _ _=>none
 | n+1=>qeA k0 (qgy k0 n) n
def qgz (_n:Nat) (n3:Int):Option AV :=
 qtP n3
def qtl (n:Nat) (l0:List UInt8):Option AV :=
 qgy (qgz n) n l0 (0:Int)
def qgA (s2:List UInt8):Option AV:=some (da s2)
def qbR (l0:List UInt8):=(List.drop (z43 l0).toNat (List.take (l0.length:Int).toNat l0))
def qcI (l0:List UInt8):=((qbR l0).length:Int)
def qvK (_n:Nat) (l0:List UInt8):Option AV :=
 bif ((qki l0)&&true) then bif (((decide (0≤(z43 l0)))&&(decide ((z43 l0)≤(l0.length:Int))))&&(decide ((l0.length:Int)≤(l0.length:Int)))) then bif (decide ((0:Int) < (qcI l0))) then bif ((decide (0≤(0:Int)))&&(decide ((0:Int) < (qbR l0).length))) then bif (((qbR l0).getD (0:Int).toNat (0:UInt8))==(32:UInt8)) then bif (((decide (0≤(1:Int)))&&(decide ((1:Int)≤(qcI l0))))&&(decide ((qcI l0)≤(qcI l0)))) then qgA (List.drop (1:Int).toNat (List.take (qcI l0).toNat (qbR l0))) else none else qgA (qbR l0) else none else qgA (qbR l0) else none else none
def qkv (s2:Bool):Option AV:=some (dg s2)
def qfz (l0:List UInt8):=(IntKind.wrap .i64 (((z45 l0).length:Int) - (1:Int)))
def qvL (_n:Nat) (l0:List UInt8):Option AV :=
 bif ((qhb l0)&&true) then bif (decide ((0:Int) < ((z45 l0).length:Int))) then bif ((decide (0≤(qfz l0)))&&(decide ((qfz l0) < (z45 l0).length))) then bif (((z45 l0).getD (qfz l0).toNat (0:UInt8))==(32:UInt8)) then qkv ((z45 l0) != ([45,45,32]:List UInt8)) else qkv false else none else qkv false else none
def qri (s2:List (List UInt8)) (s3:Bool):Option AV:=some (.tup [(.dat (.sl (.sl .byte)) s2 none),(dg s3)])
def qaq (out4:List (List UInt8)):=(IntKind.wrap .i64 ((out4.length:Int) - (1:Int)))
def qaH (out4:List (List UInt8)):=((decide (0≤(qaq out4)))&&(decide ((qaq out4) < out4.length)))
def qcJ (s0:List UInt8) (out4:List (List UInt8)) (i5:Int):=(List.set out4 (qaq out4).toNat ((out4.getD (qaq out4).toNat ([]:List UInt8))++([(s0.getD i5.toNat (0:UInt8))]:List UInt8)))
def qcK (s0:List UInt8) (out4:List (List UInt8)) (i5:Int):=(decide (List.length (out4.getD (qaq out4).toNat ([]:List UInt8))+List.length ([(s0.getD i5.toNat (0:UInt8))]:List UInt8)≤room))
def qbH (s0:List UInt8) (i5:Int):=((decide (0≤i5))&&(decide (i5 < s0.length)))
def qcL (out4:List (List UInt8)):=(((qaq out4).toNat==(qaq out4).toNat)&&true)
def qiP (k0:List (List UInt8)→Option AV) (next:List UInt8→List (List UInt8)→Int→Option AV) (_n:Nat) (s0:List UInt8) (out4:List (List UInt8)) (i5:Int):Option AV :=
 bif (decide (i5 < (s0.length:Int))) then bif (qbH s0 i5) then bif ((s0.getD i5.toNat (0:UInt8))==(13:UInt8)) then bif (decide ((IntKind.wrap .i64 (i5+1)) < (s0.length:Int))) then bif ((decide (0≤(IntKind.wrap .i64 (i5+1))))&&(decide ((IntKind.wrap .i64 (i5+1)) < s0.length))) then bif ((s0.getD (IntKind.wrap .i64 (i5+1)).toNat (0:UInt8))==(10:UInt8)) then bif (decide (out4.length+List.length ([([]:List UInt8)]:List (List UInt8))≤room)) then next s0 (out4++([([]:List UInt8)]:List (List UInt8))) (IntKind.wrap .i64 ((IntKind.wrap .i64 (i5+1))+1)) else none else bif (qaH out4) then bif (qbH s0 i5) then bif (qcK s0 out4 i5) then bif (qaH out4) then bif (qcL out4) then next s0 (qcJ s0 out4 i5) (IntKind.wrap .i64 (i5+1)) else none else none else none else none else none else none else bif (qaH out4) then bif (qbH s0 i5) then bif (qcK s0 out4 i5) then bif (qaH out4) then bif (qcL out4) then next s0 (qcJ s0 out4 i5) (IntKind.wrap .i64 (i5+1)) else none else none else none else none else none else bif (qaH out4) then bif (qbH s0 i5) then bif (qcK s0 out4 i5) then bif (qaH out4) then bif (qcL out4) then next s0 (qcJ s0 out4 i5) (IntKind.wrap .i64 (i5+1)) else none else none else none else none else none else none else k0 out4
def qiQ (k0:List (List UInt8)→Option AV):Nat→List UInt8→List (List UInt8)→Int→Option AV
 | 0=>fun _ _ _=>none
 | n+1=>qiP k0 (qiQ k0 n) n
def qaI (out4:List (List UInt8)):=(IntKind.wrap .i64 ((out4.length:Int) - (1:Int)))
def qeB (_n:Nat) (out4:List (List UInt8)):Option AV :=
 bif ((decide (0≤(qaI out4)))&&(decide ((qaI out4) < out4.length))) then bif (((out4.getD (qaI out4).toNat ([]:List UInt8)).length:Int)==(0:Int)) then bif (((decide (0≤((0:Nat):Int)))&&(decide (((0:Nat):Int)≤(qaI out4))))&&(decide ((qaI out4)≤(out4.length:Int)))) then qri (List.drop ((0:Nat):Int).toNat (List.take (qaI out4).toNat out4)) true else none else qri out4 false else none
def qtm (n:Nat) (s0:List UInt8):Option AV :=
 qiQ (qeB n) n s0 ([([]:List UInt8)]:List (List UInt8)) (0:Int)
def qtQ (s2:List (Int×((List UInt8)×Unit))):Option AV:=some (.dat (.sl (.pair (.int .i64) (.pair (.sl .byte) .unit))) s2 none)
def qo (l3:List (List UInt8)) (i7:Int):=(l3.getD i7.toNat ([]:List UInt8))
def qaZ (out5:List (Int×((List UInt8)×Unit))):=(IntKind.wrap .i64 ((out5.length:Int) - (1:Int)))
def qar (out5:List (Int×((List UInt8)×Unit))):=(out5.getD (qaZ out5).toNat ((0:Int),(([]:List UInt8),())))
def qba (l3:List (List UInt8)) (i7:Int):=([((z43 (qo l3 i7)),((z45 (qo l3 i7)),()))]:List (Int×((List UInt8)×Unit)))
def qaj (l3:List (List UInt8)) (i7:Int):=((decide (0≤i7))&&(decide (i7 < l3.length)))
def qbI (out5:List (Int×((List UInt8)×Unit))):=((decide (0≤(qaZ out5)))&&(decide ((qaZ out5) < out5.length)))
def qeC (k0:List (Int×((List UInt8)×Unit))→Option AV) (next:List (List UInt8)→List (Int×((List UInt8)×Unit))→Bool→Int→Option AV) (_n:Nat) (l3:List (List UInt8)) (out5:List (Int×((List UInt8)×Unit))) (open6:Bool) (i7:Int):Option AV :=
 bif (decide (i7 < (l3.length:Int))) then bif (qaj l3 i7) then bif ((qki (qo l3 i7))&&true) then bif open6 then bif (qbI out5) then bif ((qar out5).1==(z43 (qo l3 i7))) then bif (qbI out5) then bif (qaj l3 i7) then bif (decide (List.length ([]:List UInt8)+List.length (qar out5).2.1≤room)) then bif ((qhb (qo l3 i7))&&true) then bif (decide (List.length (([]:List UInt8)++(qar out5).2.1)+List.length (z45 (qo l3 i7))≤room)) then bif (qbI out5) then bif (qaj l3 i7) then bif ((qkj (qo l3 i7))&&true) then next l3 (List.set out5 (qaZ out5).toNat ((qar out5).1,(((([]:List UInt8)++(qar out5).2.1)++(z45 (qo l3 i7))),(qar out5).2.2))) (z47 (qo l3 i7)) (IntKind.wrap .i64 (i7+1)) else none else none else none else none else none else none else none else none else bif (qaj l3 i7) then bif ((qhb (qo l3 i7))&&true) then bif (decide (out5.length+List.length (qba l3 i7)≤room)) then bif (qaj l3 i7) then bif ((qkj (qo l3 i7))&&true) then next l3 (out5++(qba l3 i7)) (z47 (qo l3 i7)) (IntKind.wrap .i64 (i7+1)) else none else none else none else none else none else none else bif (qaj l3 i7) then bif ((qhb (qo l3 i7))&&true) then bif (decide (out5.length+List.length (qba l3 i7)≤room)) then bif (qaj l3 i7) then bif ((qkj (qo l3 i7))&&true) then next l3 (out5++(qba l3 i7)) (z47 (qo l3 i7)) (IntKind.wrap .i64 (i7+1)) else none else none else none else none else none else none else none else k0 out5
def qgB (k0:List (Int×((List UInt8)×Unit))→Option AV):Nat→List (List UInt8)→List (Int×((List UInt8)×Unit))→Bool→Int→Option AV
 | 0=>fun _ _ _ _=>none
 | n+1=>qeC k0 (qgB k0 n) n
def qgC (_n:Nat) (out5:List (Int×((List UInt8)×Unit))):Option AV :=
 qtQ out5
def qtn (n:Nat) (s0:List UInt8):Option AV :=
 bif ((qsb s0)&&true) then
 qgB (qgC n) n ((z71 s0).1) ([]:List (Int×((List UInt8)×Unit))) false (0:Int)
 else none
def qto (s2:Bool):Option AV:=some (dg s2)
def z9_sh (_n:Nat) (s0:List UInt8):Option AV :=
 bif (decide ((600:Int) < (s0.length:Int))) then
 qto z34
 else
 bif ((qlq s0)&&true) then
 bif ((qsX s0)&&true) then
 bif ((qiu (z36 s0) (z37 s0))&&true) then
 bif (z35 (z36 s0) (z37 s0)) then
 qto z34
 else
 qto false
 else none
 else none
 else none
def qgD (s2:Bool):Option AV:=some (dg s2)
def qeD (ret:Bool→Option AV) (k0:List (Int×((List UInt8)×Unit))→Option AV) (next:List (Int×((List UInt8)×Unit))→List (Int×((List UInt8)×Unit))→Int→Int→Option AV) (_n:Nat) (l0:List (Int×((List UInt8)×Unit))) (s9:List (Int×((List UInt8)×Unit))) (s10:Int) (s11:Int):Option AV :=
 bif (decide (s11 < s10)) then
 bif ((decide (0≤s11))&&(decide (s11 < s9.length))) then
 bif (decide ((200:Int) < ((s9.getD s11.toNat ((0:Int),(([]:List UInt8),()))).2.1.length:Int))) then
 ret true
 else
 next l0 s9 s10 (IntKind.wrap .i64 (s11+1))
 else none
 else
 k0 l0
def qgE (ret:Bool→Option AV) (k0:List (Int×((List UInt8)×Unit))→Option AV):Nat→List (Int×((List UInt8)×Unit))→List (Int×((List UInt8)×Unit))→Int→Int→Option AV
 | 0=>fun _ _ _ _=>none
 | n+1=>qeD ret k0 (qgE ret k0 n) n
def qgF (_n:Nat) (l0:List (Int×((List UInt8)×Unit))):Option AV :=
 qgD (decide ((12:Int) < (l0.length:Int)))
def qcM (l0:List (Int×((List UInt8)×Unit))):=(bif (decide ((12:Int) < (l0.length:Int))) then (12:Int) else (l0.length:Int))
def qtp (n:Nat) (l0:List (Int×((List UInt8)×Unit))):Option AV :=
 bif (((decide (0≤((0:Nat):Int)))&&(decide (((0:Nat):Int)≤(qcM l0))))&&(decide ((qcM l0)≤(l0.length:Int)))) then qgE qgD (qgF n) n l0 (List.drop ((0:Nat):Int).toNat (List.take (qcM l0).toNat l0)) ((List.drop ((0:Nat):Int).toNat (List.take (qcM l0).toNat l0)).length:Int) (0:Int) else none
def qtR (s2:List (Int×((List UInt8)×Unit))):Option AV:=some (.dat (.sl (.pair (.int .i64) (.pair (.sl .byte) .unit))) s2 (some (2,77)))
def qeE (k0:List (Int×((List UInt8)×Unit))→Option AV) (next:List (Int×((List UInt8)×Unit))→List (Int×((List UInt8)×Unit))→Int→Int→Option AV) (_n:Nat) (out3:List (Int×((List UInt8)×Unit))) (s6:List (Int×((List UInt8)×Unit))) (s7:Int) (s8:Int):Option AV :=
 bif (decide (s8 < s7)) then
 bif ((decide (0≤s8))&&(decide (s8 < s6.length))) then
 bif (decide (out3.length+List.length ([(s6.getD s8.toNat ((0:Int),(([]:List UInt8),())))]:List (Int×((List UInt8)×Unit)))≤room)) then
 next (out3++([(s6.getD s8.toNat ((0:Int),(([]:List UInt8),())))]:List (Int×((List UInt8)×Unit)))) s6 s7 (IntKind.wrap .i64 (s8+1))
 else none
 else none
 else
 k0 out3
def qgG (k0:List (Int×((List UInt8)×Unit))→Option AV):Nat→List (Int×((List UInt8)×Unit))→List (Int×((List UInt8)×Unit))→Int→Int→Option AV
 | 0=>fun _ _ _ _=>none
 | n+1=>qeE k0 (qgG k0 n) n
def qgH (_n:Nat) (out3:List (Int×((List UInt8)×Unit))):Option AV :=
 qtR out3
def qtq (n:Nat) (l0:List (Int×((List UInt8)×Unit))):Option AV :=
 qgG (qgH n) n ([]:List (Int×((List UInt8)×Unit))) l0 (l0.length:Int) (0:Int)
def qaa (s4:List UInt8):Option AV:=some (db s4 (some (4,5)))
def qeF (k0:Int→List UInt8→List UInt8→Option AV) (next:Int→List UInt8→List UInt8→Int→Option AV) (_n:Nat) (depth0:Int) (text1:List UInt8) (out5:List UInt8) (i6:Int):Option AV :=
 bif (decide (i6 < depth0)) then
 bif (decide (out5.length+List.length ([(62:UInt8)]:List UInt8)≤room)) then
 next depth0 text1 (out5++([(62:UInt8)]:List UInt8)) (IntKind.wrap .i64 (i6+1))
 else none
 else
 k0 depth0 text1 out5
def qgI (k0:Int→List UInt8→List UInt8→Option AV):Nat→Int→List UInt8→List UInt8→Int→Option AV
 | 0=>fun _ _ _ _=>none
 | n+1=>qeF k0 (qgI k0 n) n
def qas (text1:List UInt8) (out5:List UInt8):=(decide (List.length (out5++([(32:UInt8)]:List UInt8))+text1.length≤room))
def qat (out5:List UInt8):=(decide (out5.length+List.length ([(32:UInt8)]:List UInt8)≤room))
def qbJ (text1:List UInt8):=((decide (0≤(0:Int)))&&(decide ((0:Int) < text1.length)))
def qau (text1:List UInt8) (out5:List UInt8):=((out5++([(32:UInt8)]:List UInt8))++text1)
def qdl (_n:Nat) (depth0:Int) (text1:List UInt8) (out5:List UInt8):Option AV :=
 bif (decide ((5:Int)≤(text1.length:Int))) then bif (((decide (0≤((0:Nat):Int)))&&(decide (((0:Nat):Int)≤(5:Int))))&&(decide ((5:Int)≤(text1.length:Int)))) then bif (decide ((0:Int) < depth0)) then bif (qat out5) then bif (qas text1 out5) then qaa (qau text1 out5) else none else none else bif ((List.drop ((0:Nat):Int).toNat (List.take (5:Int).toNat text1))==([70,114,111,109,32]:List UInt8)) then bif (qat out5) then bif (qas text1 out5) then qaa (qau text1 out5) else none else none else bif (decide ((0:Int) < (text1.length:Int))) then bif (qbJ text1) then bif ((text1.getD (0:Int).toNat (0:UInt8))==(32:UInt8)) then bif (qat out5) then bif (qas text1 out5) then qaa (qau text1 out5) else none else none else bif (qbJ text1) then bif ((text1.getD (0:Int).toNat (0:UInt8))==(62:UInt8)) then bif (qat out5) then bif (qas text1 out5) then qaa (qau text1 out5) else none else none else bif (decide (out5.length+text1.length≤room)) then qaa (out5++text1) else none else none else none else bif (decide (out5.length+text1.length≤room)) then qaa (out5++text1) else none else none else bif (decide ((0:Int) < depth0)) then bif (qat out5) then bif (qas text1 out5) then qaa (qau text1 out5) else none else none else bif (decide ((0:Int) < (text1.length:Int))) then bif (qbJ text1) then bif ((text1.getD (0:Int).toNat (0:UInt8))==(32:UInt8)) then bif (qat out5) then bif (qas text1 out5) then qaa (qau text1 out5) else none else none else bif (qbJ text1) then bif ((text1.getD (0:Int).toNat (0:UInt8))==(62:UInt8)) then bif (qat out5) then bif (qas text1 out5) then qaa (qau text1 out5) else none else none else bif (decide (out5.length+text1.length≤room)) then qaa (out5++text1) else none else none else none else bif (decide (out5.length+text1.length≤room)) then qaa (out5++text1) else none
def qtr (n:Nat) (depth0:Int) (text1:List UInt8):Option AV :=
 qgI (qdl n) n depth0 text1 ([]:List UInt8) (0:Int)
def qcY (s2:Bool):Option AV:=some (dg s2)
def qeG (ret:Bool→Option AV) (k0:Int×((List UInt8)×Unit)→Int→Option AV) (next:Int×((List UInt8)×Unit)→Int→Int→Option AV) (_n:Nat) (p1:Int×((List UInt8)×Unit)) (n3:Int) (i4:Int):Option AV :=
 bif (decide (i4 < n3)) then
 bif ((decide (0≤i4))&&(decide (i4 < p1.2.1.length))) then
 bif ((p1.2.1.getD i4.toNat (0:UInt8))==(13:UInt8)) then
 ret false
 else
 bif ((decide (0≤i4))&&(decide (i4 < p1.2.1.length))) then
 bif ((p1.2.1.getD i4.toNat (0:UInt8))==(10:UInt8)) then
 ret false
 else
 bif (decide ((IntKind.wrap .i64 (i4+(3:Int)))≤n3)) then
 bif (((decide (0≤i4))&&(decide (i4≤(IntKind.wrap .i64 (i4+(3:Int))))))&&(decide ((IntKind.wrap .i64 (i4+(3:Int)))≤(p1.2.1.length:Int)))) then
 bif ((List.drop i4.toNat (List.take (IntKind.wrap .i64 (i4+(3:Int))).toNat p1.2.1))==([45,45,32]:List UInt8)) then
 ret false
 else
 next p1 n3 (IntKind.wrap .i64 (i4+1))
 else none
 else
 next p1 n3 (IntKind.wrap .i64 (i4+1))
 else none
 else none
 else
 k0 p1 n3
def qgJ (ret:Bool→Option AV) (k0:Int×((List UInt8)×Unit)→Int→Option AV):Nat→Int×((List UInt8)×Unit)→Int→Int→Option AV
 | 0=>fun _ _ _=>none
 | n+1=>qeG ret k0 (qgJ ret k0 n) n
def qeH (_n:Nat) (p1:Int×((List UInt8)×Unit)) (n3:Int):Option AV :=
 bif (n3==(0:Int)) then
 qcY true
 else
 bif ((decide (0≤(IntKind.wrap .i64 (n3 - (1:Int)))))&&(decide ((IntKind.wrap .i64 (n3 - (1:Int))) < p1.2.1.length))) then
 qcY ((p1.2.1.getD (IntKind.wrap .i64 (n3 - (1:Int))).toNat (0:UInt8)) != (32:UInt8))
 else none
def qts (n:Nat) (p0:Int×((List UInt8)×Unit)):Option AV :=
 bif (decide (p0.1 < (0:Int))) then
 qcY false
 else
 bif (decide ((9:Int) < p0.1)) then
 qcY false
 else
 qgJ qcY (qeH n) n p0 (p0.2.1.length:Int) (0:Int)
def qtS (s6:Int):Option AV:=some (dc s6)
def qeI (k0:Int→Option AV) (next:Int→List UInt8→Int→Int→Int→Option AV) (_n:Nat) (depth0:Int) (t1:List UInt8) (width2:Int) (best7:Int) (i8:Int):Option AV :=
 bif (decide (i8 < (t1.length:Int))) then
 bif ((decide (0≤(IntKind.wrap .i64 (i8 - (1:Int)))))&&(decide ((IntKind.wrap .i64 (i8 - (1:Int))) < t1.length))) then
 bif ((t1.getD (IntKind.wrap .i64 (i8 - (1:Int))).toNat (0:UInt8)) != (32:UInt8)) then
 next depth0 t1 width2 best7 (IntKind.wrap .i64 (i8+1))
 else
 bif (best7==(0:Int)) then
 next depth0 t1 width2 i8 (IntKind.wrap .i64 (i8+1))
 else
 bif (((decide (0≤((0:Nat):Int)))&&(decide (((0:Nat):Int)≤i8)))&&(decide (i8≤(t1.length:Int)))) then
 bif ((qcO depth0 (List.drop ((0:Nat):Int).toNat (List.take i8.toNat t1)))&&true) then
 bif (decide (((z49 depth0 (List.drop ((0:Nat):Int).toNat (List.take i8.toNat t1))).length:Int)≤width2)) then
 next depth0 t1 width2 i8 (IntKind.wrap .i64 (i8+1))
 else
 next depth0 t1 width2 best7 (IntKind.wrap .i64 (i8+1))
 else none
 else none
 else none
 else
 k0 best7
def qgK (k0:Int→Option AV):Nat→Int→List UInt8→Int→Int→Int→Option AV
 | 0=>fun _ _ _ _ _=>none
 | n+1=>qeI k0 (qgK k0 n) n
def qgL (_n:Nat) (best7:Int):Option AV :=
 qtS best7
def qtt (n:Nat) (depth0:Int) (t1:List UInt8) (width2:Int):Option AV :=
 qgK (qgL n) n depth0 t1 width2 (0:Int) (1:Int)
def qgM (s4:List UInt8) (s5:Int):Option AV:=some (.tup [(da s4),(dc s5)])
def qeJ (ret:List UInt8→Int→Option AV) (k0:List (Int×((List UInt8)×Unit))→Int→Option AV) (next:List (Int×((List UInt8)×Unit))→Int→Int→Option AV) (_n:Nat) (l0:List (Int×((List UInt8)×Unit))) (width1:Int) (i6:Int):Option AV :=
 bif (decide (i6 < (l0.length:Int))) then
 bif ((decide (0≤i6))&&(decide (i6 < l0.length))) then
 bif ((qqJ (l0.getD i6.toNat ((0:Int),(([]:List UInt8),()))))&&true) then
 bif (!(z74 (l0.getD i6.toNat ((0:Int),(([]:List UInt8),()))))) then
 ret ([]:List UInt8) (3:Int)
 else
 next l0 width1 (IntKind.wrap .i64 (i6+1))
 else none
 else none
 else
 k0 l0 width1
def qgN (ret:List UInt8→Int→Option AV) (k0:List (Int×((List UInt8)×Unit))→Int→Option AV):Nat→List (Int×((List UInt8)×Unit))→Int→Int→Option AV
 | 0=>fun _ _ _=>none
 | n+1=>qeJ ret k0 (qgN ret k0 n) n
def qD (l0:List (Int×((List UInt8)×Unit))) (i8:Int):=(l0.getD i8.toNat ((0:Int),(([]:List UInt8),())))
def qan (l0:List (Int×((List UInt8)×Unit))) (width1:Int) (i8:Int) (t9:List UInt8):=(z49 (qD l0 i8).1 (List.drop ((0:Nat):Int).toNat (List.take (z75 (qD l0 i8).1 t9 width1).toNat t9)))
def qdm (next:List (Int×((List UInt8)×Unit))→Int→List UInt8→Int→List UInt8→Option AV) (l0:List (Int×((List UInt8)×Unit))) (width1:Int) (out7:List UInt8) (i8:Int) (t9:List UInt8):=( bif (decide (out7.length+List.length (qan l0 width1 i8 t9)≤room)) then bif (decide (List.length (out7++(qan l0 width1 i8 t9))+List.length ([(13:UInt8),(10:UInt8)]:List UInt8)≤room)) then bif (((decide (0≤(z75 (qD l0 i8).1 t9 width1)))&&(decide ((z75 (qD l0 i8).1 t9 width1)≤(t9.length:Int))))&&(decide ((t9.length:Int)≤(t9.length:Int)))) then next l0 width1 ((out7++(qan l0 width1 i8 t9))++([(13:UInt8),(10:UInt8)]:List UInt8)) i8 (List.drop (z75 (qD l0 i8).1 t9 width1).toNat (List.take (t9.length:Int).toNat t9)) else none else none else none)
def qT (l0:List (Int×((List UInt8)×Unit))) (width1:Int) (i8:Int) (t9:List UInt8):=(z75 (qD l0 i8).1 t9 width1)
def qfA (k4:List (Int×((List UInt8)×Unit))→Int→List UInt8→Int→List UInt8→Option AV) (next:List (Int×((List UInt8)×Unit))→Int→List UInt8→Int→List UInt8→Option AV) (_n:Nat) (l0:List (Int×((List UInt8)×Unit))) (width1:Int) (out7:List UInt8) (i8:Int) (t9:List UInt8):Option AV :=
 bif ((decide (0≤i8))&&(decide (i8 < l0.length))) then bif ((qcO (qD l0 i8).1 t9)&&true) then bif (decide (width1 < ((z49 (qD l0 i8).1 t9).length:Int))) then bif ((decide (0≤i8))&&(decide (i8 < l0.length))) then bif ((qom (qD l0 i8).1 t9 width1)&&true) then bif ((qT l0 width1 i8 t9)==(0:Int)) then k4 l0 width1 out7 i8 t9 else bif ((decide (0≤i8))&&(decide (i8 < l0.length))) then bif (((decide (0≤((0:Nat):Int)))&&(decide (((0:Nat):Int)≤(qT l0 width1 i8 t9))))&&(decide ((qT l0 width1 i8 t9)≤(t9.length:Int)))) then both ( bif ((qcO (qD l0 i8).1 (List.drop ((0:Nat):Int).toNat (List.take (qT l0 width1 i8 t9).toNat t9)))&&true) then both (qdm next l0 width1 out7 i8 t9) (qdm next l0 width1 out7 i8 t9) else none) ( bif ((qcO (qD l0 i8).1 (List.drop ((0:Nat):Int).toNat (List.take (qT l0 width1 i8 t9).toNat t9)))&&true) then bif (decide (out7.length+List.length (qan l0 width1 i8 t9)≤room)) then bif (decide (List.length (out7++(qan l0 width1 i8 t9))+List.length ([(13:UInt8),(10:UInt8)]:List UInt8)≤room)) then bif (((decide (0≤(qT l0 width1 i8 t9)))&&(decide ((qT l0 width1 i8 t9)≤(t9.length:Int))))&&(decide ((t9.length:Int)≤(t9.length:Int)))) then next l0 width1 ((out7++(qan l0 width1 i8 t9))++([(13:UInt8),(10:UInt8)]:List UInt8)) i8 (List.drop (qT l0 width1 i8 t9).toNat (List.take (t9.length:Int).toNat t9)) else none else none else none else none) else none else none else none else none else k4 l0 width1 out7 i8 t9 else none else none
def qdW (k4:List (Int×((List UInt8)×Unit))→Int→List UInt8→Int→List UInt8→Option AV):Nat→List (Int×((List UInt8)×Unit))→Int→List UInt8→Int→List UInt8→Option AV
 | 0=>fun _ _ _ _ _=>none
 | n+1=>qfA k4 (qdW k4 n) n
def qbi (l0:List (Int×((List UInt8)×Unit))) (i8:Int):=(l0.getD i8.toNat ((0:Int),(([]:List UInt8),())))
def qaL (_k2:List UInt8→Option AV) (next:List (Int×((List UInt8)×Unit))→Int→List UInt8→Int→Option AV) (_n:Nat) (l0:List (Int×((List UInt8)×Unit))) (width1:Int) (out7:List UInt8) (i8:Int) (t9:List UInt8):Option AV :=
 bif ((decide (0≤i8))&&(decide (i8 < l0.length))) then bif ((qcO (qbi l0 i8).1 t9)&&true) then bif (decide (out7.length+List.length (z49 (qbi l0 i8).1 t9)≤room)) then bif (decide (List.length (out7++(z49 (qbi l0 i8).1 t9))+List.length ([(13:UInt8),(10:UInt8)]:List UInt8)≤room)) then next l0 width1 ((out7++(z49 (qbi l0 i8).1 t9))++([(13:UInt8),(10:UInt8)]:List UInt8)) (IntKind.wrap .i64 (i8+1)) else none else none else none else none
def qbS (k2:List UInt8→Option AV) (next:List (Int×((List UInt8)×Unit))→Int→List UInt8→Int→Option AV) (n:Nat) (l0:List (Int×((List UInt8)×Unit))) (width1:Int) (out7:List UInt8) (i8:Int):Option AV :=
 bif (decide (i8 < (l0.length:Int))) then
 bif ((decide (0≤i8))&&(decide (i8 < l0.length))) then
 qdW (qaL k2 next n) n l0 width1 out7 i8 (l0.getD i8.toNat ((0:Int),(([]:List UInt8),()))).2.1
 else none
 else
 k2 out7
def qbX (k2:List UInt8→Option AV):Nat→List (Int×((List UInt8)×Unit))→Int→List UInt8→Int→Option AV
 | 0=>fun _ _ _ _=>none
 | n+1=>qbS k2 (qbX k2 n) n
def qdX (_n:Nat) (out7:List UInt8):Option AV :=
 qgM out7 (0:Int)
def qeK (n:Nat) (l0:List (Int×((List UInt8)×Unit))) (width1:Int):Option AV :=
 qbX (qdX n) n l0 width1 ([]:List UInt8) (0:Int)
def qtu (n:Nat) (l0:List (Int×((List UInt8)×Unit))) (width1:Int):Option AV :=
 bif (decide (width1 < (10:Int))) then
 qgM ([]:List UInt8) (1:Int)
 else
 bif (decide ((1000:Int) < width1)) then
 qgM ([]:List UInt8) (1:Int)
 else
 qgN qgM (qeK n) n l0 width1 (0:Int)
def qkw (s4:Bool):Option AV:=some (dg s4)
def qvM (_n:Nat) (l0:List (Int×((List UInt8)×Unit))) (width1:Int):Option AV :=
 bif ((qop l0)&&true) then
 bif (z38 l0) then
 qkw z34
 else
 bif ((qoo l0)&&true) then
 bif ((qlr (z40 l0) width1)&&true) then
 bif ((qsY l0 width1)&&true) then
 bif ((qha ((z39 (z40 l0) width1).1) ((z41 l0 width1).1))&&true) then
 bif (z15 ((z39 (z40 l0) width1).1) ((z41 l0 width1).1)) then
 bif (((z39 (z40 l0) width1).2)==((z41 l0 width1).2)) then
 qkw z34
 else
 qkw false
 else
 qkw false
 else none
 else none
 else none
 else none
 else none
def qeX (s4:Bool):Option AV:=some (dg s4)
def qvN (_n:Nat) (line0:List UInt8) (depth1:Int):Option AV :=
 bif (decide ((300:Int) < (line0.length:Int))) then
 qeX z34
 else
 bif (decide ((100:Int) < depth1)) then
 qeX z34
 else
 bif ((qkh line0)&&true) then
 bif ((qki line0)&&true) then
 bif ((z42 line0)==(z43 line0)) then
 bif ((qdi line0)&&true) then
 bif ((qhb line0)&&true) then
 bif ((qha (z44 line0) (z45 line0))&&true) then
 bif (z15 (z44 line0) (z45 line0)) then
 bif ((qgj line0)&&true) then
 bif ((qkj line0)&&true) then
 bif ((z46 line0)==(z47 line0)) then
 bif ((qdj depth1 line0)&&true) then
 bif ((qcO depth1 line0)&&true) then
 bif ((qha (z48 depth1 line0) (z49 depth1 line0))&&true) then
 bif (z15 (z48 depth1 line0) (z49 depth1 line0)) then
 qeX z34
 else
 qeX false
 else none
 else none
 else none
 else
 qeX false
 else none
 else none
 else
 qeX false
 else none
 else none
 else none
 else
 qeX false
 else none
 else none
def qhw (s4:Bool):Option AV:=some (dg s4)
def qvO (_n:Nat) (l0:List (Int×((List UInt8)×Unit))) (width1:Int):Option AV :=
 bif ((qop l0)&&true) then
 bif (z38 l0) then
 qhw z34
 else
 bif ((qoo l0)&&true) then
 bif ((qlr (z40 l0) width1)&&true) then
 bif (((z39 (z40 l0) width1).2) != (0:Int)) then
 bif ((((z39 (z40 l0) width1).1).length:Int)==(0:Int)) then
 qhw z34
 else
 qhw false
 else
 bif ((qlq ((z39 (z40 l0) width1).1))&&true) then
 bif ((qiu (z36 ((z39 (z40 l0) width1).1)) l0)&&true) then
 bif (z35 (z36 ((z39 (z40 l0) width1).1)) l0) then
 qhw z34
 else
 qhw false
 else none
 else none
 else none
 else none
 else none
end
end Go.Av
