import Derived.Test.YtmdadpepccbpcaaGreatDoorPoA
import Derived.Test.YtmdadpepccbpcaaGreatDoorAvE
namespace Go.Av
set_option linter.unusedSimpArgs false
set_option linter.unusedVariables false
section
open List (length drop take replicate set)
open Int (tmod tdiv)
open UInt8 (ofNat toNat)
open IntKind (wrap)
abbrev OA:=Option AV
set_option linter.unusedSimpArgs false
set_option linter.unusedVariables false
noncomputable section
def qKR (s4:Int):OA:=some (dc s4)
def qXq (_n:Nat) (b0:LU) (c1:UInt8):OA :=
 qKR (z141 b0 c1)
def qBy (s2:Bool):OA:=some (dg s2)
def qUB (_n:Nat) (bufLen0:Int):OA :=
 qBy (decide ((8:Int) < bufLen0))
def qjf (as2:List Bool) (ok3:Bool):OA:=some (.tup [(.dat (.arr 256 .bool) as2 none),(dg ok3)])
def qee (ret:List Bool→Bool→OA) (k0:List Bool→OA) (next:LU→List Bool→Int→OA) (_n:Nat) (chars0:LU) (as2:List Bool) (i4:Int):OA :=
 bif (decide (i4 < (chars0.length:Int))) then
 bif ((decide (0≤i4))&&(decide (i4 < chars0.length))) then
 bif (decide ((128:UInt8)≤(chars0.getD i4.toNat (0:UInt8)))) then
 ret as2 false
 else
 bif ((decide (0≤((toNat (chars0.getD i4.toNat (0:UInt8)):Nat):Int)))&&(decide (((toNat (chars0.getD i4.toNat (0:UInt8)):Nat):Int) < (256:Nat)))) then
 next chars0 (set as2 ((toNat (chars0.getD i4.toNat (0:UInt8)):Nat):Int).toNat true) (wrap .i64 (i4+1))
 else none
 else none
 else
 k0 as2
def qhs (ret:List Bool→Bool→OA) (k0:List Bool→OA):Nat→LU→List Bool→Int→OA
 | 0=>fun _ _ _=>none
 | n+1=>qee ret k0 (qhs ret k0 n) n
def qmh (_n:Nat) (as2:List Bool):OA :=
 qjf as2 true
def qBz (n:Nat) (chars0:LU):OA :=
 qhs qjf (qmh n) n chars0 (replicate 256 false) (0:Int)
def qKS (_n:Nat) (as0:List Bool) (c1:UInt8):OA :=
 bif ((decide (0≤((toNat c1:Nat):Int)))&&(decide (((toNat c1:Nat):Int) < (256:Nat)))) then
 qBy (as0.getD ((toNat c1:Nat):Int).toNat false)
 else none
def qef (m0:Int) (ret:Int→OA) (k0:OA) (next:LU→Nat→OA) (_n:Nat) (s28:LU) (s28p:Nat):OA :=
 bif (decide (s28p < s28.length)) then
 bif (decide (s28p < s28.length)) then
 bif ((decL s28 s28p).1==(65533:Int)) then
 ret (0:Int)
 else
 next s28 (bif (decide (s28p < s28.length)) then s28p+(decL s28 s28p).2 else s28p)
 else none
 else
 k0
def qht (m0:Int) (ret:Int→OA) (k0:OA):Nat→LU→Nat→OA
 | 0=>fun _ _=>none
 | n+1=>(qef m0) ret k0 ((qht m0) ret k0 n) n
def qtS (m0:Int) (_n:Nat):OA :=
 qKR (-1:Int)
def qcD (m0:Int) (ret:Int→OA) (k2:OA) (next:List Bool→LU→Int→Int→OA) (_n:Nat) (as7:List Bool) (s60:LU) (s61:Int) (s62:Int):OA :=
 bif (decide (s62 < s61)) then
 bif ((decide (0≤s62))&&(decide (s62 < s60.length))) then
 bif (z168 as7 (s60.getD s62.toNat (0:UInt8))) then
 ret s62
 else
 next as7 s60 s61 (wrap .i64 (s62+1))
 else none
 else
 k2
def qdD (m0:Int) (ret:Int→OA) (k2:OA):Nat→List Bool→LU→Int→Int→OA
 | 0=>fun _ _ _ _=>none
 | n+1=>(qcD m0) ret k2 ((qdD m0) ret k2 n) n
def qjg (m0:Int) (_n:Nat):OA :=
 qKR (-1:Int)
def qcE (m0:Int) (ret:Int→OA) (k6:LU→LU→Int→Int→OA) (next:LU→LU→Int→Int→Int→LU→Nat→OA) (_n:Nat) (s0:LU) (chars1:LU) (width11:Int) (i12:Int) (r13:Int) (s121:LU) (s121p:Nat):OA :=
 bif (decide (s121p < s121.length)) then
 bif (decide (s121p < s121.length)) then
 bif (r13==(decL s121 s121p).1) then
 ret i12
 else
 next s0 chars1 width11 i12 r13 s121 (bif (decide (s121p < s121.length)) then s121p+(decL s121 s121p).2 else s121p)
 else none
 else
 k6 s0 chars1 width11 i12
def qct (m0:Int) (ret:Int→OA) (k6:LU→LU→Int→Int→OA):Nat→LU→LU→Int→Int→Int→LU→Nat→OA
 | 0=>fun _ _ _ _ _ _ _=>none
 | n+1=>(qcE m0) ret k6 ((qct m0) ret k6 n) n
def qfL (m0:Int) (_ret:Int→OA) (_k4:OA) (next:LU→LU→Int→OA) (_n:Nat) (s0:LU) (chars1:LU) (width11:Int) (i12:Int):OA :=
 next s0 chars1 (wrap .i64 (i12+width11))
def qq (s0:LU) (i12:Int):=(z169 (drop i12.toNat (take (s0.length:Int).toNat s0)))
def qdE (m0:Int) (ret:Int→OA) (k4:OA) (next:LU→LU→Int→OA) (n:Nat) (s0:LU) (chars1:LU) (i12:Int):OA :=
 bif (decide (i12 < (s0.length:Int))) then bif ((decide (0≤i12))&&(decide (i12 < s0.length))) then bif (decide ((wrap .i32 ((toNat (s0.getD i12.toNat (0:UInt8)):Nat):Int)) < (128:Int))) then bif ((decide (0≤i12))&&(decide (i12 < s0.length))) then bif (decide (0≤(z164 chars1 (s0.getD i12.toNat (0:UInt8))))) then ret i12 else next s0 chars1 (wrap .i64 (i12+1)) else none else bif (((decide (0≤i12))&&(decide (i12≤(s0.length:Int))))&&(decide ((s0.length:Int)≤(s0.length:Int)))) then bif ((qoe (drop i12.toNat (take (s0.length:Int).toNat s0)))&&true) then bif (((qq s0 i12).1) != (65533:Int)) then bif ((chars1.length:Int)==((qq s0 i12).2)) then bif (chars1==(Utf8.encode ((qq s0 i12).1)).data.toList) then ret i12 else next s0 chars1 (wrap .i64 (i12+((qq s0 i12).2))) else bif (decide (((qq s0 i12).2)≤m0)) then bif ((qod m0 chars1 (Utf8.encode ((qq s0 i12).1)).data.toList)&&true) then bif (decide (0≤(z170 chars1 (Utf8.encode ((qq s0 i12).1)).data.toList))) then ret i12 else next s0 chars1 (wrap .i64 (i12+((qq s0 i12).2))) else none else (qct m0) ret ((qfL m0) ret k4 next n) n s0 chars1 ((qq s0 i12).2) i12 ((qq s0 i12).1) chars1 0 else (qct m0) ret ((qfL m0) ret k4 next n) n s0 chars1 ((qq s0 i12).2) i12 ((qq s0 i12).1) chars1 0 else none else none else none else k4
def qcu (m0:Int) (ret:Int→OA) (k4:OA):Nat→LU→LU→Int→OA
 | 0=>fun _ _ _=>none
 | n+1=>(qdE m0) ret k4 ((qcu m0) ret k4 n) n
def qfM (m0:Int) (_n:Nat):OA :=
 qKR (-1:Int)
def qdF (chars1:LU):=(wrap .i32 ((toNat (chars1.getD (0:Int).toNat (0:UInt8)):Nat):Int))
def qtT (m0:Int) (n:Nat) (s0:LU) (chars1:LU):OA :=
 bif (chars1==([]:LU)) then qKR (-1:Int) else bif ((s0.length:Int)==(1:Int)) then bif ((decide (0≤(0:Int)))&&(decide ((0:Int) < s0.length))) then bif (decide ((128:Int)≤(wrap .i32 ((toNat (s0.getD (0:Int).toNat (0:UInt8)):Nat):Int)))) then (qht m0) qKR ((qtS m0) n) n chars1 0 else bif ((decide (0≤(0:Int)))&&(decide ((0:Int) < s0.length))) then bif (decide (0≤(z164 chars1 (s0.getD (0:Int).toNat (0:UInt8))))) then qKR (0:Int) else qKR (-1:Int) else none else none else bif ((chars1.length:Int)==(1:Int)) then bif ((decide (0≤(0:Int)))&&(decide ((0:Int) < chars1.length))) then bif (decide ((128:Int)≤(qdF chars1))) then bif ((qyl s0 (65533:Int))&&true) then qKR (z165 s0 (65533:Int)) else none else bif ((qyl s0 (qdF chars1))&&true) then qKR (z165 s0 (qdF chars1)) else none else none else bif (z166 (s0.length:Int)) then bif ((qeJ chars1)&&true) then bif ((z167 chars1).2) then (qdD m0) qKR ((qjg m0) n) n ((z167 chars1).1) s0 (s0.length:Int) (0:Int) else (qcu m0) qKR ((qfM m0) n) n s0 chars1 (0:Int) else none else (qcu m0) qKR ((qfM m0) n) n s0 chars1 (0:Int)
def qUC (_n:Nat) (a0:LU) (b1:LU):OA :=
 qBy (a0==b1)
def qKT (_n:Nat) (s0:LU) (prefix1:LU):OA :=
 bif (decide ((prefix1.length:Int)≤(s0.length:Int))) then
 bif (((decide (0≤((0:Nat):Int)))&&(decide (((0:Nat):Int)≤(prefix1.length:Int))))&&(decide ((prefix1.length:Int)≤(s0.length:Int)))) then
 qBy (z194 (drop ((0:Nat):Int).toNat (take (prefix1.length:Int).toNat s0)) prefix1)
 else none
 else
 qBy false
def qKU (_n:Nat) (s0:LU):OA :=
 bif (z171 s0 ([(13:UInt8),(10:UInt8)]:LU)) then
 qKR (2:Int)
 else
 bif (decide ((0:Int) < (s0.length:Int))) then
 qKR (1:Int)
 else
 qKR (0:Int)
def qji (V:Sigma Inv) (xv:Den V.1) (s36:LU):OA:=some (.tup [(.tup []),(.abs V.1 V.2 xv),(.pbox (.leaf (.sl .byte)) s36 none)])
def qaw (s36:LU):=(wrap .i64 ((z109 s36 ([13,10]:LU))+(z110 (drop (z109 s36 ([13,10]:LU)).toNat (take (s36.length:Int).toNat s36)))))
def qax (s36:LU):=(wrap .i64 ((s36.length:Int)+(z110 (drop (s36.length:Int).toNat (take (s36.length:Int).toNat s36)))))
def qM (s36:LU):=(z109 s36 ([13,10]:LU))
def qay (s36:LU):=(decide ((s36.length:Int)≤(s36.length:Int)))
def qbQ (s36:LU):=(drop (s36.length:Int).toNat (take (qax s36).toNat s36))
def qbR (s36:LU):=(drop (qM s36).toNat (take (qaw s36).toNat s36))
def qbS (s36:LU):=(drop ((0:Nat):Int).toNat (take (s36.length:Int).toNat s36))
def qbT (s36:LU):=(drop ((0:Nat):Int).toNat (take (qM s36).toNat s36))
def qia (V:Sigma Inv) (ret:Den V.1→LU→OA) (k0:Den V.1→LU→OA) (next:Den V.1→LU→OA) (_n:Nat) (xv:Den V.1) (s36:LU):OA :=
 bif (decide ((0:Int) < (s36.length:Int))) then bif ((qkw s36 ([13,10]:LU))&&true) then bif (decide ((qM s36) < (0:Int))) then bif (((decide (0≤(s36.length:Int)))&&(qay s36))&&(qay s36)) then bif (((decide (0≤((0:Nat):Int)))&&(decide (((0:Nat):Int)≤(s36.length:Int))))&&(qay s36)) then bif (((decide (0≤(s36.length:Int)))&&(decide ((s36.length:Int)≤(qax s36))))&&(decide ((qax s36)≤(s36.length:Int)))) then bif (V.2.spec xv [⟨(.sl .byte),(qbS s36)⟩,⟨(.sl .byte),(qbQ s36)⟩]).1 then bif (!(V.2.spec xv [⟨(.sl .byte),(qbS s36)⟩,⟨(.sl .byte),(qbQ s36)⟩]).2.1) then ret (V.2.spec xv [⟨(.sl .byte),(qbS s36)⟩,⟨(.sl .byte),(qbQ s36)⟩]).2.2 s36 else bif (((decide (0≤(qax s36)))&&(decide ((qax s36)≤(s36.length:Int))))&&(qay s36)) then next (V.2.spec xv [⟨(.sl .byte),(qbS s36)⟩,⟨(.sl .byte),(qbQ s36)⟩]).2.2 (drop (qax s36).toNat (take (s36.length:Int).toNat s36)) else none else none else none else none else none else bif (((decide (0≤(qM s36)))&&(decide ((qM s36)≤(s36.length:Int))))&&(qay s36)) then bif (((decide (0≤((0:Nat):Int)))&&(decide (((0:Nat):Int)≤(qM s36))))&&(decide ((qM s36)≤(s36.length:Int)))) then bif (((decide (0≤(qM s36)))&&(decide ((qM s36)≤(qaw s36))))&&(decide ((qaw s36)≤(s36.length:Int)))) then bif (V.2.spec xv [⟨(.sl .byte),(qbT s36)⟩,⟨(.sl .byte),(qbR s36)⟩]).1 then bif (!(V.2.spec xv [⟨(.sl .byte),(qbT s36)⟩,⟨(.sl .byte),(qbR s36)⟩]).2.1) then ret (V.2.spec xv [⟨(.sl .byte),(qbT s36)⟩,⟨(.sl .byte),(qbR s36)⟩]).2.2 s36 else bif (((decide (0≤(qaw s36)))&&(decide ((qaw s36)≤(s36.length:Int))))&&(qay s36)) then next (V.2.spec xv [⟨(.sl .byte),(qbT s36)⟩,⟨(.sl .byte),(qbR s36)⟩]).2.2 (drop (qaw s36).toNat (take (s36.length:Int).toNat s36)) else none else none else none else none else none else none else k0 xv s36
def qhu (V:Sigma Inv) (ret:Den V.1→LU→OA) (k0:Den V.1→LU→OA):Nat→Den V.1→LU→OA
 | 0=>fun _ _=>none
 | n+1=>(qia V) ret k0 ((qhu V) ret k0 n) n
def qtU (V:Sigma Inv) (_n:Nat) (xv:Den V.1) (s36:LU):OA :=
 (qji V) xv s36
def qBC (V:Sigma Inv) (n:Nat) (x0:Den V.1) (x1:LU):OA :=
 (qhu V) (qji V) ((qtU V) n) n x0 x1
def qXr (_n:Nat) (s0:LU):OA :=
 some (.abs (qdy [.leaf (.sl .byte)]) (clInv 108 [.leaf (.sl .byte)]) (s0,()))
def qBD (s4:LU):OA:=some (da s4)
def qaX (s0:LU):=(wrap .i64 ((s0.length:Int) - (1:Int)))
def qtV (k0:LU→OA) (next:LU→UInt8→OA) (_n:Nat) (s0:LU) (c1:UInt8):OA :=
 bif (decide ((0:Int) < (s0.length:Int))) then bif ((decide (0≤(qaX s0)))&&(decide ((qaX s0) < s0.length))) then bif ((s0.getD (qaX s0).toNat (0:UInt8))==c1) then bif (((decide (0≤((0:Nat):Int)))&&(decide (((0:Nat):Int)≤(qaX s0))))&&(decide ((qaX s0)≤(s0.length:Int)))) then next (drop ((0:Nat):Int).toNat (take (qaX s0).toNat s0)) c1 else none else k0 s0 else none else k0 s0
def qoU (k0:LU→OA):Nat→LU→UInt8→OA
 | 0=>fun _ _=>none
 | n+1=>qtV k0 (qoU k0 n) n
def qtW (_n:Nat) (s0:LU):OA :=
 qBD s0
def qBE (n:Nat) (s0:LU) (c1:UInt8):OA :=
 qoU (qtW n) n s0 c1
def qaz (s0:LU):=(wrap .i64 ((s0.length:Int) - (1:Int)))
def qib (k0:LU→OA) (next:LU→List Bool→OA) (_n:Nat) (s0:LU) (as1:List Bool):OA :=
 bif (decide ((0:Int) < (s0.length:Int))) then bif ((decide (0≤(qaz s0)))&&(decide ((qaz s0) < s0.length))) then bif (!(z168 as1 (s0.getD (qaz s0).toNat (0:UInt8)))) then k0 s0 else bif (((decide (0≤((0:Nat):Int)))&&(decide (((0:Nat):Int)≤(qaz s0))))&&(decide ((qaz s0)≤(s0.length:Int)))) then next (drop ((0:Nat):Int).toNat (take (qaz s0).toNat s0)) as1 else none else none else k0 s0
def qjj (k0:LU→OA):Nat→LU→List Bool→OA
 | 0=>fun _ _=>none
 | n+1=>qib k0 (qjj k0 n) n
def qtX (_n:Nat) (s0:LU):OA :=
 qBD s0
def qtY (n:Nat) (s0:LU) (as1:List Bool):OA :=
 qjj (qtX n) n s0 as1
def qBG (_n:Nat) (s0:LU) (cutset1:LU):OA :=
 bif ((s0.length:Int)==(0:Int)) then
 qBD s0
 else
 bif (cutset1==([]:LU)) then
 qBD s0
 else
 bif ((cutset1.length:Int)==(1:Int)) then
 bif ((decide (0≤(0:Int)))&&(decide ((0:Int) < cutset1.length))) then
 bif (decide ((cutset1.getD (0:Int).toNat (0:UInt8)) < (128:UInt8))) then
 bif ((decide (0≤(0:Int)))&&(decide ((0:Int) < cutset1.length))) then
 bif ((qym s0 (cutset1.getD (0:Int).toNat (0:UInt8)))&&true) then
 qBD (z206 s0 (cutset1.getD (0:Int).toNat (0:UInt8)))
 else none
 else none
 else
 bif ((qeJ cutset1)&&true) then
 bif ((z167 cutset1).2) then
 bif ((qof s0 ((z167 cutset1).1))&&true) then
 qBD (z208 s0 ((z167 cutset1).1))
 else none
 else
 bif ((qyn s0 cutset1)&&true) then
 qBD (z210 s0 cutset1)
 else none
 else none
 else none
 else
 bif ((qeJ cutset1)&&true) then
 bif ((z167 cutset1).2) then
 bif ((qof s0 ((z167 cutset1).1))&&true) then
 qBD (z208 s0 ((z167 cutset1).1))
 else none
 else
 bif ((qyn s0 cutset1)&&true) then
 qBD (z210 s0 cutset1)
 else none
 else none
def qKV (_n:Nat) (s0:LU) (suffix1:LU):OA :=
 bif (decide ((suffix1.length:Int)≤(s0.length:Int))) then
 bif (((decide (0≤(wrap .i64 ((s0.length:Int) - (suffix1.length:Int)))))&&(decide ((wrap .i64 ((s0.length:Int) - (suffix1.length:Int)))≤(s0.length:Int))))&&(decide ((s0.length:Int)≤(s0.length:Int)))) then
 qBy (z194 (drop (wrap .i64 ((s0.length:Int) - (suffix1.length:Int))).toNat (take (s0.length:Int).toNat s0)) suffix1)
 else none
 else
 qBy false
def qrG (before4:LU) (found5:Bool):OA:=some (.tup [(da before4),(dg found5)])
def qKW (_n:Nat) (s0:LU) (suffix1:LU):OA :=
 bif ((qts s0 suffix1)&&true) then
 bif (!(z215 s0 suffix1)) then
 qrG s0 false
 else
 bif (((decide (0≤((0:Nat):Int)))&&(decide (((0:Nat):Int)≤(wrap .i64 ((s0.length:Int) - (suffix1.length:Int))))))&&(decide ((wrap .i64 ((s0.length:Int) - (suffix1.length:Int)))≤(s0.length:Int)))) then
 qrG (drop ((0:Nat):Int).toNat (take (wrap .i64 ((s0.length:Int) - (suffix1.length:Int))).toNat s0)) true
 else none
 else none
def qKX (_n:Nat) (l0:LU):OA :=
 bif ((qkA l0 ([32,9]:LU))&&true) then
 bif ((qtw (z172 l0 ([32,9]:LU)) ([(61:UInt8)]:LU))&&true) then
 qrG ((z173 (z172 l0 ([32,9]:LU)) ([(61:UInt8)]:LU)).1) ((z173 (z172 l0 ([32,9]:LU)) ([(61:UInt8)]:LU)).2)
 else none
 else none
def qS:=(bits .or .i64 (bits .or .i64 (0:Int) (1:Int)) (656:Int))
def qdG:=(bits .or .i64 (bits .or .i64 (0:Int) (1:Int)) (2:Int))
def qKY (_n:Nat) (c0:UInt8):OA :=
 bif (decide (c0 < (32:UInt8))) then bif (c0==(32:UInt8)) then qKR (qdG) else bif (c0==(9:UInt8)) then qKR (qdG) else bif (decide ((48:UInt8)≤c0)) then bif (decide (c0≤(57:UInt8))) then qKR (bits .or .i64 (bits .or .i64 (0:Int) (1:Int)) (648:Int)) else bif (decide ((65:UInt8)≤c0)) then bif (decide (c0≤(90:UInt8))) then bif (decide (c0≤(90:UInt8))) then qKR (qS) else qKR (bits .or .i64 (0:Int) (1:Int)) else bif (decide ((97:UInt8)≤c0)) then bif (decide (c0≤(122:UInt8))) then qKR (qS) else qKR (bits .or .i64 (0:Int) (1:Int)) else qKR (bits .or .i64 (0:Int) (1:Int)) else bif (decide ((97:UInt8)≤c0)) then bif (decide (c0≤(122:UInt8))) then qKR (qS) else qKR (bits .or .i64 (0:Int) (1:Int)) else qKR (bits .or .i64 (0:Int) (1:Int)) else bif (decide ((65:UInt8)≤c0)) then bif (decide (c0≤(90:UInt8))) then bif (decide (c0≤(90:UInt8))) then qKR (qS) else qKR (bits .or .i64 (0:Int) (1:Int)) else bif (decide ((97:UInt8)≤c0)) then bif (decide (c0≤(122:UInt8))) then qKR (qS) else qKR (bits .or .i64 (0:Int) (1:Int)) else qKR (bits .or .i64 (0:Int) (1:Int)) else bif (decide ((97:UInt8)≤c0)) then bif (decide (c0≤(122:UInt8))) then qKR (qS) else qKR (bits .or .i64 (0:Int) (1:Int)) else qKR (bits .or .i64 (0:Int) (1:Int)) else bif (c0==(127:UInt8)) then bif (c0==(32:UInt8)) then qKR (qdG) else bif (c0==(9:UInt8)) then qKR (qdG) else bif (decide ((48:UInt8)≤c0)) then bif (decide (c0≤(57:UInt8))) then qKR (bits .or .i64 (bits .or .i64 (0:Int) (1:Int)) (648:Int)) else bif (decide ((65:UInt8)≤c0)) then bif (decide (c0≤(90:UInt8))) then bif (decide (c0≤(90:UInt8))) then qKR (qS) else qKR (bits .or .i64 (0:Int) (1:Int)) else bif (decide ((97:UInt8)≤c0)) then bif (decide (c0≤(122:UInt8))) then qKR (qS) else qKR (bits .or .i64 (0:Int) (1:Int)) else qKR (bits .or .i64 (0:Int) (1:Int)) else bif (decide ((97:UInt8)≤c0)) then bif (decide (c0≤(122:UInt8))) then qKR (qS) else qKR (bits .or .i64 (0:Int) (1:Int)) else qKR (bits .or .i64 (0:Int) (1:Int)) else bif (decide ((65:UInt8)≤c0)) then bif (decide (c0≤(90:UInt8))) then bif (decide (c0≤(90:UInt8))) then qKR (qS) else qKR (bits .or .i64 (0:Int) (1:Int)) else bif (decide ((97:UInt8)≤c0)) then bif (decide (c0≤(122:UInt8))) then qKR (qS) else qKR (bits .or .i64 (0:Int) (1:Int)) else qKR (bits .or .i64 (0:Int) (1:Int)) else bif (decide ((97:UInt8)≤c0)) then bif (decide (c0≤(122:UInt8))) then qKR (qS) else qKR (bits .or .i64 (0:Int) (1:Int)) else qKR (bits .or .i64 (0:Int) (1:Int)) else bif (c0==(32:UInt8)) then qKR (bits .or .i64 (0:Int) (2:Int)) else bif (c0==(9:UInt8)) then qKR (bits .or .i64 (0:Int) (2:Int)) else bif (decide ((48:UInt8)≤c0)) then bif (decide (c0≤(57:UInt8))) then qKR (bits .or .i64 (0:Int) (648:Int)) else bif (decide ((65:UInt8)≤c0)) then bif (decide (c0≤(90:UInt8))) then bif (decide (c0≤(90:UInt8))) then qKR (bits .or .i64 (0:Int) (656:Int)) else qKR (0:Int) else bif (decide ((97:UInt8)≤c0)) then bif (decide (c0≤(122:UInt8))) then qKR (bits .or .i64 (0:Int) (656:Int)) else qKR (0:Int) else qKR (0:Int) else bif (decide ((97:UInt8)≤c0)) then bif (decide (c0≤(122:UInt8))) then qKR (bits .or .i64 (0:Int) (656:Int)) else qKR (0:Int) else qKR (0:Int) else bif (decide ((65:UInt8)≤c0)) then bif (decide (c0≤(90:UInt8))) then bif (decide (c0≤(90:UInt8))) then qKR (bits .or .i64 (0:Int) (656:Int)) else qKR (0:Int) else bif (decide ((97:UInt8)≤c0)) then bif (decide (c0≤(122:UInt8))) then qKR (bits .or .i64 (0:Int) (656:Int)) else qKR (0:Int) else qKR (0:Int) else bif (decide ((97:UInt8)≤c0)) then bif (decide (c0≤(122:UInt8))) then qKR (bits .or .i64 (0:Int) (656:Int)) else qKR (0:Int) else qKR (0:Int)
def qUD (_n:Nat) (s0:LU) (c1:UInt8):OA :=
 qKR (z164 s0 c1)
def qUE (_n:Nat) (s0:LU) (c1:UInt8):OA :=
 qKR (z236 s0 c1)
def qUF (_n:Nat) (s0:LU) (c1:UInt8):OA :=
 qBy (decide (0≤(z216 s0 c1)))
def qbp (c0:UInt8):=(bits .or .i64 (z228 c0) (4:Int))
def qdH (c0:UInt8):=(z229 ([40,41,60,62,64,44,59,58,92,34,47,91,93,63,61]:LU) c0)
def qbU (c0:UInt8):=(bits .or .i64 (qbp c0) (128:Int))
def qKZ (_n:Nat) (c0:UInt8):OA :=
 bif (decide (c0 < (33:UInt8))) then qKR (z228 c0) else bif (decide ((126:UInt8) < c0)) then qKR (z228 c0) else bif (z229 ([33,42,43,45,47]:LU) c0) then bif (z229 ([43,47]:LU) c0) then bif (qdH c0) then qKR (bits .or .i64 (bits .or .i64 (qbU c0) (512:Int)) (32:Int)) else bif (!(z229 ([42,39,37]:LU) c0)) then qKR (bits .or .i64 (bits .or .i64 (bits .or .i64 (qbU c0) (512:Int)) (64:Int)) (256:Int)) else qKR (bits .or .i64 (bits .or .i64 (qbU c0) (512:Int)) (64:Int)) else bif (qdH c0) then qKR (bits .or .i64 (qbU c0) (32:Int)) else bif (!(z229 ([42,39,37]:LU) c0)) then qKR (bits .or .i64 (bits .or .i64 (qbU c0) (64:Int)) (256:Int)) else qKR (bits .or .i64 (qbU c0) (64:Int)) else bif (z229 ([43,47]:LU) c0) then bif (qdH c0) then qKR (bits .or .i64 (bits .or .i64 (qbp c0) (512:Int)) (32:Int)) else bif (!(z229 ([42,39,37]:LU) c0)) then qKR (bits .or .i64 (bits .or .i64 (bits .or .i64 (qbp c0) (512:Int)) (64:Int)) (256:Int)) else qKR (bits .or .i64 (bits .or .i64 (qbp c0) (512:Int)) (64:Int)) else bif (qdH c0) then qKR (bits .or .i64 (qbp c0) (32:Int)) else bif (!(z229 ([42,39,37]:LU) c0)) then qKR (bits .or .i64 (bits .or .i64 (qbp c0) (64:Int)) (256:Int)) else qKR (bits .or .i64 (qbp c0) (64:Int))
def qUG (_n:Nat) (c0:UInt8) (kinds1:Int):OA :=
 qBy ((bits .and .i64 (z198 c0) kinds1) != (0:Int))
def qmi (s2:UInt8):OA:=some (dn s2)
def qLa (_n:Nat) (c0:UInt8):OA :=
 bif (decide ((65:UInt8)≤c0)) then
 bif (decide (c0≤(90:UInt8))) then
 qmi (c0 ||| (32:UInt8))
 else
 qmi c0
 else
 qmi c0
def qjk (s2:Int) (s3:Bool):OA:=some (.tup [(dc s2),(dg s3)])
def qLb (_n:Nat) (c0:UInt8):OA :=
 bif (z144 (z154 c0) (8:Int)) then
 qjk (wrap .i64 ((toNat ((z154 c0) - (48:UInt8)):Nat):Int)) true
 else
 bif (decide ((97:UInt8)≤(z154 c0))) then
 bif (decide ((z154 c0)≤(102:UInt8))) then
 qjk (wrap .i64 ((wrap .i64 ((toNat ((z154 c0) - (97:UInt8)):Nat):Int))+(10:Int))) true
 else
 qjk (0:Int) false
 else
 qjk (0:Int) false
def qmj (s4:UInt8) (s5:Bool):OA:=some (.tup [(dn s4),(dg s5)])
def qLc (_n:Nat) (a0:UInt8) (b1:UInt8):OA :=
 bif (!((z230 a0).2)) then
 qmj (0:UInt8) false
 else
 bif (!((z230 b1).2)) then
 qmj (0:UInt8) false
 else
 qmj (ofNat (wrap .u8 (bits .or .i64 (wrap .i64 (((z230 a0).1)*2 ^ (min (4:Int).toNat (IntKind.bits .i64)))) ((z230 b1).1))).toNat) true
def qjm (s0:LU) (at1:Int):=(z199 (s0.getD (wrap .i64 (at1+1)).toNat (0:UInt8)) (s0.getD (wrap .i64 (at1+(2:Int))).toNat (0:UInt8)))
def qLd (_n:Nat) (s0:LU) (at1:Int) (sign2:UInt8):OA :=
 bif (decide (at1 < (0:Int))) then qmj (0:UInt8) false else bif (decide ((wrap .i64 ((s0.length:Int) - (3:Int))) < at1)) then qmj (0:UInt8) false else bif ((decide (0≤at1))&&(decide (at1 < s0.length))) then bif ((s0.getD at1.toNat (0:UInt8)) != sign2) then qmj (0:UInt8) false else bif ((decide (0≤(wrap .i64 (at1+1))))&&(decide ((wrap .i64 (at1+1)) < s0.length))) then bif ((decide (0≤(wrap .i64 (at1+(2:Int)))))&&(decide ((wrap .i64 (at1+(2:Int))) < s0.length))) then qmj ((qjm s0 at1).1) ((qjm s0 at1).2) else none else none else none
def qBM (s2:LU) (s3:Int):OA:=some (.tup [(da s2),(dc s3)])
def qaY (l0:LU) (at6:Int):=([(l0.getD at6.toNat (0:UInt8))]:LU)
def qeg (k0:LU→Int→OA) (next:LU→LU→Int→Int→OA) (_n:Nat) (l0:LU) (out4:LU) (strange5:Int) (at6:Int):OA :=
 bif (decide (at6 < (l0.length:Int))) then bif ((qtd l0 at6 (61:UInt8))&&true) then bif ((z145 l0 at6 (61:UInt8)).2) then bif (decide (out4.length+length ([((z145 l0 at6 (61:UInt8)).1)]:LU)≤room)) then next l0 (out4++([((z145 l0 at6 (61:UInt8)).1)]:LU)) strange5 (wrap .i64 (at6+(3:Int))) else none else bif ((decide (0≤at6))&&(decide (at6 < l0.length))) then bif ((l0.getD at6.toNat (0:UInt8))==(61:UInt8)) then bif ((decide (0≤at6))&&(decide (at6 < l0.length))) then bif (decide (out4.length+length (qaY l0 at6)≤room)) then next l0 (out4++(qaY l0 at6)) (wrap .i64 (strange5+1)) (wrap .i64 (at6+1)) else none else none else bif ((decide (0≤at6))&&(decide (at6 < l0.length))) then bif (decide (out4.length+length (qaY l0 at6)≤room)) then next l0 (out4++(qaY l0 at6)) strange5 (wrap .i64 (at6+1)) else none else none else none else none else k0 out4 strange5
def qkB (k0:LU→Int→OA):Nat→LU→LU→Int→Int→OA
 | 0=>fun _ _ _ _=>none
 | n+1=>qeg k0 (qkB k0 n) n
def qmk (_n:Nat) (out4:LU) (strange5:Int):OA :=
 qBM out4 strange5
def qtZ (n:Nat) (l0:LU):OA :=
 qkB (qmk n) n l0 ([]:LU) (0:Int) (0:Int)
def qUH (_n:Nat) (l0:LU):OA :=
 bif ((qtQ l0)&&true) then
 bif ((qtR ((z111 l0).1))&&true) then
 qrG ((z112 ((z111 l0).1)).1) ((z111 l0).2)
 else none
 else none
def qrH (n:Nat) (x:Bool×LU×Unit) (y0:LU) (y1:LU):Bool×Bool×(Bool×LU×Unit) :=
 bif x.1 then (false,false,x) else yfin (.pair (.sl .byte) .unit) x (
 bif ((qHG y0)&&true) then
 bif (decide (length x.2.1+length ((z53 y0).1)≤room)) then
 bif (!((z53 y0).2)) then
 bif (decide (length (x.2.1++((z53 y0).1))+y1.length≤room)) then
 some (.dat (.pair .bool (.pair (.sl .byte) .unit)) (false,(((x.2.1++((z53 y0).1))++y1),())) none)
 else none
 else
 some (.dat (.pair .bool (.pair (.sl .byte) .unit)) (false,((x.2.1++((z53 y0).1)),())) none)
 else none
 else none)
def qPg (n:Nat) (s0:LU):OA :=
 bif (z108 (qrH n) (false,(([]:LU),())) s0).1 then
 bif (z108 (qrH n) (false,(([]:LU),())) s0).2.1.1 then
 qBD ([]:LU)
 else
 qBD (z108 (qrH n) (false,(([]:LU),())) s0).2.1.2.1
 else none
def qjn (c0:UInt8):=(z216 ([65,66,67,68,69,70,71,72,73,74,75,76,77,78,79,80,81,82,83,84,85,86,87,88,89,90,97,98,99,100,101,102,103,104,105,106,107,108,109,110,111,112,113,114,115,116,117,118,119,120,121,122,48,49,50,51,52,53,54,55,56,57,43,47]:LU) c0)
def qUI (_n:Nat) (c0:UInt8):OA :=
 qjk (bif (decide ((0:Int) > (qjn c0))) then (0:Int) else (qjn c0)) (decide (0≤(qjn c0)))
def qp (s7:LU) (s9:Int):=(s7.getD s9.toNat (0:UInt8))
def qeh (V:Sigma Inv) (ret:Den V.1→LU→OA) (k0:Den V.1→LU→OA) (next:LU→Int→Int→Den V.1→LU→OA) (_n:Nat) (s7:LU) (s8:Int) (s9:Int) (xv:Den V.1) (s29:LU):OA :=
 bif (decide (s9 < s8)) then bif ((decide (0≤s9))&&(decide (s9 < s7.length))) then bif ((qp s7 s9)==(61:UInt8)) then ret xv s29 else bif (!((z175 (qp s7 s9)).2)) then bif (V.2.spec xv [⟨.byte,(qp s7 s9)⟩,⟨(.int .i64),(-1:Int)⟩]).1 then bif (!(V.2.spec xv [⟨.byte,(qp s7 s9)⟩,⟨(.int .i64),(-1:Int)⟩]).2.1) then ret (V.2.spec xv [⟨.byte,(qp s7 s9)⟩,⟨(.int .i64),(-1:Int)⟩]).2.2 s29 else next s7 s8 (wrap .i64 (s9+1)) (V.2.spec xv [⟨.byte,(qp s7 s9)⟩,⟨(.int .i64),(-1:Int)⟩]).2.2 s29 else none else bif (V.2.spec xv [⟨.byte,(qp s7 s9)⟩,⟨(.int .i64),((z175 (qp s7 s9)).1)⟩]).1 then bif (!(V.2.spec xv [⟨.byte,(qp s7 s9)⟩,⟨(.int .i64),((z175 (qp s7 s9)).1)⟩]).2.1) then ret (V.2.spec xv [⟨.byte,(qp s7 s9)⟩,⟨(.int .i64),((z175 (qp s7 s9)).1)⟩]).2.2 s29 else next s7 s8 (wrap .i64 (s9+1)) (V.2.spec xv [⟨.byte,(qp s7 s9)⟩,⟨(.int .i64),((z175 (qp s7 s9)).1)⟩]).2.2 s29 else none else none else k0 xv s29
def qhv (V:Sigma Inv) (ret:Den V.1→LU→OA) (k0:Den V.1→LU→OA):Nat→LU→Int→Int→Den V.1→LU→OA
 | 0=>fun _ _ _ _ _=>none
 | n+1=>(qeh V) ret k0 ((qhv V) ret k0 n) n
def qfN (V:Sigma Inv) (_n:Nat) (xv:Den V.1) (s29:LU):OA :=
 (qji V) xv s29
def qua (V:Sigma Inv) (n:Nat) (x0:Den V.1) (x1:LU):OA :=
 (qhv V) (qji V) ((qfN V) n) n x1 (x1.length:Int) (0:Int) x0 x1
def qUJ (_n:Nat) (s0:LU):OA :=
 some (.abs (qdy [.leaf (.sl .byte)]) (clInv 174 [.leaf (.sl .byte)]) (s0,()))
def qoV (n:Nat) (x:Bool×LU×Int×Int×Unit) (y0:UInt8) (y1:Int):Bool×Bool×(Bool×LU×Int×Int×Unit) :=
 bif x.1 then (false,false,x) else yfin (.pair (.sl .byte) (.pair (.int .i64) (.pair (.int .i64) .unit))) x (
 bif (decide (y1 < (0:Int))) then
 some (.dat (.pair .bool (.pair (.sl .byte) (.pair (.int .i64) (.pair (.int .i64) .unit)))) (false,(x.2.1,(x.2.2.1,(x.2.2.2.1,())))) none)
 else
 bif (decide ((8:Int)≤(wrap .i64 (x.2.2.2.1+(6:Int))))) then
 bif (decide (0≤(wrap .i64 ((wrap .i64 (x.2.2.2.1+(6:Int))) - (8:Int))))) then
 bif (decide (length x.2.1+length ([(ofNat (wrap .u8 (Int.fdiv (bits .or .i64 (wrap .i64 (x.2.2.1*2 ^ (min (6:Int).toNat (IntKind.bits .i64)))) y1) (2 ^ (min (wrap .i64 ((wrap .i64 (x.2.2.2.1+(6:Int))) - (8:Int))).toNat (IntKind.bits .i64))))).toNat)]:LU)≤room)) then
 bif (decide (0≤(wrap .i64 ((wrap .i64 (x.2.2.2.1+(6:Int))) - (8:Int))))) then
 some (.dat (.pair .bool (.pair (.sl .byte) (.pair (.int .i64) (.pair (.int .i64) .unit)))) (false,((x.2.1++([(ofNat (wrap .u8 (Int.fdiv (bits .or .i64 (wrap .i64 (x.2.2.1*2 ^ (min (6:Int).toNat (IntKind.bits .i64)))) y1) (2 ^ (min (wrap .i64 ((wrap .i64 (x.2.2.2.1+(6:Int))) - (8:Int))).toNat (IntKind.bits .i64))))).toNat)]:LU)),((bits .and .i64 (bits .or .i64 (wrap .i64 (x.2.2.1*2 ^ (min (6:Int).toNat (IntKind.bits .i64)))) y1) (wrap .i64 ((wrap .i64 ((1:Int)*2 ^ (min (wrap .i64 ((wrap .i64 (x.2.2.2.1+(6:Int))) - (8:Int))).toNat (IntKind.bits .i64)))) - (1:Int)))),((wrap .i64 ((wrap .i64 (x.2.2.2.1+(6:Int))) - (8:Int))),())))) none)
 else none
 else none
 else none
 else
 some (.dat (.pair .bool (.pair (.sl .byte) (.pair (.int .i64) (.pair (.int .i64) .unit)))) (false,(x.2.1,((bits .or .i64 (wrap .i64 (x.2.2.1*2 ^ (min (6:Int).toNat (IntKind.bits .i64)))) y1),((wrap .i64 (x.2.2.2.1+(6:Int))),())))) none))
def qfO (n:Nat) (s0:LU):=(z174 (qoV n) (false,(([]:LU),((0:Int),((0:Int),())))) s0)
def qic (n:Nat) (s0:LU):=( qBM (qfO n s0).2.1.2.1 (qfO n s0).2.1.2.2.2.1)
def qPh (n:Nat) (s0:LU):OA :=
 bif (qfO n s0).1 then bif (qfO n s0).2.1.1 then qBM ([]:LU) (0:Int) else both ( both (qic n s0) (qic n s0)) (qic n s0) else none
def qUK (_n:Nat) (s0:LU):OA :=
 bif ((qEX s0)&&true) then
 qBD ((z54 s0).1)
 else none
def qBP (s2:LI):OA:=some (.dat (.sl (.int .i32)) s2 (some (2,21)))
def qgz (k0:LI→OA) (next:LI→LU→Int→Int→OA) (_n:Nat) (t3:LI) (s9:LU) (s10:Int) (s11:Int):OA :=
 bif (decide (s11 < s10)) then
 bif ((decide (0≤s11))&&(decide (s11 < s9.length))) then
 bif ((decide (0≤s11))&&(decide (s11 < t3.length))) then
 next (set t3 s11.toNat (wrap .i32 ((toNat (s9.getD s11.toNat (0:UInt8)):Nat):Int))) s9 s10 (wrap .i64 (s11+1))
 else none
 else none
 else
 k0 t3
def qws (k0:LI→OA):Nat→LI→LU→Int→Int→OA
 | 0=>fun _ _ _ _=>none
 | n+1=>qgz k0 (qws k0 n) n
def qrJ (_n:Nat) (t3:LI):OA :=
 qBP t3
def qHK (n:Nat) (s0:LU):OA :=
 bif (((decide (0≤(s0.length:Int)))&&(decide ((s0.length:Int)≤(s0.length:Int))))&&(decide ((s0.length:Int)≤(room:Int)))) then
 qws (qrJ n) n (replicate (s0.length:Int).toNat 0) s0 (s0.length:Int) (0:Int)
 else none
def qrK (s2:Int):OA:=some (di s2)
def qLg (_n:Nat) (c0:Int):OA :=
 bif (decide ((128:Int)≤c0)) then
 qrK (65533:Int)
 else
 qrK c0
def qgA (k0:LI→OA) (next:LI→Int→Int→OA) (_n:Nat) (t3:LI) (s10:Int) (s11:Int):OA :=
 bif (decide (s11 < s10)) then
 bif ((decide (0≤s11))&&(decide (s11 < t3.length))) then
 bif ((decide (0≤s11))&&(decide (s11 < t3.length))) then
 next (set t3 s11.toNat (z114 (t3.getD s11.toNat 0))) s10 (wrap .i64 (s11+1))
 else none
 else none
 else
 k0 t3
def qwt (k0:LI→OA):Nat→LI→Int→Int→OA
 | 0=>fun _ _ _=>none
 | n+1=>qgA k0 (qwt k0 n) n
def qrL (_n:Nat) (t3:LI):OA :=
 qBP t3
def qHL (n:Nat) (s0:LU):OA :=
 bif ((qvN s0)&&true) then
 qwt (qrL n) n (z59 s0) ((z59 s0).length:Int) (0:Int)
 else none
def qBR (s0:List (UInt8×(Int×Unit))):OA:=some (.dat (.arr 8 (.pair .byte (.pair (.int .i32) .unit))) s0 none)
def qUL (_n:Nat):OA :=
 qBR ([((164:UInt8),((8364:Int),())),((166:UInt8),((352:Int),())),((168:UInt8),((353:Int),())),((180:UInt8),((381:Int),())),((184:UInt8),((382:Int),())),((188:UInt8),((338:Int),())),((189:UInt8),((339:Int),())),((190:UInt8),((376:Int),()))]:List (UInt8×(Int×Unit)))
def qub (ret:Int→OA) (k0:UInt8→OA) (next:UInt8→List (UInt8×(Int×Unit))→Int→OA) (_n:Nat) (x0:UInt8) (s5:List (UInt8×(Int×Unit))) (s6:Int):OA :=
 bif (decide (s6 < (8:Int))) then
 bif ((decide (0≤s6))&&(decide (s6 < (8:Nat)))) then
 bif ((s5.getD s6.toNat ((0:UInt8),((0:Int),()))).1==x0) then
 ret (s5.getD s6.toNat ((0:UInt8),((0:Int),()))).2.1
 else
 next x0 s5 (wrap .i64 (s6+1))
 else none
 else
 k0 x0
def qoW (ret:Int→OA) (k0:UInt8→OA):Nat→UInt8→List (UInt8×(Int×Unit))→Int→OA
 | 0=>fun _ _ _=>none
 | n+1=>qub ret k0 (qoW ret k0 n) n
def quc (_n:Nat) (x0:UInt8):OA :=
 qrK (wrap .i32 ((toNat x0:Nat):Int))
def qud (n:Nat) (x0:UInt8):OA :=
 qoW qrK (quc n) n x0 z176 (0:Int)
def qgB (k0:LI→OA) (next:LI→LU→Int→Int→OA) (_n:Nat) (t3:LI) (s6:LU) (s7:Int) (s8:Int):OA :=
 bif (decide (s8 < s7)) then
 bif ((decide (0≤s8))&&(decide (s8 < s6.length))) then
 bif (decide (t3.length+length ([(z115 (s6.getD s8.toNat (0:UInt8)))]:LI)≤room)) then
 next (t3++([(z115 (s6.getD s8.toNat (0:UInt8)))]:LI)) s6 s7 (wrap .i64 (s8+1))
 else none
 else none
 else
 k0 t3
def qwu (k0:LI→OA):Nat→LI→LU→Int→Int→OA
 | 0=>fun _ _ _ _=>none
 | n+1=>qgB k0 (qwu k0 n) n
def qml (_n:Nat) (t3:LI):OA :=
 qBP t3
def qHM (n:Nat) (s0:LU):OA :=
 qwu (qml n) n ([]:LI) s0 (s0.length:Int) (0:Int)
def qBS (s0:LI):OA:=some (.dat (.sl (.int .i32)) s0 none)
def qLi (_n:Nat):OA :=
 qBS (drop 0 (take 32 ([(8364:Int),(0:Int),(8218:Int),(402:Int),(8222:Int),(8230:Int),(8224:Int),(8225:Int),(710:Int),(8240:Int),(352:Int),(8249:Int),(338:Int),(0:Int),(381:Int),(0:Int),(0:Int),(8216:Int),(8217:Int),(8220:Int),(8221:Int),(8226:Int),(8211:Int),(8212:Int),(732:Int),(8482:Int),(353:Int),(8250:Int),(339:Int),(0:Int),(382:Int),(376:Int)]:LI)))
def qdI (x0:UInt8):=((toNat (x0 - (128:UInt8)):Nat):Int)
def qLj (_n:Nat) (x0:UInt8):OA :=
 bif (decide (x0 < (128:UInt8))) then qrK (wrap .i32 ((toNat x0:Nat):Int)) else bif (decide ((160:UInt8)≤x0)) then qrK (wrap .i32 ((toNat x0:Nat):Int)) else bif ((decide (0≤(qdI x0)))&&(decide ((qdI x0) < z177.length))) then bif ((z177.getD (qdI x0).toNat 0) != (0:Int)) then qrK (z177.getD (qdI x0).toNat 0) else qrK (65533:Int) else none
def qgC (k0:LI→OA) (next:LI→LU→Int→Int→OA) (_n:Nat) (t3:LI) (s9:LU) (s10:Int) (s11:Int):OA :=
 bif (decide (s11 < s10)) then
 bif ((decide (0≤s11))&&(decide (s11 < s9.length))) then
 bif (decide (t3.length+length ([(z116 (s9.getD s11.toNat (0:UInt8)))]:LI)≤room)) then
 next (t3++([(z116 (s9.getD s11.toNat (0:UInt8)))]:LI)) s9 s10 (wrap .i64 (s11+1))
 else none
 else none
 else
 k0 t3
def qwv (k0:LI→OA):Nat→LI→LU→Int→Int→OA
 | 0=>fun _ _ _ _=>none
 | n+1=>qgC k0 (qwv k0 n) n
def qmm (_n:Nat) (t3:LI):OA :=
 qBP t3
def qHN (n:Nat) (s0:LU):OA :=
 bif (((decide (0≤(0:Int)))&&(decide (0≤(s0.length:Int))))&&(decide ((s0.length:Int)≤(room:Int)))) then
 qwv (qmm n) n (replicate (0:Int).toNat 0) s0 (s0.length:Int) (0:Int)
 else none
def qrM (s13:LI):OA:=some (.tup [(.tup []),.bad,.bad,(.pbox (.osl 21 (.int .i32)) s13 none)])
def qBT (_n:Nat) (c0:Int) (e1:Int) (x2:LI):OA :=
 bif (e1 != (0:Int)) then
 bif (decide (x2.length+length ([(65533:Int)]:LI)≤room)) then
 qrM (x2++([(65533:Int)]:LI))
 else none
 else
 bif (decide (x2.length+length ([c0]:LI)≤room)) then
 qrM (x2++([c0]:LI))
 else none
def qLl (_n:Nat) (n0:Int):OA :=
 bif (n0==(2:Int)) then
 qmi (192:UInt8)
 else
 bif (n0==(3:Int)) then
 qmi (224:UInt8)
 else
 bif (n0==(4:Int)) then
 qmi (240:UInt8)
 else
 qmi (0:UInt8)
def qLm (_n:Nat) (c0:UInt8):OA :=
 bif (decide (c0 < (128:UInt8))) then
 qKR (1:Int)
 else
 bif (decide (c0 < (194:UInt8))) then
 qKR (0:Int)
 else
 bif (decide ((244:UInt8) < c0)) then
 qKR (0:Int)
 else
 bif (decide (c0 < (224:UInt8))) then
 qKR (2:Int)
 else
 bif (decide (c0 < (240:UInt8))) then
 qKR (3:Int)
 else
 qKR (4:Int)
def qLn (_n:Nat) (c0:UInt8):OA :=
 qBy ((c0 &&& ~~~ (63:UInt8))==(128:UInt8))
def qLo (_n:Nat) (first0:UInt8) (c1:UInt8):OA :=
 bif (first0==(224:UInt8)) then
 bif (decide ((160:UInt8)≤c1)) then
 qBy (z237 c1)
 else
 qBy false
 else
 bif (first0==(237:UInt8)) then
 bif (decide (c1 < (160:UInt8))) then
 qBy (z237 c1)
 else
 qBy false
 else
 bif (first0==(240:UInt8)) then
 bif (decide ((144:UInt8)≤c1)) then
 qBy (z237 c1)
 else
 qBy false
 else
 bif (first0==(244:UInt8)) then
 bif (decide (c1 < (144:UInt8))) then
 qBy (z237 c1)
 else
 qBy false
 else
 qBy (z237 c1)
def qco (ret:Int→OA) (k0:LU→Int→OA) (next:LU→Int→OA) (_n:Nat) (s0:LU) (n3:Int):OA :=
 bif ((decide (0≤(0:Int)))&&(decide ((0:Int) < s0.length))) then
 bif (decide (n3 < (z218 (s0.getD (0:Int).toNat (0:UInt8))))) then
 bif (decide (n3 < (s0.length:Int))) then
 bif ((decide (0≤n3))&&(decide (n3 < s0.length))) then
 bif (!(z237 (s0.getD n3.toNat (0:UInt8)))) then
 ret n3
 else
 bif (n3==(1:Int)) then
 bif ((decide (0≤(0:Int)))&&(decide ((0:Int) < s0.length))) then
 bif ((decide (0≤(1:Int)))&&(decide ((1:Int) < s0.length))) then
 bif (!(z238 (s0.getD (0:Int).toNat (0:UInt8)) (s0.getD (1:Int).toNat (0:UInt8)))) then
 ret n3
 else
 next s0 (wrap .i64 (n3+1))
 else none
 else none
 else
 next s0 (wrap .i64 (n3+1))
 else none
 else
 k0 s0 n3
 else
 k0 s0 n3
 else none
def qjq (ret:Int→OA) (k0:LU→Int→OA):Nat→LU→Int→OA
 | 0=>fun _ _=>none
 | n+1=>qco ret k0 (qjq ret k0 n) n
def qaP (_n:Nat) (s0:LU) (n3:Int):OA :=
 bif ((decide (0≤(0:Int)))&&(decide ((0:Int) < s0.length))) then
 qKR (bif (decide ((z218 (s0.getD (0:Int).toNat (0:UInt8))) < n3)) then (z218 (s0.getD (0:Int).toNat (0:UInt8))) else n3)
 else none
def que (n:Nat) (s0:LU):OA :=
 qjq qKR (qaP n) n s0 (1:Int)
def qcW (s2:Int) (s3:Int) (s4:Int):OA:=some (.tup [(di s2),(dc s3),(dc s4)])
def qcF (k1:Int→Int→OA) (next:Int→Int→LU→Int→Int→OA) (_n:Nat) (n5:Int) (c6:Int) (s48:LU) (s49:Int) (s50:Int):OA :=
 bif (decide (s50 < s49)) then
 bif ((decide (0≤s50))&&(decide (s50 < s48.length))) then
 next n5 (bits .or .i32 (wrap .i32 (c6*2 ^ (min (6:Int).toNat (IntKind.bits .i32)))) (wrap .i32 ((toNat ((s48.getD s50.toNat (0:UInt8)) &&& (63:UInt8)):Nat):Int))) s48 s49 (wrap .i64 (s50+1))
 else none
 else
 k1 n5 c6
def qfb (k1:Int→Int→OA):Nat→Int→Int→LU→Int→Int→OA
 | 0=>fun _ _ _ _ _=>none
 | n+1=>qcF k1 (qfb k1 n) n
def qfP (_n:Nat) (n5:Int) (c6:Int):OA :=
 qcW c6 n5 (0:Int)
def qbW (s0:LU):=((decide (0≤(0:Int)))&&(decide ((0:Int) < s0.length)))
def qcG (s0:LU):=(drop (1:Int).toNat (take (z217 s0).toNat s0))
def qdJ (s0:LU):=(decide ((z217 s0) < (z218 (s0.getD (0:Int).toNat (0:UInt8)))))
def qfQ (s0:LU):=(((decide (0≤(1:Int)))&&(decide ((1:Int)≤(z217 s0))))&&(decide ((z217 s0)≤(s0.length:Int))))
def qfR (s0:LU):=(wrap .i32 ((toNat ((s0.getD (0:Int).toNat (0:UInt8)) &&& ~~~ (z185 (z217 s0))):Nat):Int))
def quf (n:Nat) (s0:LU):OA :=
 bif ((s0.length:Int)==(0:Int)) then qcW (0:Int) (0:Int) (4:Int) else bif ((qkv s0)&&true) then bif ((z217 s0)==(0:Int)) then qcW (0:Int) (1:Int) (3:Int) else bif (qbW s0) then bif (qdJ s0) then bif ((z217 s0)==(s0.length:Int)) then qcW (0:Int) (z217 s0) (4:Int) else bif (qbW s0) then bif (qdJ s0) then qcW (0:Int) (z217 s0) (3:Int) else bif (qbW s0) then bif (qfQ s0) then qfb (qfP n) n (z217 s0) (qfR s0) (qcG s0) ((qcG s0).length:Int) (0:Int) else none else none else none else bif (qbW s0) then bif (qdJ s0) then qcW (0:Int) (z217 s0) (3:Int) else bif (qbW s0) then bif (qfQ s0) then qfb (qfP n) n (z217 s0) (qfR s0) (qcG s0) ((qcG s0).length:Int) (0:Int) else none else none else none else none else none
def qbb (s24:LI):OA:=some (.tup [(.tup []),.bad,(.pbox (.osl 21 (.int .i32)) s24 none)])
def qcX (k0:LI→OA) (next:LU→LI→OA) (_n:Nat) (s0:LU) (s24:LI):OA :=
 bif (decide ((0:Int) < (s0.length:Int))) then
 bif ((qtp s0)&&true) then
 bif (qtt ((z178 s0).1) ((z178 s0).2.2) s24) then
 bif (((decide (0≤((z178 s0).2.1)))&&(decide (((z178 s0).2.1)≤(s0.length:Int))))&&(decide ((s0.length:Int)≤(s0.length:Int)))) then
 next (drop ((z178 s0).2.1).toNat (take (s0.length:Int).toNat s0)) (z118 ((z178 s0).1) ((z178 s0).2.2) s24)
 else none
 else none
 else none
 else
 k0 s24
def qbX (k0:LI→OA):Nat→LU→LI→OA
 | 0=>fun _ _=>none
 | n+1=>qcX k0 (qbX k0 n) n
def qcY (_n:Nat) (s24:LI):OA :=
 qbb s24
def qjr (n:Nat) (s0:LU) (f1:LI):OA :=
 qbX (qcY n) n s0 f1
def qPi (_n:Nat) (s0:LU):OA :=
 bif (qcB s0 ([]:LI)) then
 qBS (qyk s0 ([]:LI))
 else none
def qUM (_n:Nat) (charset0:Int) (s1:LU):OA :=
 bif (charset0==(1:Int)) then
 bif ((qET s1)&&true) then
 qBS (z55 s1)
 else none
 else
 bif (charset0==(3:Int)) then
 bif ((qER s1)&&true) then
 qBS (z56 s1)
 else none
 else
 bif (charset0==(4:Int)) then
 bif ((qES s1)&&true) then
 qBS (z57 s1)
 else none
 else
 bif (charset0==(5:Int)) then
 bif ((qEQ s1)&&true) then
 qBS (z58 s1)
 else none
 else
 bif ((qvN s1)&&true) then
 qBS (z59 s1)
 else none
def qUN (_n:Nat) (coding0:Int) (charset1:Int) (s2:LU):OA :=
 bif (coding0==(2:Int)) then
 bif ((qHH s2)&&true) then
 bif ((qob charset1 (z27 s2))&&true) then
 qBS (z29 charset1 (z27 s2))
 else none
 else none
 else
 bif (coding0==(3:Int)) then
 bif ((qEY s2)&&true) then
 bif ((qob charset1 (z28 s2))&&true) then
 qBS (z29 charset1 (z28 s2))
 else none
 else none
 else
 bif ((qob charset1 s2)&&true) then
 qBS (z29 charset1 s2)
 else none
def qXs (_n:Nat) (c0:UInt8):OA :=
 qBy (decide ((128:UInt8)≤c0))
def qid (ret:Int→OA) (next:LU→LU→Int→OA) (_n:Nat) (s0:LU) (sep1:LU) (n5:Int):OA :=
 bif ((qiW s0 sep1)&&true) then
 bif ((z143 s0 sep1)==(-1:Int)) then
 ret n5
 else
 bif (((decide (0≤(wrap .i64 ((z143 s0 sep1)+(sep1.length:Int)))))&&(decide ((wrap .i64 ((z143 s0 sep1)+(sep1.length:Int)))≤(s0.length:Int))))&&(decide ((s0.length:Int)≤(s0.length:Int)))) then
 next (drop (wrap .i64 ((z143 s0 sep1)+(sep1.length:Int))).toNat (take (s0.length:Int).toNat s0)) sep1 (wrap .i64 (n5+1))
 else none
 else none
def qkD (ret:Int→OA):Nat→LU→LU→Int→OA
 | 0=>fun _ _ _=>none
 | n+1=>qid ret (qkD ret n) n
def quh (n:Nat) (s0:LU) (sep1:LU):OA :=
 bif ((sep1.length:Int)==(0:Int)) then
 bif ((qKG s0)&&true) then
 qKR (wrap .i64 ((z192 s0)+1))
 else none
 else
 bif ((sep1.length:Int)==(1:Int)) then
 bif ((decide (0≤(0:Int)))&&(decide ((0:Int) < sep1.length))) then
 qKR (z193 s0 (sep1.getD (0:Int).toNat (0:UInt8)))
 else none
 else
 qkD qKR n s0 sep1 (0:Int)
def qBV (s3:Int) (s9:LU):OA:=some (.tup [(dc s3),.bad,(.pbox (.leaf (.sl .byte)) s9 none)])
def qBW (_n:Nat) (c0:UInt8) (x1:LU):OA :=
 bif ((qfH x1 ([c0]:LU))&&true) then
 qBV (z139 x1 ([c0]:LU)) x1
 else none
def qPj (_n:Nat) (s0:LU):OA :=
 bif ((qfH s0 ([(13:UInt8),(10:UInt8)]:LU))&&true) then
 bif (qky (13:UInt8) s0) then
 bif (qky (10:UInt8) ((z140 (13:UInt8) s0).2)) then
 qKR (wrap .i64 ((wrap .i64 (((z140 (13:UInt8) s0).1)+((z140 (10:UInt8) ((z140 (13:UInt8) s0).2)).1))) - (wrap .i64 ((2:Int)*(z139 s0 ([(13:UInt8),(10:UInt8)]:LU))))))
 else none
 else none
 else none
def qBX (before4:LU) (after5:LU) (found6:Bool):OA:=some (.tup [(da before4),(da after5),(dg found6)])
def qUO (_n:Nat) (s0:LU) (sep1:LU):OA :=
 bif ((qiW s0 sep1)&&true) then
 bif (decide (0≤(z143 s0 sep1))) then
 bif (((decide (0≤((0:Nat):Int)))&&(decide (((0:Nat):Int)≤(z143 s0 sep1))))&&(decide ((z143 s0 sep1)≤(s0.length:Int)))) then
 bif (((decide (0≤(wrap .i64 ((z143 s0 sep1)+(sep1.length:Int)))))&&(decide ((wrap .i64 ((z143 s0 sep1)+(sep1.length:Int)))≤(s0.length:Int))))&&(decide ((s0.length:Int)≤(s0.length:Int)))) then
 qBX (drop ((0:Nat):Int).toNat (take (z143 s0 sep1).toNat s0)) (drop (wrap .i64 ((z143 s0 sep1)+(sep1.length:Int))).toNat (take (s0.length:Int).toNat s0)) true
 else none
 else none
 else
 qBX s0 ([]:LU) false
 else none
def qBY (s2:List LU):OA:=some (.dat (.sl (.sl .byte)) s2 (some (2,24)))
def qbc:=([(13:UInt8),(10:UInt8)]:LU)
def qie (k0:List LU→OA) (next:LU→List LU→OA) (_n:Nat) (s0:LU) (out3:List LU):OA :=
 bif (decide ((0:Int) < (s0.length:Int))) then bif ((qvO s0 (qbc))&&true) then bif ((qeK ((z82 s0 (qbc)).1))&&true) then bif (decide (out3.length+length ([(z153 ((z82 s0 (qbc)).1))]:List LU)≤room)) then next ((z82 s0 (qbc)).2.1) (out3++([(z153 ((z82 s0 (qbc)).1))]:List LU)) else none else none else none else k0 out3
def qhw (k0:List LU→OA):Nat→LU→List LU→OA
 | 0=>fun _ _=>none
 | n+1=>qie k0 (qhw k0 n) n
def qui (_n:Nat) (out3:List LU):OA :=
 qBY out3
def quj (n:Nat) (s0:LU):OA :=
 qhw (qui n) n s0 ([]:List LU)
def qgE (k0:Int→OA) (next:Int→List LU→Int→Int→OA) (_n:Nat) (n3:Int) (s7:List LU) (s8:Int) (s9:Int):OA :=
 bif (decide (s9 < s8)) then
 bif ((decide (0≤s9))&&(decide (s9 < s7.length))) then
 next (bif (decide (((s7.getD s9.toNat ([]:LU)).length:Int) > n3)) then ((s7.getD s9.toNat ([]:LU)).length:Int) else n3) s7 s8 (wrap .i64 (s9+1))
 else none
 else
 k0 n3
def qoX (k0:Int→OA):Nat→Int→List LU→Int→Int→OA
 | 0=>fun _ _ _ _=>none
 | n+1=>qgE k0 (qoX k0 n) n
def qrN (_n:Nat) (n3:Int):OA :=
 qKR n3
def qHO (n:Nat) (s0:LU):OA :=
 bif ((qtK s0)&&true) then
 qoX (qrN n) n (0:Int) (z142 s0) ((z142 s0).length:Int) (0:Int)
 else none
def qgF (k0:LU→Int→Bool→OA) (next:LU→Int→Bool→LU→Int→Int→OA) (_n:Nat) (s0:LU) (most1:Int) (above6:Bool) (s9:LU) (s10:Int) (s11:Int):OA :=
 bif (decide (s11 < s10)) then
 bif ((decide (0≤s11))&&(decide (s11 < s9.length))) then
 bif above6 then
 next s0 most1 true s9 s10 (wrap .i64 (s11+1))
 else
 next s0 most1 (z78 (s9.getD s11.toNat (0:UInt8))) s9 s10 (wrap .i64 (s11+1))
 else none
 else
 k0 s0 most1 above6
def qoY (k0:LU→Int→Bool→OA):Nat→LU→Int→Bool→LU→Int→Int→OA
 | 0=>fun _ _ _ _ _ _=>none
 | n+1=>qgF k0 (qoY k0 n) n
def qmn (_n:Nat) (s0:LU) (most1:Int) (above6:Bool):OA :=
 bif ((qHr s0)&&true) then
 bif (decide ((0:Int) < (z79 s0))) then
 qKR (8:Int)
 else
 bif (decide (0≤(z80 s0 (0:UInt8)))) then
 qKR (8:Int)
 else
 bif above6 then
 qKR (9:Int)
 else
 bif (decide ((0:Int) < (s0.length:Int))) then
 bif ((qHt s0)&&true) then
 bif (decide (most1 < (z81 s0))) then
 qKR (12:Int)
 else
 qKR (0:Int)
 else none
 else
 qKR (0:Int)
 else none
def qPk (n:Nat) (s0:LU) (most1:Int):OA :=
 qoY (qmn n) n s0 most1 false s0 (s0.length:Int) (0:Int)
def qUP (_n:Nat) (s0:LU):OA :=
 bif ((qwb s0 (76:Int))&&true) then
 qBM s0 (z37 s0 (76:Int))
 else none
def qrO (s25:LU×(Int×Unit)):OA:=some (.tup [(.tup []),(.pbox (.ppair (.osl 5 .byte) (.ppair (.leaf (.int .i64)) (.leaf .unit))) s25 none),.bad])
def qcH (p0:LU×(Int×Unit)):=((p0.1++([(61:UInt8)]:LU)),p0.2)
def qBZ (_n:Nat) (p0:LU×(Int×Unit)) (soft1:Bool):OA :=
 bif soft1 then bif (decide (length p0.1+length ([(61:UInt8)]:LU)≤room)) then bif (decide (length (qcH p0).1+length ([13,10]:LU)≤room)) then qrO ((((qcH p0).1++([13,10]:LU)),(qcH p0).2).1,((0:Int),(((qcH p0).1++([13,10]:LU)),(qcH p0).2).2.2)) else none else none else bif (decide (length p0.1+length ([13,10]:LU)≤room)) then qrO (((p0.1++([13,10]:LU)),p0.2).1,((0:Int),((p0.1++([13,10]:LU)),p0.2).2.2)) else none
def qCa (_n:Nat) (p0:LU×(Int×Unit)) (u1:LU):OA :=
 bif (decide ((75:Int) < (wrap .i64 (p0.2.1+(u1.length:Int))))) then
 bif (qfJ p0 true) then
 bif (decide (length (z121 p0 true).1+u1.length≤room)) then
 qrO ((((z121 p0 true).1++u1),(z121 p0 true).2).1,((wrap .i64 ((((z121 p0 true).1++u1),(z121 p0 true).2).2.1+(u1.length:Int))),(((z121 p0 true).1++u1),(z121 p0 true).2).2.2))
 else none
 else none
 else
 bif (decide (length p0.1+u1.length≤room)) then
 qrO (((p0.1++u1),p0.2).1,((wrap .i64 (((p0.1++u1),p0.2).2.1+(u1.length:Int))),((p0.1++u1),p0.2).2.2))
 else none
def qdK (s0:LU) (at1:Int):=((decide (0≤at1))&&(decide (at1 < s0.length)))
def qLu (_n:Nat) (s0:LU) (at1:Int):OA :=
 bif (decide ((s0.length:Int)≤at1)) then qKR (0:Int) else bif (qdK s0 at1) then bif ((s0.getD at1.toNat (0:UInt8)) != (13:UInt8)) then bif (qdK s0 at1) then bif ((s0.getD at1.toNat (0:UInt8)) != (10:UInt8)) then qKR (0:Int) else bif (qdK s0 at1) then bif ((s0.getD at1.toNat (0:UInt8))==(13:UInt8)) then bif (decide ((wrap .i64 (at1+1)) < (s0.length:Int))) then bif ((decide (0≤(wrap .i64 (at1+1))))&&(decide ((wrap .i64 (at1+1)) < s0.length))) then bif ((s0.getD (wrap .i64 (at1+1)).toNat (0:UInt8))==(10:UInt8)) then qKR (2:Int) else qKR (1:Int) else none else qKR (1:Int) else qKR (1:Int) else none else none else bif (qdK s0 at1) then bif ((s0.getD at1.toNat (0:UInt8))==(13:UInt8)) then bif (decide ((wrap .i64 (at1+1)) < (s0.length:Int))) then bif ((decide (0≤(wrap .i64 (at1+1))))&&(decide ((wrap .i64 (at1+1)) < s0.length))) then bif ((s0.getD (wrap .i64 (at1+1)).toNat (0:UInt8))==(10:UInt8)) then qKR (2:Int) else qKR (1:Int) else none else qKR (1:Int) else qKR (1:Int) else none else none
def qLv (_n:Nat) (n0:Int):OA :=
 bif ((decide (0≤(bits .and .i64 n0 (15:Int))))&&(decide ((bits .and .i64 n0 (15:Int)) < ([48,49,50,51,52,53,54,55,56,57,65,66,67,68,69,70]:LU).length))) then
 qmi (([48,49,50,51,52,53,54,55,56,57,65,66,67,68,69,70]:LU).getD (bits .and .i64 n0 (15:Int)).toNat (0:UInt8))
 else none
def qCc (s2:LU):OA:=some (db s2 (some (2,5)))
def qLw (_n:Nat) (c0:UInt8):OA :=
 bif ((qeI (wrap .i64 ((toNat (ofNat (toNat c0 / 2 ^ (min (4:Int).toNat 8))):Nat):Int)))&&true) then
 bif ((qeI (wrap .i64 ((toNat c0:Nat):Int)))&&true) then
 qCc ([(z239 (wrap .i64 ((toNat (ofNat (toNat c0 / 2 ^ (min (4:Int).toNat 8))):Nat):Int))),(z239 (wrap .i64 ((toNat c0:Nat):Int)))]:LU)
 else none
 else none
def qCd (s6:LU):OA:=some (db s6 (some (6,5)))
def qLx (_n:Nat) (b0:LU) (sign1:UInt8) (c2:UInt8):OA :=
 bif ((qeK b0)&&true) then
 bif (decide (length (z153 b0)+length ([sign1]:LU)≤room)) then
 bif (decide (length ((z153 b0)++([sign1]:LU))+length (z219 c2)≤room)) then
 qCd (((z153 b0)++([sign1]:LU))++(z219 c2))
 else none
 else none
 else none
def qdL (s4:LU):OA:=some (db s4 (some (4,5)))
def qdM (c0:UInt8):=((qtf ([]:LU) (61:UInt8) c0)&&true)
def qLy (_n:Nat) (c0:UInt8) (ends1:Bool):OA :=
 bif (c0 != (61:UInt8)) then bif (z144 c0 (4:Int)) then qdL ([c0]:LU) else bif (!ends1) then bif (z144 c0 (2:Int)) then qdL ([c0]:LU) else bif (qdM c0) then qdL (z179 ([]:LU) (61:UInt8) c0) else none else bif (qdM c0) then qdL (z179 ([]:LU) (61:UInt8) c0) else none else bif (!ends1) then bif (z144 c0 (2:Int)) then qdL ([c0]:LU) else bif (qdM c0) then qdL (z179 ([]:LU) (61:UInt8) c0) else none else bif (qdM c0) then qdL (z179 ([]:LU) (61:UInt8) c0) else none
def qdN (k0:LU×(Int×Unit)→OA) (next:LU→LU×(Int×Unit)→Int→OA) (_n:Nat) (s0:LU) (p3:LU×(Int×Unit)) (at5:Int):OA :=
 bif (decide (at5 < (s0.length:Int))) then
 bif ((qje s0 at5)&&true) then
 bif (decide ((0:Int) < (z120 s0 at5))) then
 bif (qfJ p3 false) then
 next s0 (z121 p3 false) (wrap .i64 (at5+(z120 s0 at5)))
 else none
 else
 bif ((decide (0≤at5))&&(decide (at5 < s0.length))) then
 bif ((qje s0 (wrap .i64 (at5+1)))&&true) then
 bif (qkz p3 (z122 (s0.getD at5.toNat (0:UInt8)) (decide ((0:Int) < (z120 s0 (wrap .i64 (at5+1))))))) then
 next s0 (z119 p3 (z122 (s0.getD at5.toNat (0:UInt8)) (decide ((0:Int) < (z120 s0 (wrap .i64 (at5+1))))))) (wrap .i64 (at5+1))
 else none
 else none
 else none
 else none
 else
 k0 p3
def qww (k0:LU×(Int×Unit)→OA):Nat→LU→LU×(Int×Unit)→Int→OA
 | 0=>fun _ _ _=>none
 | n+1=>qdN k0 (qww k0 n) n
def qmo (_n:Nat) (p3:LU×(Int×Unit)):OA :=
 bif (decide ((0:Int) < p3.2.1)) then
 bif (qfJ p3 true) then
 qBD (z121 p3 true).1
 else none
 else
 qBD p3.1
def qHP (n:Nat) (s0:LU):OA :=
 qww (qmo n) n s0 (([]:LU),((0:Int),())) (0:Int)
def qUQ (_n:Nat) (s0:LU):OA :=
 bif ((qHE s0)&&true) then
 qBM (z62 s0) (0:Int)
 else none
def qjt:=([65,66,67,68,69,70,71,72,73,74,75,76,77,78,79,80,81,82,83,84,85,86,87,88,89,90,97,98,99,100,101,102,103,104,105,106,107,108,109,110,111,112,113,114,115,116,117,118,119,120,121,122,48,49,50,51,52,53,54,55,56,57,43,47]:LU)
def qLA (_n:Nat) (n0:Int):OA :=
 bif ((decide (0≤(bits .and .i64 n0 (63:Int))))&&(decide ((bits .and .i64 n0 (63:Int)) < (qjt).length))) then qmi ((qjt).getD (bits .and .i64 n0 (63:Int)).toNat (0:UInt8)) else none
def quk (k2:LU→Int→Int→LU→Int→Int→OA) (next:LU→Int→Int→LU→Int→Int→OA) (_n:Nat) (out3:LU) (held4:Int) (many5:Int) (s8:LU) (s9:Int) (s10:Int):OA :=
 bif (decide ((6:Int)≤many5)) then
 bif (decide (0≤(wrap .i64 (many5 - (6:Int))))) then
 bif (decide (out3.length+length ([(z222 (Int.fdiv held4 (2 ^ (min (wrap .i64 (many5 - (6:Int))).toNat (IntKind.bits .i64)))))]:LU)≤room)) then
 next (out3++([(z222 (Int.fdiv held4 (2 ^ (min (wrap .i64 (many5 - (6:Int))).toNat (IntKind.bits .i64)))))]:LU)) held4 (wrap .i64 (many5 - (6:Int))) s8 s9 s10
 else none
 else none
 else
 k2 out3 held4 many5 s8 s9 s10
def qdl (k2:LU→Int→Int→LU→Int→Int→OA):Nat→LU→Int→Int→LU→Int→Int→OA
 | 0=>fun _ _ _ _ _ _=>none
 | n+1=>quk k2 (qdl k2 n) n
def qei (_k0:LU→Int→Int→OA) (next:LU→Int→Int→LU→Int→Int→OA) (_n:Nat) (out3:LU) (held4:Int) (many5:Int) (s8:LU) (s9:Int) (s10:Int):OA :=
 bif (decide (0≤many5)) then
 next out3 (bits .and .i64 held4 (wrap .i64 ((wrap .i64 ((1:Int)*2 ^ (min many5.toNat (IntKind.bits .i64)))) - (1:Int)))) many5 s8 s9 (wrap .i64 (s10+1))
 else none
def qcZ (k0:LU→Int→Int→OA) (next:LU→Int→Int→LU→Int→Int→OA) (n:Nat) (out3:LU) (held4:Int) (many5:Int) (s8:LU) (s9:Int) (s10:Int):OA :=
 bif (decide (s10 < s9)) then
 bif ((decide (0≤s10))&&(decide (s10 < s8.length))) then
 qdl (qei k0 next n) n out3 (bits .or .i64 (wrap .i64 (held4*2 ^ (min (8:Int).toNat (IntKind.bits .i64)))) (wrap .i64 ((toNat (s8.getD s10.toNat (0:UInt8)):Nat):Int))) (wrap .i64 (many5+(8:Int))) s8 s9 s10
 else none
 else
 k0 out3 held4 many5
def qkE (k0:LU→Int→Int→OA):Nat→LU→Int→Int→LU→Int→Int→OA
 | 0=>fun _ _ _ _ _ _=>none
 | n+1=>qcZ k0 (qkE k0 n) n
def qfS (_n:Nat) (out3:LU) (held4:Int) (many5:Int):OA :=
 bif (decide ((0:Int) < many5)) then
 bif (decide (0≤(wrap .i64 ((6:Int) - many5)))) then
 bif (decide (out3.length+length ([(z222 (wrap .i64 (held4*2 ^ (min (wrap .i64 ((6:Int) - many5)).toNat (IntKind.bits .i64)))))]:LU)≤room)) then
 qCc (out3++([(z222 (wrap .i64 (held4*2 ^ (min (wrap .i64 ((6:Int) - many5)).toNat (IntKind.bits .i64)))))]:LU))
 else none
 else none
 else
 qCc out3
def qul (n:Nat) (s0:LU):OA :=
 qkE (qfS n) n ([]:LU) (0:Int) (0:Int) s0 (s0.length:Int) (0:Int)
def qbd (code3:LU):=(bif (decide ((76:Int) < (code3.length:Int))) then (76:Int) else (code3.length:Int))
def qej (code3:LU):=(drop ((0:Nat):Int).toNat (take (qbd code3).toNat code3))
def qmp (k0:LU→OA) (next:LU→LU→OA) (_n:Nat) (code3:LU) (out4:LU):OA :=
 bif (decide ((0:Int) < (code3.length:Int))) then bif (((decide (0≤((0:Nat):Int)))&&(decide (((0:Nat):Int)≤(qbd code3))))&&(decide ((qbd code3)≤(code3.length:Int)))) then bif (decide (out4.length+length (qej code3)≤room)) then bif (decide (length (out4++(qej code3))+length ([13,10]:LU)≤room)) then bif (((decide (0≤(qbd code3)))&&(decide ((qbd code3)≤(code3.length:Int))))&&(decide ((code3.length:Int)≤(code3.length:Int)))) then next (drop (qbd code3).toNat (take (code3.length:Int).toNat code3)) ((out4++(qej code3))++([13,10]:LU)) else none else none else none else none else k0 out4
def qrQ (k0:LU→OA):Nat→LU→LU→OA
 | 0=>fun _ _=>none
 | n+1=>qmp k0 (qrQ k0 n) n
def qrR (_n:Nat) (out4:LU):OA :=
 qCc out4
def qHQ (n:Nat) (s0:LU):OA :=
 bif ((qyj s0)&&true) then
 qrQ (qrR n) n (z123 s0) ([]:LU)
 else none
def qUR (_n:Nat) (s0:LU):OA :=
 bif ((qwa s0)&&true) then
 qBM (z64 s0) (0:Int)
 else none
def qPl (_n:Nat) (coding0:Int):OA :=
 bif (coding0==(1:Int)) then
 some (.tup [(.fn 60 []),(dg true)])
 else
 bif (coding0==(2:Int)) then
 some (.tup [(.fn 61 []),(dg true)])
 else
 bif (coding0==(3:Int)) then
 some (.tup [(.fn 63 []),(dg true)])
 else
 some (.tup [.bad,(dg false)])
def qUS (_n:Nat) (charset0:Int):OA :=
 bif (charset0==(1:Int)) then
 qKR (128:Int)
 else
 bif (charset0==(2:Int)) then
 bif (charset0==(2:Int)) then
 qKR (256:Int)
 else
 bif (charset0==(4:Int)) then
 qKR (251:Int)
 else
 bif (charset0==(5:Int)) then
 qKR (1112064:Int)
 else
 qKR (0:Int)
 else
 bif (charset0==(3:Int)) then
 qKR (256:Int)
 else
 bif (charset0==(4:Int)) then
 qKR (251:Int)
 else
 bif (charset0==(5:Int)) then
 qKR (1112064:Int)
 else
 qKR (0:Int)
def qUT (_n:Nat) (c0:Int):OA :=
 qBy (decide ((wrap .u32 c0) < (256:Int)))
def qum (ret:UInt8→Bool→OA) (k0:Int→OA) (next:Int→List (UInt8×(Int×Unit))→Int→OA) (_n:Nat) (c0:Int) (s6:List (UInt8×(Int×Unit))) (s7:Int):OA :=
 bif (decide (s7 < (8:Int))) then
 bif ((decide (0≤s7))&&(decide (s7 < (8:Nat)))) then
 bif (c0==(s6.getD s7.toNat ((0:UInt8),((0:Int),()))).2.1) then
 ret (s6.getD s7.toNat ((0:UInt8),((0:Int),()))).1 true
 else
 bif (c0==(wrap .i32 ((toNat (s6.getD s7.toNat ((0:UInt8),((0:Int),()))).1:Nat):Int))) then
 ret (0:UInt8) false
 else
 next c0 s6 (wrap .i64 (s7+1))
 else none
 else
 k0 c0
def qoZ (ret:UInt8→Bool→OA) (k0:Int→OA):Nat→Int→List (UInt8×(Int×Unit))→Int→OA
 | 0=>fun _ _ _=>none
 | n+1=>qum ret k0 (qoZ ret k0 n) n
def qif (_n:Nat) (c0:Int):OA :=
 bif (decide (c0 < (0:Int))) then
 qmj (0:UInt8) false
 else
 bif (decide ((256:Int)≤c0)) then
 qmj (0:UInt8) false
 else
 qmj (ofNat (wrap .u8 c0).toNat) true
def qCh (n:Nat) (c0:Int):OA :=
 qoZ qmj (qif n) n c0 z176 (0:Int)
def qUU (_n:Nat) (c0:Int):OA :=
 qBy ((z127 c0).2)
def qek (ret:Int→OA) (k0:OA) (next:LI→Int→Int→Int→OA) (_n:Nat) (s0:LI) (v1:Int) (s7:Int) (s8:Int):OA :=
 bif (decide (s8 < s7)) then
 bif ((decide (0≤s8))&&(decide (s8 < s0.length))) then
 bif (v1==(s0.getD s8.toNat 0)) then
 ret s8
 else
 next s0 v1 s7 (wrap .i64 (s8+1))
 else none
 else
 k0
def qkF (ret:Int→OA) (k0:OA):Nat→LI→Int→Int→Int→OA
 | 0=>fun _ _ _ _=>none
 | n+1=>qek ret k0 (qkF ret k0 n) n
def qmq (_n:Nat):OA :=
 qKR (-1:Int)
def qun (n:Nat) (s0:LI) (v1:Int):OA :=
 qkF qKR (qmq n) n s0 v1 (s0.length:Int) (0:Int)
def qcI (c0:Int):=(ofNat (wrap .u8 (wrap .i64 ((128:Int)+(z186 z177 c0)))).toNat)
def qcJ (c0:Int):=(decide ((z186 z177 c0) < (0:Int)))
def qcK (c0:Int):=((qth z177 c0)&&true)
def qLD (_n:Nat) (c0:Int):OA :=
 bif (decide (0≤c0)) then bif (decide (c0 < (128:Int))) then bif (decide (c0 < (128:Int))) then qmj (ofNat (wrap .u8 c0).toNat) true else bif (decide (c0 < (256:Int))) then qmj (0:UInt8) false else bif (qcK c0) then bif (qcJ c0) then qmj (0:UInt8) false else qmj (qcI c0) true else none else bif (decide ((160:Int)≤c0)) then bif (decide (c0 < (256:Int))) then qmj (ofNat (wrap .u8 c0).toNat) true else bif (decide (c0 < (256:Int))) then qmj (0:UInt8) false else bif (qcK c0) then bif (qcJ c0) then qmj (0:UInt8) false else qmj (qcI c0) true else none else bif (decide (c0 < (256:Int))) then qmj (0:UInt8) false else bif (qcK c0) then bif (qcJ c0) then qmj (0:UInt8) false else qmj (qcI c0) true else none else bif (decide ((160:Int)≤c0)) then bif (decide (c0 < (256:Int))) then qmj (ofNat (wrap .u8 c0).toNat) true else bif (decide (c0 < (256:Int))) then qmj (0:UInt8) false else bif (qcK c0) then bif (qcJ c0) then qmj (0:UInt8) false else qmj (qcI c0) true else none else bif (decide (c0 < (256:Int))) then qmj (0:UInt8) false else bif (qcK c0) then bif (qcJ c0) then qmj (0:UInt8) false else qmj (qcI c0) true else none
def qUV (_n:Nat) (c0:Int):OA :=
 qBy ((z129 c0).2)
def qLE (_n:Nat) (c0:Int):OA :=
 bif (decide ((55296:Int)≤c0)) then
 qBy (decide (c0≤(57343:Int)))
 else
 qBy false
def qLF (_n:Nat) (c0:Int):OA :=
 bif (decide ((wrap .u32 c0)≤(1114111:Int))) then
 qBy (!(z211 c0))
 else
 qBy false
def qLG (_n:Nat) (charset0:Int) (c1:Int):OA :=
 bif (charset0==(1:Int)) then
 bif (decide (0≤c1)) then
 qBy (decide (c1 < (128:Int)))
 else
 qBy false
 else
 bif (charset0==(2:Int)) then
 qBy (z158 c1)
 else
 bif (charset0==(3:Int)) then
 qBy (z159 c1)
 else
 bif (charset0==(4:Int)) then
 qBy (z160 c1)
 else
 bif (charset0==(5:Int)) then
 qBy (z161 c1)
 else
 qBy false
def qel (ret:Int→OA) (k0:OA) (next:Int→LI→Int→Int→OA) (_n:Nat) (charset0:Int) (s7:LI) (s8:Int) (s9:Int):OA :=
 bif (decide (s9 < s8)) then
 bif ((decide (0≤s9))&&(decide (s9 < s7.length))) then
 bif (!(z105 charset0 (s7.getD s9.toNat 0))) then
 ret s9
 else
 next charset0 s7 s8 (wrap .i64 (s9+1))
 else none
 else
 k0
def qkG (ret:Int→OA) (k0:OA):Nat→Int→LI→Int→Int→OA
 | 0=>fun _ _ _ _=>none
 | n+1=>qel ret k0 (qkG ret k0 n) n
def qmr (_n:Nat):OA :=
 qKR (-1:Int)
def qup (n:Nat) (charset0:Int) (t1:LI):OA :=
 qkG qKR (qmr n) n charset0 t1 (t1.length:Int) (0:Int)
def qUW (_n:Nat) (charset0:Int) (t1:LI):OA :=
 bif (decide ((0:Int) < (z65 charset0))) then
 bif ((qto charset0 t1)&&true) then
 qBy ((z124 charset0 t1)==(-1:Int))
 else none
 else
 qBy false
def qUX (_n:Nat) (c0:Int):OA :=
 qBy (!(z161 c0))
def qem (ret:Int→OA) (k0:OA) (next:LI→Int→Int→OA) (_n:Nat) (s0:LI) (s7:Int) (s8:Int):OA :=
 bif (decide (s8 < s7)) then
 bif ((decide (0≤s8))&&(decide (s8 < s0.length))) then
 bif (z224 (s0.getD s8.toNat 0)) then
 ret s8
 else
 next s0 s7 (wrap .i64 (s8+1))
 else none
 else
 k0
def qkH (ret:Int→OA) (k0:OA):Nat→LI→Int→Int→OA
 | 0=>fun _ _ _=>none
 | n+1=>qem ret k0 (qkH ret k0 n) n
def qms (_n:Nat):OA :=
 qKR (-1:Int)
def quq (n:Nat) (s0:LI):OA :=
 qkH qKR (qms n) n s0 (s0.length:Int) (0:Int)
def qLH (_n:Nat) (t0:LI):OA :=
 bif ((qti t0)&&true) then
 qKR (z223 t0)
 else none
def qLI (_n:Nat) (t0:LI):OA :=
 bif ((qtj t0)&&true) then
 qBy ((z183 t0)==(-1:Int))
 else none
def qLJ (_n:Nat) (c0:Int):OA :=
 bif (!(z161 c0)) then
 qKR (0:Int)
 else
 bif (decide (c0 < (128:Int))) then
 qKR (1:Int)
 else
 bif (decide (c0 < (2048:Int))) then
 qKR (2:Int)
 else
 bif (decide (c0 < (65536:Int))) then
 qKR (3:Int)
 else
 qKR (4:Int)
def qjy (c1:Int):=([((z185 (z184 c1)) ||| (ofNat (wrap .u8 (Int.fdiv c1 (2 ^ (min (wrap .i64 ((6:Int)*(wrap .i64 ((z184 c1) - (1:Int))))).toNat (IntKind.bits .i32))))).toNat))]:LU)
def qbZ (c1:Int):=([((128:UInt8) ||| ((ofNat (wrap .u8 (Int.fdiv c1 (2 ^ (min (6:Int).toNat (IntKind.bits .i32))))).toNat) &&& (63:UInt8)))]:LU)
def qdQ (c1:Int):=([((128:UInt8) ||| ((ofNat (wrap .u8 (Int.fdiv c1 (2 ^ (min (12:Int).toNat (IntKind.bits .i32))))).toNat) &&& (63:UInt8)))]:LU)
def qca (c1:Int):=([((128:UInt8) ||| ((ofNat (wrap .u8 c1).toNat) &&& (63:UInt8)))]:LU)
def qag (b0:LU) (c1:Int):=((z153 b0)++(qjy c1))
def qLK (_n:Nat) (b0:LU) (c1:Int):OA :=
 bif ((z184 c1)==(0:Int)) then qBM ([]:LU) (7:Int) else bif (decide (0≤(wrap .i64 ((6:Int)*(wrap .i64 ((z184 c1) - (1:Int))))))) then bif ((qeK b0)&&true) then bif (decide (length (z153 b0)+length (qjy c1)≤room)) then bif ((z184 c1)==(4:Int)) then bif (decide (length (qag b0 c1)+length (qdQ c1)≤room)) then bif (decide (length ((qag b0 c1)++(qdQ c1))+length (qbZ c1)≤room)) then bif (decide (length (((qag b0 c1)++(qdQ c1))++(qbZ c1))+length (qca c1)≤room)) then qBM ((((qag b0 c1)++(qdQ c1))++(qbZ c1))++(qca c1)) (0:Int) else none else none else none else bif ((z184 c1)==(3:Int)) then bif (decide (length (qag b0 c1)+length (qbZ c1)≤room)) then bif (decide (length ((qag b0 c1)++(qbZ c1))+length (qca c1)≤room)) then qBM (((qag b0 c1)++(qbZ c1))++(qca c1)) (0:Int) else none else none else bif ((z184 c1)==(2:Int)) then bif (decide (length (qag b0 c1)+length (qca c1)≤room)) then qBM ((qag b0 c1)++(qca c1)) (0:Int) else none else qBM (qag b0 c1) (0:Int) else none else none else none
def qgI (k0:LU→OA) (next:LU→LI→Int→Int→OA) (_n:Nat) (out4:LU) (s12:LI) (s13:Int) (s14:Int):OA :=
 bif (decide (s14 < s13)) then
 bif ((decide (0≤s14))&&(decide (s14 < s12.length))) then
 bif ((qtl ([]:LU) (s12.getD s14.toNat 0))&&true) then
 bif (decide (out4.length+length ((z126 ([]:LU) (s12.getD s14.toNat 0)).1)≤room)) then
 next (out4++((z126 ([]:LU) (s12.getD s14.toNat 0)).1)) s12 s13 (wrap .i64 (s14+1))
 else none
 else none
 else none
 else
 k0 out4
def qwx (k0:LU→OA):Nat→LU→LI→Int→Int→OA
 | 0=>fun _ _ _ _=>none
 | n+1=>qgI k0 (qwx k0 n) n
def qmt (_n:Nat) (out4:LU):OA :=
 qBM out4 (0:Int)
def qHR (n:Nat) (t0:LI):OA :=
 bif ((qtk t0)&&true) then
 bif (!(z125 t0)) then
 qBM ([]:LU) (7:Int)
 else
 qwx (qmt n) n ([]:LU) t0 (t0.length:Int) (0:Int)
 else none
def qgJ (ret:LU→Int→OA) (k0:LU→OA) (next:LU→LI→Int→Int→OA) (_n:Nat) (s4:LU) (s9:LI) (s10:Int) (s11:Int):OA :=
 bif (decide (s11 < s10)) then
 bif ((decide (0≤s11))&&(decide (s11 < s9.length))) then
 bif (!((z127 (s9.getD s11.toNat 0)).2)) then
 ret ([]:LU) (9:Int)
 else
 bif (decide (s4.length+length ([((z127 (s9.getD s11.toNat 0)).1)]:LU)≤room)) then
 next (s4++([((z127 (s9.getD s11.toNat 0)).1)]:LU)) s9 s10 (wrap .i64 (s11+1))
 else none
 else none
 else
 k0 s4
def qwy (ret:LU→Int→OA) (k0:LU→OA):Nat→LU→LI→Int→Int→OA
 | 0=>fun _ _ _ _=>none
 | n+1=>qgJ ret k0 (qwy ret k0 n) n
def qmu (_n:Nat) (s4:LU):OA :=
 qBM s4 (0:Int)
def qHS (n:Nat) (t0:LI):OA :=
 qwy qBM (qmu n) n ([]:LU) t0 (t0.length:Int) (0:Int)
def qen (ret:Int→OA) (k0:OA) (next:LI→Int→Int→OA) (_n:Nat) (s5:LI) (s6:Int) (s7:Int):OA :=
 bif (decide (s7 < s6)) then
 bif ((decide (0≤s7))&&(decide (s7 < s5.length))) then
 bif (!(z160 (s5.getD s7.toNat 0))) then
 ret s7
 else
 next s5 s6 (wrap .i64 (s7+1))
 else none
 else
 k0
def qkJ (ret:Int→OA) (k0:OA):Nat→LI→Int→Int→OA
 | 0=>fun _ _ _=>none
 | n+1=>qen ret k0 (qkJ ret k0 n) n
def qmv (_n:Nat):OA :=
 qKR (-1:Int)
def qur (n:Nat) (t0:LI):OA :=
 qkJ qKR (qmv n) n t0 (t0.length:Int) (0:Int)
def qgK (k0:LU→OA) (next:LU→LI→Int→Int→OA) (_n:Nat) (s4:LU) (s15:LI) (s16:Int) (s17:Int):OA :=
 bif (decide (s17 < s16)) then
 bif ((decide (0≤s17))&&(decide (s17 < s15.length))) then
 bif (decide (s4.length+length ([((z129 (s15.getD s17.toNat 0)).1)]:LU)≤room)) then
 next (s4++([((z129 (s15.getD s17.toNat 0)).1)]:LU)) s15 s16 (wrap .i64 (s17+1))
 else none
 else none
 else
 k0 s4
def qwz (k0:LU→OA):Nat→LU→LI→Int→Int→OA
 | 0=>fun _ _ _ _=>none
 | n+1=>qgK k0 (qwz k0 n) n
def qmw (_n:Nat) (s4:LU):OA :=
 qBM s4 (0:Int)
def qHT (n:Nat) (t0:LI):OA :=
 bif ((qtm t0)&&true) then
 bif (decide (0≤(z128 t0))) then
 qBM ([]:LU) (9:Int)
 else
 bif (((decide (0≤(0:Int)))&&(decide (0≤(t0.length:Int))))&&(decide ((t0.length:Int)≤(room:Int)))) then
 qwz (qmw n) n (replicate (0:Int).toNat (0:UInt8)) t0 (t0.length:Int) (0:Int)
 else none
 else none
def qeo (ret:Int→OA) (k0:OA) (next:LI→Int→Int→OA) (_n:Nat) (t0:LI) (s5:Int) (s6:Int):OA :=
 bif (decide (s6 < s5)) then
 bif ((decide (0≤s6))&&(decide (s6 < t0.length))) then
 bif (!(z158 (t0.getD s6.toNat 0))) then
 ret s6
 else
 next t0 s5 (wrap .i64 (s6+1))
 else none
 else
 k0
def qkK (ret:Int→OA) (k0:OA):Nat→LI→Int→Int→OA
 | 0=>fun _ _ _=>none
 | n+1=>qeo ret k0 (qkK ret k0 n) n
def qmx (_n:Nat):OA :=
 qKR (-1:Int)
def qus (n:Nat) (t0:LI):OA :=
 qkK qKR (qmx n) n t0 (t0.length:Int) (0:Int)
def qgL (k0:LU→OA) (next:LU→LI→Int→Int→OA) (_n:Nat) (s4:LU) (s13:LI) (s14:Int) (s15:Int):OA :=
 bif (decide (s15 < s14)) then
 bif ((decide (0≤s15))&&(decide (s15 < s13.length))) then
 bif ((decide (0≤s15))&&(decide (s15 < s4.length))) then
 next (set s4 s15.toNat (ofNat (wrap .u8 (s13.getD s15.toNat 0)).toNat)) s13 s14 (wrap .i64 (s15+1))
 else none
 else none
 else
 k0 s4
def qpa (k0:LU→OA):Nat→LU→LI→Int→Int→OA
 | 0=>fun _ _ _ _=>none
 | n+1=>qgL k0 (qpa k0 n) n
def qmy (_n:Nat) (s4:LU):OA :=
 qBM s4 (0:Int)
def qHU (n:Nat) (t0:LI):OA :=
 bif ((qtn t0)&&true) then
 bif ((z130 t0) != (-1:Int)) then
 qBM ([]:LU) (9:Int)
 else
 bif (((decide (0≤(t0.length:Int)))&&(decide ((t0.length:Int)≤(t0.length:Int))))&&(decide ((t0.length:Int)≤(room:Int)))) then
 qpa (qmy n) n (replicate (t0.length:Int).toNat (0:UInt8)) t0 (t0.length:Int) (0:Int)
 else none
 else none
def qUY (_n:Nat) (charset0:Int) (t1:LI):OA :=
 bif ((z65 charset0)==(0:Int)) then
 qBM ([]:LU) (10:Int)
 else
 bif ((qEO charset0 t1)&&true) then
 bif (!(z66 charset0 t1)) then
 qBM ([]:LU) (9:Int)
 else
 bif (charset0==(5:Int)) then
 bif ((qEN t1)&&true) then
 qBM ((z67 t1).1) ((z67 t1).2)
 else none
 else
 bif (charset0==(3:Int)) then
 bif ((qEL t1)&&true) then
 qBM ((z68 t1).1) ((z68 t1).2)
 else none
 else
 bif (charset0==(4:Int)) then
 bif ((qEM t1)&&true) then
 qBM ((z69 t1).1) ((z69 t1).2)
 else none
 else
 bif ((qEK t1)&&true) then
 qBM ((z70 t1).1) ((z70 t1).2)
 else none
 else none
def qUZ (_n:Nat) (coding0:Int) (charset1:Int) (t2:LI):OA :=
 bif (coding0==(1:Int)) then
 bif ((qvL charset1 t2)&&true) then
 bif (((z31 charset1 t2).2) != (0:Int)) then
 qBM ([]:LU) ((z31 charset1 t2).2)
 else
 bif ((qHu ((z31 charset1 t2).1))&&true) then
 bif (((z60 ((z31 charset1 t2).1)).2) != (0:Int)) then
 qBM ([]:LU) ((z60 ((z31 charset1 t2).1)).2)
 else
 qBM ((z60 ((z31 charset1 t2).1)).1) (0:Int)
 else none
 else none
 else
 bif (coding0==(2:Int)) then
 bif ((qvL charset1 t2)&&true) then
 bif (((z31 charset1 t2).2) != (0:Int)) then
 qBM ([]:LU) ((z31 charset1 t2).2)
 else
 bif ((qHv ((z31 charset1 t2).1))&&true) then
 bif (((z61 ((z31 charset1 t2).1)).2) != (0:Int)) then
 qBM ([]:LU) ((z61 ((z31 charset1 t2).1)).2)
 else
 qBM ((z61 ((z31 charset1 t2).1)).1) (0:Int)
 else none
 else none
 else
 bif (coding0==(3:Int)) then
 bif ((qvL charset1 t2)&&true) then
 bif (((z31 charset1 t2).2) != (0:Int)) then
 qBM ([]:LU) ((z31 charset1 t2).2)
 else
 bif ((qHw ((z31 charset1 t2).1))&&true) then
 bif (((z63 ((z31 charset1 t2).1)).2) != (0:Int)) then
 qBM ([]:LU) ((z63 ((z31 charset1 t2).1)).2)
 else
 qBM ((z63 ((z31 charset1 t2).1)).1) (0:Int)
 else none
 else none
 else
 qBM ([]:LU) (11:Int)
def qgM (k0:Int→OA) (next:Int→Int→Int→OA) (_n:Nat) (c0:Int) (s3:Int) (s5:Int):OA :=
 bif (decide (s5 < (5:Int))) then
 bif (z105 (wrap .i64 (s5+1)) c0) then
 bif (decide (0≤(wrap .i64 (s5+1)))) then
 next c0 (bits .or .i64 s3 (wrap .i64 ((1:Int)*2 ^ (min (wrap .i64 (s5+1)).toNat (IntKind.bits .i64))))) (wrap .i64 (s5+1))
 else none
 else
 next c0 s3 (wrap .i64 (s5+1))
 else
 k0 s3
def qpb (k0:Int→OA):Nat→Int→Int→Int→OA
 | 0=>fun _ _ _=>none
 | n+1=>qgM k0 (qpb k0 n) n
def qjC (_n:Nat) (s3:Int):OA :=
 qKR s3
def qHV (n:Nat) (c0:Int):OA :=
 qpb (qjC n) n c0 (0:Int) (0:Int)
def qLL (_n:Nat) (x0:Int):OA :=
 bif ((qye x0)&&true) then
 qKR (z163 x0)
 else none
def qVa (_n:Nat) (sets0:Int):OA :=
 bif (sets0==(0:Int)) then
 qKR (0:Int)
 else
 bif ((qta (wrap .u64 sets0))&&true) then
 qKR (z106 (wrap .u64 sets0))
 else none
def qCu (s2:Int) (s3:Int):OA:=some (.tup [(dc s2),(dc s3)])
def qgN (k0:Int→OA) (next:Int→LI→Int→Int→OA) (_n:Nat) (all4:Int) (s7:LI) (s8:Int) (s9:Int):OA :=
 bif (decide (s9 < s8)) then
 bif ((decide (0≤s9))&&(decide (s9 < s7.length))) then
 next (bits .and .i64 all4 (z49 (s7.getD s9.toNat 0))) s7 s8 (wrap .i64 (s9+1))
 else none
 else
 k0 all4
def qwA (k0:Int→OA):Nat→Int→LI→Int→Int→OA
 | 0=>fun _ _ _ _=>none
 | n+1=>qgN k0 (qwA k0 n) n
def qjD (_n:Nat) (all4:Int):OA :=
 bif (all4==(0:Int)) then
 qCu (0:Int) (7:Int)
 else
 bif ((qEA all4)&&true) then
 qCu (z50 all4) (0:Int)
 else none
def qHW (n:Nat) (t0:LI):OA :=
 qwA (qjD n) n (62:Int) t0 (t0.length:Int) (0:Int)
def qgO (ret:Bool→OA) (k0:OA) (next:LI→LI→Int→Int→OA) (_n:Nat) (s10:LI) (s21:LI) (s12:Int) (s13:Int):OA :=
 bif (decide (s13 < s12)) then
 bif ((decide (0≤s13))&&(decide (s13 < s10.length))) then
 bif ((decide (0≤s13))&&(decide (s13 < s21.length))) then
 bif ((s10.getD s13.toNat 0) != (s21.getD s13.toNat 0)) then
 ret false
 else
 next s10 s21 s12 (wrap .i64 (s13+1))
 else none
 else none
 else
 k0
def qpc (ret:Bool→OA) (k0:OA):Nat→LI→LI→Int→Int→OA
 | 0=>fun _ _ _ _=>none
 | n+1=>qgO ret k0 (qpc ret k0 n) n
def qCv (_n:Nat):OA :=
 qBy true
def qHX (n:Nat) (s10:LI) (s21:LI):OA :=
 bif ((s10.length:Int) != (s21.length:Int)) then
 qBy false
 else
 qpc qBy (qCv n) n s10 s21 (s10.length:Int) (0:Int)
def qmz (s2:Int) (s3:Int) (s4:LU) (s5:Int):OA:=some (.tup [(dc s2),(dc s3),(da s4),(dc s5)])
def qkM (ret:Int→Int→LU→Int→OA) (k0:LI→Int→OA) (next:LI→Int→Int→OA) (_n:Nat) (t0:LI) (charset6:Int) (coding8:Int):OA :=
 bif (decide (coding8 < (3:Int))) then
 bif ((qwd coding8 charset6 t0)&&true) then
 bif (((z13 coding8 charset6 t0).2)==(0:Int)) then
 bif ((qrA coding8 charset6 ((z13 coding8 charset6 t0).1))&&true) then
 bif ((qwg (z12 coding8 charset6 ((z13 coding8 charset6 t0).1)) t0)&&true) then
 bif (z25 (z12 coding8 charset6 ((z13 coding8 charset6 t0).1)) t0) then
 ret coding8 charset6 ((z13 coding8 charset6 t0).1) (0:Int)
 else
 next t0 charset6 (wrap .i64 (coding8+1))
 else none
 else none
 else
 next t0 charset6 (wrap .i64 (coding8+1))
 else none
 else
 k0 t0 charset6
def z8_l5 (ret:Int→Int→LU→Int→OA) (k0:LI→Int→OA):Nat→LI→Int→Int→OA
 | 0=>fun _ _ _=>none
 | n+1=>qkM ret k0 (z8_l5 ret k0 n) n
def qjE (_n:Nat) (t0:LI) (charset6:Int):OA :=
 bif ((qwd (3:Int) charset6 t0)&&true) then
 qmz (3:Int) charset6 ((z13 (3:Int) charset6 t0).1) ((z13 (3:Int) charset6 t0).2)
 else none
def z8_sh (n:Nat) (t0:LI):OA :=
 bif ((qEB t0)&&true) then
 bif (((z24 t0).2) != (0:Int)) then
 qmz (0:Int) (0:Int) ([]:LU) ((z24 t0).2)
 else
 z8_l5 qmz (qjE n) n t0 ((z24 t0).1) (1:Int)
 else none
def qgP (ret:Bool→OA) (k0:OA) (next:LI→LI→Int→OA) (_n:Nat) (a0:LI) (b1:LI) (i5:Int):OA :=
 bif (decide (i5 < (a0.length:Int))) then
 bif ((decide (0≤i5))&&(decide (i5 < a0.length))) then
 bif ((decide (0≤i5))&&(decide (i5 < b1.length))) then
 bif ((a0.getD i5.toNat 0) != (b1.getD i5.toNat 0)) then
 ret false
 else
 next a0 b1 (wrap .i64 (i5+1))
 else none
 else none
 else
 k0
def qpd (ret:Bool→OA) (k0:OA):Nat→LI→LI→Int→OA
 | 0=>fun _ _ _=>none
 | n+1=>qgP ret k0 (qpd ret k0 n) n
def qCw (_n:Nat):OA :=
 qBy true
def qHY (n:Nat) (a0:LI) (b1:LI):OA :=
 bif ((a0.length:Int) != (b1.length:Int)) then
 qBy false
 else
 qpd qBy (qCw n) n a0 b1 (0:Int)
def qVb (_n:Nat) (c0:Int):OA :=
 bif (decide ((55296:Int)≤c0)) then
 qBy (decide (c0≤(57343:Int)))
 else
 qBy false
def qVc (_n:Nat) (c0:Int):OA :=
 bif (decide (0≤c0)) then
 bif (decide (c0≤(1114111:Int))) then
 qBy (!(z77 c0))
 else
 qBy false
 else
 qBy false
def qVd (_n:Nat) (x0:UInt8):OA :=
 qrK (wrap .i32 ((toNat x0:Nat):Int))
def qig (ret:UInt8→Bool→OA) (k0:OA) (next:Int→Int→OA) (_n:Nat) (c0:Int) (n4:Int):OA :=
 bif (decide (n4 < (256:Int))) then
 bif ((z187 (ofNat (wrap .u8 n4).toNat))==c0) then
 bif (c0 != (65533:Int)) then
 ret (ofNat (wrap .u8 n4).toNat) true
 else
 next c0 (wrap .i64 (n4+1))
 else
 next c0 (wrap .i64 (n4+1))
 else
 k0
def qjF (ret:UInt8→Bool→OA) (k0:OA):Nat→Int→Int→OA
 | 0=>fun _ _=>none
 | n+1=>qig ret k0 (qjF ret k0 n) n
def quu (_n:Nat):OA :=
 qmj (0:UInt8) false
def quv (n:Nat) (c0:Int):OA :=
 qjF qmj (quu n) n c0 (0:Int)
def qVe (_n:Nat) (x0:UInt8):OA :=
 bif (x0==(164:UInt8)) then
 qrK (8364:Int)
 else
 bif (x0==(166:UInt8)) then
 qrK (352:Int)
 else
 bif (x0==(168:UInt8)) then
 qrK (353:Int)
 else
 bif (x0==(180:UInt8)) then
 qrK (381:Int)
 else
 bif (x0==(184:UInt8)) then
 qrK (382:Int)
 else
 bif (x0==(188:UInt8)) then
 qrK (338:Int)
 else
 bif (x0==(189:UInt8)) then
 qrK (339:Int)
 else
 bif (x0==(190:UInt8)) then
 qrK (376:Int)
 else
 qrK (wrap .i32 ((toNat x0:Nat):Int))
def qih (ret:UInt8→Bool→OA) (k0:OA) (next:Int→Int→OA) (_n:Nat) (c0:Int) (n4:Int):OA :=
 bif (decide (n4 < (256:Int))) then
 bif ((z90 (ofNat (wrap .u8 n4).toNat))==c0) then
 bif (c0 != (65533:Int)) then
 ret (ofNat (wrap .u8 n4).toNat) true
 else
 next c0 (wrap .i64 (n4+1))
 else
 next c0 (wrap .i64 (n4+1))
 else
 k0
def qkO (ret:UInt8→Bool→OA) (k0:OA):Nat→Int→Int→OA
 | 0=>fun _ _=>none
 | n+1=>qih ret k0 (qkO ret k0 n) n
def qmB (_n:Nat):OA :=
 qmj (0:UInt8) false
def quw (n:Nat) (c0:Int):OA :=
 qkO qmj (qmB n) n c0 (0:Int)
def qmC:=([(8364:Int),(65533:Int),(8218:Int),(402:Int),(8222:Int),(8230:Int),(8224:Int),(8225:Int),(710:Int),(8240:Int),(352:Int),(8249:Int),(338:Int),(65533:Int),(381:Int),(65533:Int),(65533:Int),(8216:Int),(8217:Int),(8220:Int),(8221:Int),(8226:Int),(8211:Int),(8212:Int),(732:Int),(8482:Int),(353:Int),(8250:Int),(339:Int),(65533:Int),(382:Int),(376:Int)]:LI)
def qVf (_n:Nat) (x0:UInt8):OA :=
 bif (decide (x0 < (128:UInt8))) then qrK (wrap .i32 ((toNat x0:Nat):Int)) else bif (decide ((159:UInt8) < x0)) then qrK (wrap .i32 ((toNat x0:Nat):Int)) else bif ((decide (0≤((toNat (x0 - (128:UInt8)):Nat):Int)))&&(decide (((toNat (x0 - (128:UInt8)):Nat):Int) < (qmC).length))) then qrK ((qmC).getD ((toNat (x0 - (128:UInt8)):Nat):Int).toNat 0) else none
def qii (ret:UInt8→Bool→OA) (k0:OA) (next:Int→Int→OA) (_n:Nat) (c0:Int) (n4:Int):OA :=
 bif (decide (n4 < (256:Int))) then
 bif ((z91 (ofNat (wrap .u8 n4).toNat))==c0) then
 bif (c0 != (65533:Int)) then
 ret (ofNat (wrap .u8 n4).toNat) true
 else
 next c0 (wrap .i64 (n4+1))
 else
 next c0 (wrap .i64 (n4+1))
 else
 k0
def qkP (ret:UInt8→Bool→OA) (k0:OA):Nat→Int→Int→OA
 | 0=>fun _ _=>none
 | n+1=>qii ret k0 (qkP ret k0 n) n
def qmD (_n:Nat):OA :=
 qmj (0:UInt8) false
def quy (n:Nat) (c0:Int):OA :=
 qkP qmj (qmD n) n c0 (0:Int)
def qLM (_n:Nat) (charset0:Int) (c1:Int):OA :=
 bif (charset0==(1:Int)) then
 bif (decide (0≤c1)) then
 qBy (decide (c1 < (128:Int)))
 else
 qBy false
 else
 bif (charset0==(2:Int)) then
 qBy ((z132 c1).2)
 else
 bif (charset0==(3:Int)) then
 qBy ((z133 c1).2)
 else
 bif (charset0==(4:Int)) then
 qBy ((z134 c1).2)
 else
 bif (charset0==(5:Int)) then
 qBy (z36 c1)
 else
 qBy false
def qfT (c0:Int):=(ofNat (wrap .u8 (wrap .i64 ((128:Int)+(tmod (wrap .i64 c0) (64:Int))))).toNat)
def qjI (c0:Int):=(ofNat (wrap .u8 (wrap .i64 ((128:Int)+(tmod (wrap .i64 (tdiv (wrap .i64 c0) (64:Int))) (64:Int))))).toNat)
def qLN (_n:Nat) (c0:Int):OA :=
 bif (!(z36 c0)) then qCc ([]:LU) else bif (decide ((wrap .i64 c0) < (128:Int))) then qCc ([(ofNat (wrap .u8 (wrap .i64 c0)).toNat)]:LU) else bif (decide ((wrap .i64 c0) < (2048:Int))) then qCc ([(ofNat (wrap .u8 (wrap .i64 ((192:Int)+(wrap .i64 (tdiv (wrap .i64 c0) (64:Int)))))).toNat),(qfT c0)]:LU) else bif (decide ((wrap .i64 c0) < (65536:Int))) then qCc ([(ofNat (wrap .u8 (wrap .i64 ((224:Int)+(wrap .i64 (tdiv (wrap .i64 c0) (4096:Int)))))).toNat),(qjI c0),(qfT c0)]:LU) else qCc ([(ofNat (wrap .u8 (wrap .i64 ((240:Int)+(wrap .i64 (tdiv (wrap .i64 c0) (262144:Int)))))).toNat),(ofNat (wrap .u8 (wrap .i64 ((128:Int)+(tmod (wrap .i64 (tdiv (wrap .i64 c0) (4096:Int))) (64:Int))))).toNat),(qjI c0),(qfT c0)]:LU)
def qVg (_n:Nat) (charset0:Int) (c1:Int):OA :=
 bif (!(z131 charset0 c1)) then
 qdL ([]:LU)
 else
 bif (charset0==(1:Int)) then
 qdL ([(ofNat (wrap .u8 c1).toNat)]:LU)
 else
 bif (charset0==(2:Int)) then
 qdL ([((z132 c1).1)]:LU)
 else
 bif (charset0==(3:Int)) then
 qdL ([((z133 c1).1)]:LU)
 else
 bif (charset0==(4:Int)) then
 qdL ([((z134 c1).1)]:LU)
 else
 qdL (z135 c1)
def qgR (ret:LU→Int→OA) (k0:LU→OA) (next:Int→LI→LU→Int→OA) (_n:Nat) (charset0:Int) (t1:LI) (out6:LU) (i7:Int):OA :=
 bif (decide (i7 < (t1.length:Int))) then
 bif ((decide (0≤i7))&&(decide (i7 < t1.length))) then
 bif (((z71 charset0 (t1.getD i7.toNat 0)).length:Int)==(0:Int)) then
 ret ([]:LU) (9:Int)
 else
 bif (decide (out6.length+length (z71 charset0 (t1.getD i7.toNat 0))≤room)) then
 next charset0 t1 (out6++(z71 charset0 (t1.getD i7.toNat 0))) (wrap .i64 (i7+1))
 else none
 else none
 else
 k0 out6
def qwB (ret:LU→Int→OA) (k0:LU→OA):Nat→Int→LI→LU→Int→OA
 | 0=>fun _ _ _ _=>none
 | n+1=>qgR ret k0 (qwB ret k0 n) n
def qmE (_n:Nat) (out6:LU):OA :=
 qBM out6 (0:Int)
def qHZ (n:Nat) (charset0:Int) (t1:LI):OA :=
 bif (decide (charset0 < (1:Int))) then
 qBM ([]:LU) (10:Int)
 else
 bif (decide ((5:Int) < charset0)) then
 qBM ([]:LU) (10:Int)
 else
 qwB qBM (qmE n) n charset0 t1 ([]:LU) (0:Int)
def qI:=([(13:UInt8),(10:UInt8)]:LU)
def qbe (s0:LU) (i4:Int):=((decide (0≤i4))&&(decide (i4 < s0.length)))
def qaF (s0:LU) (i4:Int):=(s0.getD i4.toNat (0:UInt8))
def qgS (k0:LU→OA) (next:LU→LU→Int→OA) (_n:Nat) (s0:LU) (out3:LU) (i4:Int):OA :=
 bif (decide (i4 < (s0.length:Int))) then bif (qbe s0 i4) then bif ((qaF s0 i4) != (13:UInt8)) then bif (qbe s0 i4) then bif ((qaF s0 i4) != (10:UInt8)) then bif (qbe s0 i4) then bif (decide (out3.length+length ([(qaF s0 i4)]:LU)≤room)) then next s0 (out3++([(qaF s0 i4)]:LU)) (wrap .i64 (i4+1)) else none else none else bif (decide (out3.length+length (qI)≤room)) then bif (qbe s0 i4) then bif ((qaF s0 i4)==(13:UInt8)) then bif (decide ((wrap .i64 (i4+1)) < (s0.length:Int))) then bif ((decide (0≤(wrap .i64 (i4+1))))&&(decide ((wrap .i64 (i4+1)) < s0.length))) then bif ((s0.getD (wrap .i64 (i4+1)).toNat (0:UInt8))==(10:UInt8)) then next s0 (out3++(qI)) (wrap .i64 ((wrap .i64 (i4+1))+1)) else next s0 (out3++(qI)) (wrap .i64 (i4+1)) else none else next s0 (out3++(qI)) (wrap .i64 (i4+1)) else next s0 (out3++(qI)) (wrap .i64 (i4+1)) else none else none else none else bif (decide (out3.length+length (qI)≤room)) then bif (qbe s0 i4) then bif ((qaF s0 i4)==(13:UInt8)) then bif (decide ((wrap .i64 (i4+1)) < (s0.length:Int))) then bif ((decide (0≤(wrap .i64 (i4+1))))&&(decide ((wrap .i64 (i4+1)) < s0.length))) then bif ((s0.getD (wrap .i64 (i4+1)).toNat (0:UInt8))==(10:UInt8)) then next s0 (out3++(qI)) (wrap .i64 ((wrap .i64 (i4+1))+1)) else next s0 (out3++(qI)) (wrap .i64 (i4+1)) else none else next s0 (out3++(qI)) (wrap .i64 (i4+1)) else next s0 (out3++(qI)) (wrap .i64 (i4+1)) else none else none else none else k0 out3
def qrU (k0:LU→OA):Nat→LU→LU→Int→OA
 | 0=>fun _ _ _=>none
 | n+1=>qgS k0 (qrU k0 n) n
def qrV (_n:Nat) (out3:LU):OA :=
 qCc out3
def qIa (n:Nat) (s0:LU):OA :=
 qrU (qrV n) n s0 ([]:LU) (0:Int)
def qep (ret:Bool→OA) (k0:OA) (next:LU→UInt8→Int→OA) (_n:Nat) (s0:LU) (c1:UInt8) (i5:Int):OA :=
 bif (decide (i5 < (s0.length:Int))) then
 bif ((decide (0≤i5))&&(decide (i5 < s0.length))) then
 bif ((s0.getD i5.toNat (0:UInt8))==c1) then
 ret true
 else
 next s0 c1 (wrap .i64 (i5+1))
 else none
 else
 k0
def qhy (ret:Bool→OA) (k0:OA):Nat→LU→UInt8→Int→OA
 | 0=>fun _ _ _=>none
 | n+1=>qep ret k0 (qhy ret k0 n) n
def qmF (_n:Nat):OA :=
 qBy false
def qpe (n:Nat) (s0:LU) (c1:UInt8):OA :=
 qhy qBy (qmF n) n s0 c1 (0:Int)
def qVh (_n:Nat) (c0:UInt8) (kinds1:Int):OA :=
 qBy ((bits .and .i64 (z188 c0) kinds1) != (0:Int))
def qfU (n0:Int):=(tmod (wrap .i64 ((tmod n0 (16:Int))+(16:Int))) (16:Int))
def qLP (_n:Nat) (n0:Int):OA :=
 bif (decide ((qfU n0) < (10:Int))) then qmi (ofNat (wrap .u8 (wrap .i64 ((48:Int)+(qfU n0)))).toNat) else qmi (ofNat (wrap .u8 (wrap .i64 ((wrap .i64 ((65:Int)+(qfU n0))) - (10:Int)))).toNat)
def qdT (c2:UInt8):=(wrap .i64 ((toNat c2:Nat):Int))
def qjK (sign1:UInt8) (c2:UInt8):=([sign1,(z189 (wrap .i64 (tdiv (qdT c2) (16:Int)))),(z189 (tmod (qdT c2) (16:Int)))]:LU)
def qLQ (_n:Nat) (b0:LU) (sign1:UInt8) (c2:UInt8):OA :=
 bif (decide (length ([]:LU)+b0.length≤room)) then bif ((qcl (wrap .i64 (tdiv (qdT c2) (16:Int))))&&true) then bif ((qcl (tmod (qdT c2) (16:Int)))&&true) then bif (decide (length (([]:LU)++b0)+length (qjK sign1 c2)≤room)) then qCd ((([]:LU)++b0)++(qjK sign1 c2)) else none else none else none else none
def qfV (c0:UInt8):=((qtg ([]:LU) (61:UInt8) c0)&&true)
def qVi (_n:Nat) (c0:UInt8) (ends1:Bool):OA :=
 bif (z136 c0 (4:Int)) then bif (c0 != (61:UInt8)) then qdL ([c0]:LU) else bif (z136 c0 (2:Int)) then bif (!ends1) then qdL ([c0]:LU) else bif (qfV c0) then qdL (z137 ([]:LU) (61:UInt8) c0) else none else bif (qfV c0) then qdL (z137 ([]:LU) (61:UInt8) c0) else none else bif (z136 c0 (2:Int)) then bif (!ends1) then qdL ([c0]:LU) else bif (qfV c0) then qdL (z137 ([]:LU) (61:UInt8) c0) else none else bif (qfV c0) then qdL (z137 ([]:LU) (61:UInt8) c0) else none
def qal (b3:LU) (i6:Int):=(z73 (b3.getD i6.toNat (0:UInt8)) ((b3.getD (wrap .i64 (i6+1)).toNat (0:UInt8))==(13:UInt8)))
def qaG:=([(61:UInt8),(13:UInt8),(10:UInt8)]:LU)
def qam (b3:LU) (i6:Int):=(z73 (b3.getD i6.toNat (0:UInt8)) false)
def qgU (k0:LU→Int→OA) (next:LU→LU→Int→Int→OA) (_n:Nat) (b3:LU) (out4:LU) (long5:Int) (i6:Int):OA :=
 bif (decide (i6 < (b3.length:Int))) then bif ((decide (0≤i6))&&(decide (i6 < b3.length))) then bif ((b3.getD i6.toNat (0:UInt8))==(13:UInt8)) then bif (decide (out4.length+length ([(13:UInt8),(10:UInt8)]:LU)≤room)) then next b3 (out4++([(13:UInt8),(10:UInt8)]:LU)) (0:Int) (wrap .i64 ((wrap .i64 (i6+1))+1)) else none else bif ((decide (0≤i6))&&(decide (i6 < b3.length))) then bif (decide ((wrap .i64 (i6+1)) < (b3.length:Int))) then bif ((decide (0≤(wrap .i64 (i6+1))))&&(decide ((wrap .i64 (i6+1)) < b3.length))) then bif (decide ((75:Int) < (wrap .i64 (long5+((qal b3 i6).length:Int))))) then bif (decide (out4.length+length (qaG)≤room)) then bif (decide (length (out4++(qaG))+length (qal b3 i6)≤room)) then next b3 ((out4++(qaG))++(qal b3 i6)) (wrap .i64 ((0:Int)+((qal b3 i6).length:Int))) (wrap .i64 (i6+1)) else none else none else bif (decide (out4.length+length (qal b3 i6)≤room)) then next b3 (out4++(qal b3 i6)) (wrap .i64 (long5+((qal b3 i6).length:Int))) (wrap .i64 (i6+1)) else none else none else bif (decide ((75:Int) < (wrap .i64 (long5+((qam b3 i6).length:Int))))) then bif (decide (out4.length+length (qaG)≤room)) then bif (decide (length (out4++(qaG))+length (qam b3 i6)≤room)) then next b3 ((out4++(qaG))++(qam b3 i6)) (wrap .i64 ((0:Int)+((qam b3 i6).length:Int))) (wrap .i64 (i6+1)) else none else none else bif (decide (out4.length+length (qam b3 i6)≤room)) then next b3 (out4++(qam b3 i6)) (wrap .i64 (long5+((qam b3 i6).length:Int))) (wrap .i64 (i6+1)) else none else none else none else k0 out4 long5
def qpf (k0:LU→Int→OA):Nat→LU→LU→Int→Int→OA
 | 0=>fun _ _ _ _=>none
 | n+1=>qgU k0 (qpf k0 n) n
def qmG (_n:Nat) (out4:LU) (long5:Int):OA :=
 bif (decide ((0:Int) < long5)) then
 bif (decide (out4.length+length ([(61:UInt8),(13:UInt8),(10:UInt8)]:LU)≤room)) then
 qCc (out4++([(61:UInt8),(13:UInt8),(10:UInt8)]:LU))
 else none
 else
 qCc out4
def qIb (n:Nat) (s0:LU):OA :=
 bif ((qHD s0)&&true) then
 qpf (qmG n) n (z72 s0) ([]:LU) (0:Int) (0:Int)
 else none
def qeq (k0:Int→OA) (next:LI→Int→Int→OA) (_n:Nat) (l0:LI) (n3:Int) (i4:Int):OA :=
 bif (decide (i4 < (l0.length:Int))) then
 bif ((decide (0≤i4))&&(decide (i4 < l0.length))) then
 next l0 (wrap .i64 ((wrap .i64 ((2:Int)*n3))+(l0.getD i4.toNat 0))) (wrap .i64 (i4+1))
 else none
 else
 k0 n3
def qkQ (k0:Int→OA):Nat→LI→Int→Int→OA
 | 0=>fun _ _ _=>none
 | n+1=>qeq k0 (qkQ k0 n) n
def qmH (_n:Nat) (n3:Int):OA :=
 qKR n3
def quz (n:Nat) (l0:LI):OA :=
 qkQ (qmH n) n l0 (0:Int) (0:Int)
def qCD (s2:LI):OA:=some (.dat (.sl (.int .i64)) s2 (some (2,3)))
def qda (s0:LU) (i4:Int) (k5:Int):=([(tmod (wrap .i64 ((toNat (ofNat (toNat (s0.getD i4.toNat (0:UInt8)) / 2 ^ (min k5.toNat 8))):Nat):Int)) (2:Int))]:LI)
def qer (k2:LU→LI→Int→OA) (next:LU→LI→Int→Int→OA) (_n:Nat) (s0:LU) (out3:LI) (i4:Int) (k5:Int):OA :=
 bif (decide (0≤k5)) then bif ((decide (0≤i4))&&(decide (i4 < s0.length))) then bif (decide (0≤k5)) then bif (decide (out3.length+length (qda s0 i4 k5)≤room)) then next s0 (out3++(qda s0 i4 k5)) i4 (wrap .i64 (k5 - (1:Int))) else none else none else none else k2 s0 out3 i4
def qhA (k2:LU→LI→Int→OA):Nat→LU→LI→Int→Int→OA
 | 0=>fun _ _ _ _=>none
 | n+1=>qer k2 (qhA k2 n) n
def qmI (_k0:LI→OA) (next:LU→LI→Int→OA) (_n:Nat) (s0:LU) (out3:LI) (i4:Int):OA :=
 next s0 out3 (wrap .i64 (i4+1))
def qdb (k0:LI→OA) (next:LU→LI→Int→OA) (n:Nat) (s0:LU) (out3:LI) (i4:Int):OA :=
 bif (decide (i4 < (s0.length:Int))) then
 qhA (qmI k0 next n) n s0 out3 i4 (7:Int)
 else
 k0 out3
def qkR (k0:LI→OA):Nat→LU→LI→Int→OA
 | 0=>fun _ _ _=>none
 | n+1=>qdb k0 (qkR k0 n) n
def qmJ (_n:Nat) (out3:LI):OA :=
 qCD out3
def quA (n:Nat) (s0:LU):OA :=
 qkR (qmJ n) n s0 ([]:LI) (0:Int)
def qbq (n0:Int):=(tmod (wrap .i64 ((tmod n0 (64:Int))+(64:Int))) (64:Int))
def qLR (_n:Nat) (n0:Int):OA :=
 bif (decide ((qbq n0) < (26:Int))) then qmi (ofNat (wrap .u8 (wrap .i64 ((65:Int)+(qbq n0)))).toNat) else bif (decide ((qbq n0) < (52:Int))) then qmi (ofNat (wrap .u8 (wrap .i64 ((wrap .i64 ((97:Int)+(qbq n0))) - (26:Int)))).toNat) else bif (decide ((qbq n0) < (62:Int))) then qmi (ofNat (wrap .u8 (wrap .i64 ((wrap .i64 ((48:Int)+(qbq n0))) - (52:Int)))).toNat) else bif ((qbq n0)==(62:Int)) then qmi (43:UInt8) else qmi (47:UInt8)
def qij (k0:LI→OA) (next:LI→OA) (_n:Nat) (l3:LI):OA :=
 bif ((tmod (l3.length:Int) (6:Int)) != (0:Int)) then
 bif (decide (l3.length+length ([(0:Int)]:LI)≤room)) then
 next (l3++([(0:Int)]:LI))
 else none
 else
 k0 l3
def qkS (k0:LI→OA):Nat→LI→OA
 | 0=>fun _=>none
 | n+1=>qij k0 (qkS k0 n) n
def qcb (l3:LI) (i5:Int):=(drop i5.toNat (take (wrap .i64 (i5+(6:Int))).toNat l3))
def qes (k2:LU→OA) (next:LI→LU→Int→OA) (_n:Nat) (l3:LI) (out4:LU) (i5:Int):OA :=
 bif (decide (i5 < (l3.length:Int))) then bif (((decide (0≤i5))&&(decide (i5≤(wrap .i64 (i5+(6:Int))))))&&(decide ((wrap .i64 (i5+(6:Int)))≤(l3.length:Int)))) then bif ((qdk (qcb l3 i5))&&true) then bif (decide (out4.length+length ([(z191 (z151 (qcb l3 i5)))]:LU)≤room)) then next l3 (out4++([(z191 (z151 (qcb l3 i5)))]:LU)) (wrap .i64 (i5+(6:Int))) else none else none else none else k2 out4
def qkT (k2:LU→OA):Nat→LI→LU→Int→OA
 | 0=>fun _ _ _=>none
 | n+1=>qes k2 (qkT k2 n) n
def qmK (_n:Nat) (out4:LU):OA :=
 qCc out4
def qbC (n:Nat) (l3:LI):OA :=
 qkT (qmK n) n l3 ([]:LU) (0:Int)
def quB (n:Nat) (s0:LU):OA :=
 bif ((qnZ s0)&&true) then
 qkS (qbC n) n (z190 s0)
 else none
def qmL (k0:LU→OA) (next:LU→OA) (_n:Nat) (out3:LU):OA :=
 bif ((tmod (out3.length:Int) (4:Int)) != (0:Int)) then
 bif (decide (out3.length+length ([(61:UInt8)]:LU)≤room)) then
 next (out3++([(61:UInt8)]:LU))
 else none
 else
 k0 out3
def qwC (k0:LU→OA):Nat→LU→OA
 | 0=>fun _=>none
 | n+1=>qmL k0 (qwC k0 n) n
def qmM (_n:Nat) (out3:LU):OA :=
 qCc out3
def qIc (n:Nat) (s0:LU):OA :=
 bif ((qoa s0)&&true) then
 qwC (qmM n) n (z138 s0)
 else none
def qaH (c3:LU) (i5:Int):=([(c3.getD i5.toNat (0:UInt8))]:LU)
def qbH:=([(13:UInt8),(10:UInt8)]:LU)
def qgV (k0:LU→OA) (next:LU→LU→Int→OA) (_n:Nat) (c3:LU) (out4:LU) (i5:Int):OA :=
 bif (decide (i5 < (c3.length:Int))) then bif ((decide (0≤i5))&&(decide (i5 < c3.length))) then bif (decide (out4.length+length (qaH c3 i5)≤room)) then bif ((tmod i5 (76:Int))==(75:Int)) then bif (decide (length (out4++(qaH c3 i5))+length (qbH)≤room)) then next c3 ((out4++(qaH c3 i5))++(qbH)) (wrap .i64 (i5+1)) else none else bif (i5==(wrap .i64 ((c3.length:Int) - (1:Int)))) then bif (decide (length (out4++(qaH c3 i5))+length (qbH)≤room)) then next c3 ((out4++(qaH c3 i5))++(qbH)) (wrap .i64 (i5+1)) else none else next c3 (out4++(qaH c3 i5)) (wrap .i64 (i5+1)) else none else none else k0 out4
def qpg (k0:LU→OA):Nat→LU→LU→Int→OA
 | 0=>fun _ _ _=>none
 | n+1=>qgV k0 (qpg k0 n) n
def qrX (_n:Nat) (out4:LU):OA :=
 qCc out4
def qId (n:Nat) (s0:LU):OA :=
 bif ((qvM s0)&&true) then
 qpg (qrX n) n (z74 s0) ([]:LU) (0:Int)
 else none
def qgW (k0:Int→OA) (next:LU→Int→Int→OA) (_n:Nat) (s0:LU) (n3:Int) (i4:Int):OA :=
 bif (decide (i4 < (s0.length:Int))) then
 bif ((decide (0≤i4))&&(decide (i4 < s0.length))) then
 bif ((s0.getD i4.toNat (0:UInt8))==(13:UInt8)) then
 bif ((wrap .i64 (i4+1))==(s0.length:Int)) then
 next s0 (wrap .i64 (n3+1)) (wrap .i64 (i4+1))
 else
 bif ((decide (0≤(wrap .i64 (i4+1))))&&(decide ((wrap .i64 (i4+1)) < s0.length))) then
 bif ((s0.getD (wrap .i64 (i4+1)).toNat (0:UInt8)) != (10:UInt8)) then
 next s0 (wrap .i64 (n3+1)) (wrap .i64 (i4+1))
 else
 bif ((decide (0≤i4))&&(decide (i4 < s0.length))) then
 bif ((s0.getD i4.toNat (0:UInt8))==(10:UInt8)) then
 bif (i4==(0:Int)) then
 next s0 (wrap .i64 (n3+1)) (wrap .i64 (i4+1))
 else
 bif ((decide (0≤(wrap .i64 (i4 - (1:Int)))))&&(decide ((wrap .i64 (i4 - (1:Int))) < s0.length))) then
 bif ((s0.getD (wrap .i64 (i4 - (1:Int))).toNat (0:UInt8)) != (13:UInt8)) then
 next s0 (wrap .i64 (n3+1)) (wrap .i64 (i4+1))
 else
 next s0 n3 (wrap .i64 (i4+1))
 else none
 else
 next s0 n3 (wrap .i64 (i4+1))
 else none
 else none
 else
 bif ((decide (0≤i4))&&(decide (i4 < s0.length))) then
 bif ((s0.getD i4.toNat (0:UInt8))==(10:UInt8)) then
 bif (i4==(0:Int)) then
 next s0 (wrap .i64 (n3+1)) (wrap .i64 (i4+1))
 else
 bif ((decide (0≤(wrap .i64 (i4 - (1:Int)))))&&(decide ((wrap .i64 (i4 - (1:Int))) < s0.length))) then
 bif ((s0.getD (wrap .i64 (i4 - (1:Int))).toNat (0:UInt8)) != (13:UInt8)) then
 next s0 (wrap .i64 (n3+1)) (wrap .i64 (i4+1))
 else
 next s0 n3 (wrap .i64 (i4+1))
 else none
 else
 next s0 n3 (wrap .i64 (i4+1))
 else none
 else none
 else
 k0 n3
def qkh (k0:Int→OA):Nat→LU→Int→Int→OA
 | 0=>fun _ _ _=>none
 | n+1=>qgW k0 (qkh k0 n) n
def qrY (_n:Nat) (n3:Int):OA :=
 qKR n3
def qPm (n:Nat) (s0:LU):OA :=
 qkh (qrY n) n s0 (0:Int) (0:Int)
def qrZ (s2:List LU) (s3:Bool):OA:=some (.tup [(.dat (.sl (.sl .byte)) s2 none),(dg s3)])
def qah (out4:List LU):=(wrap .i64 ((out4.length:Int) - (1:Int)))
def qaB (out4:List LU):=((decide (0≤(qah out4)))&&(decide ((qah out4) < out4.length)))
def qdc (s0:LU) (out4:List LU) (i5:Int):=(set out4 (qah out4).toNat ((out4.getD (qah out4).toNat ([]:LU))++([(s0.getD i5.toNat (0:UInt8))]:LU)))
def qdd (s0:LU) (out4:List LU) (i5:Int):=(decide (length (out4.getD (qah out4).toNat ([]:LU))+length ([(s0.getD i5.toNat (0:UInt8))]:LU)≤room))
def qcc (s0:LU) (i5:Int):=((decide (0≤i5))&&(decide (i5 < s0.length)))
def qde (out4:List LU):=(((qah out4).toNat==(qah out4).toNat)&&true)
def qik (k0:List LU→OA) (next:LU→List LU→Int→OA) (_n:Nat) (s0:LU) (out4:List LU) (i5:Int):OA :=
 bif (decide (i5 < (s0.length:Int))) then bif (qcc s0 i5) then bif ((s0.getD i5.toNat (0:UInt8))==(13:UInt8)) then bif (decide ((wrap .i64 (i5+1)) < (s0.length:Int))) then bif ((decide (0≤(wrap .i64 (i5+1))))&&(decide ((wrap .i64 (i5+1)) < s0.length))) then bif ((s0.getD (wrap .i64 (i5+1)).toNat (0:UInt8))==(10:UInt8)) then bif (decide (out4.length+length ([([]:LU)]:List LU)≤room)) then next s0 (out4++([([]:LU)]:List LU)) (wrap .i64 ((wrap .i64 (i5+1))+1)) else none else bif (qaB out4) then bif (qcc s0 i5) then bif (qdd s0 out4 i5) then bif (qaB out4) then bif (qde out4) then next s0 (qdc s0 out4 i5) (wrap .i64 (i5+1)) else none else none else none else none else none else none else bif (qaB out4) then bif (qcc s0 i5) then bif (qdd s0 out4 i5) then bif (qaB out4) then bif (qde out4) then next s0 (qdc s0 out4 i5) (wrap .i64 (i5+1)) else none else none else none else none else none else bif (qaB out4) then bif (qcc s0 i5) then bif (qdd s0 out4 i5) then bif (qaB out4) then bif (qde out4) then next s0 (qdc s0 out4 i5) (wrap .i64 (i5+1)) else none else none else none else none else none else none else k0 out4
def qhB (k0:List LU→OA):Nat→LU→List LU→Int→OA
 | 0=>fun _ _ _=>none
 | n+1=>qik k0 (qhB k0 n) n
def qaC (out4:List LU):=(wrap .i64 ((out4.length:Int) - (1:Int)))
def qil (_n:Nat) (out4:List LU):OA :=
 bif ((decide (0≤(qaC out4)))&&(decide ((qaC out4) < out4.length))) then bif (((out4.getD (qaC out4).toNat ([]:LU)).length:Int)==(0:Int)) then bif (((decide (0≤((0:Nat):Int)))&&(decide (((0:Nat):Int)≤(qaC out4))))&&(decide ((qaC out4)≤(out4.length:Int)))) then qrZ (drop ((0:Nat):Int).toNat (take (qaC out4).toNat out4)) true else none else qrZ out4 false else none
def quC (n:Nat) (s0:LU):OA :=
 qhB (qil n) n s0 ([([]:LU)]:List LU) (0:Int)
def qLV (s2:List LU):OA:=some (.dat (.sl (.sl .byte)) s2 none)
def qVj (_n:Nat) (s0:LU):OA :=
 bif ((qtv s0)&&true) then
 qLV ((z102 s0).1)
 else none
def qgX (ret:Int→OA) (k0:LU→Int→Bool→OA) (next:LU→Int→Bool→Int→OA) (_n:Nat) (s0:LU) (most1:Int) (high5:Bool) (i6:Int):OA :=
 bif (decide (i6 < (s0.length:Int))) then
 bif ((decide (0≤i6))&&(decide (i6 < s0.length))) then
 bif ((s0.getD i6.toNat (0:UInt8))==(0:UInt8)) then
 ret (8:Int)
 else
 bif high5 then
 next s0 most1 true (wrap .i64 (i6+1))
 else
 bif ((decide (0≤i6))&&(decide (i6 < s0.length))) then
 next s0 most1 (decide ((127:UInt8) < (s0.getD i6.toNat (0:UInt8)))) (wrap .i64 (i6+1))
 else none
 else none
 else
 k0 s0 most1 high5
def qph (ret:Int→OA) (k0:LU→Int→Bool→OA):Nat→LU→Int→Bool→Int→OA
 | 0=>fun _ _ _ _=>none
 | n+1=>qgX ret k0 (qph ret k0 n) n
def qet (ret:Int→OA) (k2:OA) (next:Int→List LU→Int→OA) (_n:Nat) (most1:Int) (l7:List LU) (i8:Int):OA :=
 bif (decide (i8 < (l7.length:Int))) then
 bif ((decide (0≤i8))&&(decide (i8 < l7.length))) then
 bif (decide (most1 < ((l7.getD i8.toNat ([]:LU)).length:Int))) then
 ret (12:Int)
 else
 next most1 l7 (wrap .i64 (i8+1))
 else none
 else
 k2
def qhC (ret:Int→OA) (k2:OA):Nat→Int→List LU→Int→OA
 | 0=>fun _ _ _=>none
 | n+1=>qet ret k2 (qhC ret k2 n) n
def qmN (_n:Nat):OA :=
 qKR (0:Int)
def qfd (n:Nat) (s0:LU) (most1:Int) (high5:Bool):OA :=
 bif ((qHs s0)&&true) then
 bif (decide ((0:Int) < (z75 s0))) then
 qKR (8:Int)
 else
 bif high5 then
 qKR (9:Int)
 else
 bif ((qFd s0)&&true) then
 qhC qKR (qmN n) n most1 (z76 s0) (0:Int)
 else none
 else none
def qPn (n:Nat) (s0:LU) (most1:Int):OA :=
 qph qKR (qfd n) n s0 most1 false (0:Int)
def qVk (_n:Nat) (coding0:Int) (charset1:Int) (t2:LI):OA :=
 bif (decide (coding0 < (1:Int))) then
 qBM ([]:LU) (11:Int)
 else
 bif (decide ((3:Int) < coding0)) then
 qBM ([]:LU) (11:Int)
 else
 bif ((qEP charset1 t2)&&true) then
 bif (((z32 charset1 t2).2) != (0:Int)) then
 qBM ([]:LU) ((z32 charset1 t2).2)
 else
 bif (coding0==(2:Int)) then
 bif ((qHF ((z32 charset1 t2).1))&&true) then
 qBM (z33 ((z32 charset1 t2).1)) (0:Int)
 else none
 else
 bif (coding0==(3:Int)) then
 bif ((qBp ((z32 charset1 t2).1))&&true) then
 qBM (z34 ((z32 charset1 t2).1)) (0:Int)
 else none
 else
 bif ((qwc ((z32 charset1 t2).1) (76:Int))&&true) then
 bif ((z35 ((z32 charset1 t2).1) (76:Int)) != (0:Int)) then
 qBM ([]:LU) (z35 ((z32 charset1 t2).1) (76:Int))
 else
 qBM ((z32 charset1 t2).1) (0:Int)
 else none
 else none
def qeu (ret:Int→Bool→OA) (k0:OA) (next:UInt8→Int→OA) (_n:Nat) (c0:UInt8) (n4:Int):OA :=
 bif (decide (n4 < (16:Int))) then
 bif ((qcl n4)&&true) then
 bif ((z189 n4)==c0) then
 ret n4 true
 else
 bif (decide ((10:Int)≤n4)) then
 bif ((qcl n4)&&true) then
 bif (((z189 n4)+(32:UInt8))==c0) then
 ret n4 true
 else
 next c0 (wrap .i64 (n4+1))
 else none
 else
 next c0 (wrap .i64 (n4+1))
 else none
 else
 k0
def qhE (ret:Int→Bool→OA) (k0:OA):Nat→UInt8→Int→OA
 | 0=>fun _ _=>none
 | n+1=>qeu ret k0 (qhE ret k0 n) n
def qmO (_n:Nat):OA :=
 qjk (0:Int) false
def qCF (n:Nat) (c0:UInt8):OA :=
 qhE qjk (qmO n) n c0 (0:Int)
def qLW (_n:Nat) (s0:LU) (at1:Int) (sign2:UInt8):OA :=
 bif (decide (at1 < (0:Int))) then
 qmj (0:UInt8) false
 else
 bif (decide ((wrap .i64 ((s0.length:Int) - (3:Int))) < at1)) then
 qmj (0:UInt8) false
 else
 bif ((decide (0≤at1))&&(decide (at1 < s0.length))) then
 bif ((s0.getD at1.toNat (0:UInt8)) != sign2) then
 qmj (0:UInt8) false
 else
 bif ((decide (0≤(wrap .i64 (at1+1))))&&(decide ((wrap .i64 (at1+1)) < s0.length))) then
 bif ((decide (0≤(wrap .i64 (at1+(2:Int)))))&&(decide ((wrap .i64 (at1+(2:Int))) < s0.length))) then
 bif (!((z202 (s0.getD (wrap .i64 (at1+1)).toNat (0:UInt8))).2)) then
 qmj (0:UInt8) false
 else
 bif (!((z202 (s0.getD (wrap .i64 (at1+(2:Int))).toNat (0:UInt8))).2)) then
 qmj (0:UInt8) false
 else
 qmj (ofNat (wrap .u8 (wrap .i64 ((wrap .i64 ((16:Int)*((z202 (s0.getD (wrap .i64 (at1+1)).toNat (0:UInt8))).1)))+((z202 (s0.getD (wrap .i64 (at1+(2:Int))).toNat (0:UInt8))).1)))).toNat) true
 else none
 else none
 else none
def qCG (s2:LU) (s3:Bool) (s4:Int):OA:=some (.tup [(da s2),(dg s3),(dc s4)])
def qbf (l0:LU):=(wrap .i64 ((l0.length:Int) - (1:Int)))
def qmP (k0:LU→OA) (next:LU→OA) (_n:Nat) (l0:LU):OA :=
 bif (decide ((0:Int) < (l0.length:Int))) then bif ((decide (0≤(qbf l0)))&&(decide ((qbf l0) < l0.length))) then bif (z136 (l0.getD (qbf l0).toNat (0:UInt8)) (2:Int)) then bif (((decide (0≤((0:Nat):Int)))&&(decide (((0:Nat):Int)≤(qbf l0))))&&(decide ((qbf l0)≤(l0.length:Int)))) then next (drop ((0:Nat):Int).toNat (take (qbf l0).toNat l0)) else none else k0 l0 else none else k0 l0
def qsa (k0:LU→OA):Nat→LU→OA
 | 0=>fun _=>none
 | n+1=>qmP k0 (qsa k0 n) n
def qbI (l0:LU) (i8:Int):=([(l0.getD i8.toNat (0:UInt8))]:LU)
def qgY (k2:Bool→LU→Int→OA) (next:LU→Bool→LU→Int→Int→OA) (_n:Nat) (l0:LU) (soft5:Bool) (out6:LU) (strange7:Int) (i8:Int):OA :=
 bif (decide (i8 < (l0.length:Int))) then bif ((qte l0 i8 (61:UInt8))&&true) then bif ((z149 l0 i8 (61:UInt8)).2) then bif (decide (out6.length+length ([((z149 l0 i8 (61:UInt8)).1)]:LU)≤room)) then next l0 soft5 (out6++([((z149 l0 i8 (61:UInt8)).1)]:LU)) strange7 (wrap .i64 ((wrap .i64 (i8+(2:Int)))+1)) else none else bif ((decide (0≤i8))&&(decide (i8 < l0.length))) then bif ((l0.getD i8.toNat (0:UInt8))==(61:UInt8)) then bif ((decide (0≤i8))&&(decide (i8 < l0.length))) then bif (decide (out6.length+length (qbI l0 i8)≤room)) then next l0 soft5 (out6++(qbI l0 i8)) (wrap .i64 (strange7+1)) (wrap .i64 (i8+1)) else none else none else bif ((decide (0≤i8))&&(decide (i8 < l0.length))) then bif (decide (out6.length+length (qbI l0 i8)≤room)) then next l0 soft5 (out6++(qbI l0 i8)) strange7 (wrap .i64 (i8+1)) else none else none else none else none else k2 soft5 out6 strange7
def qmQ (k2:Bool→LU→Int→OA):Nat→LU→Bool→LU→Int→Int→OA
 | 0=>fun _ _ _ _ _=>none
 | n+1=>qgY k2 (qmQ k2 n) n
def qgZ (_n:Nat) (soft5:Bool) (out6:LU) (strange7:Int):OA :=
 qCG out6 soft5 strange7
def qaI (l0:LU):=(wrap .i64 ((l0.length:Int) - (1:Int)))
def qcL (l0:LU):=((l0.getD (qaI l0).toNat (0:UInt8))==(61:UInt8))
def qha (n:Nat) (l0:LU):OA :=
 bif (decide ((0:Int) < (l0.length:Int))) then bif ((decide (0≤(qaI l0)))&&(decide ((qaI l0) < l0.length))) then bif (qcL l0) then bif (((decide (0≤((0:Nat):Int)))&&(decide (((0:Nat):Int)≤(qaI l0))))&&(decide ((qaI l0)≤(l0.length:Int)))) then qmQ (qgZ n) n (drop ((0:Nat):Int).toNat (take (qaI l0).toNat l0)) (qcL l0) ([]:LU) (0:Int) (0:Int) else none else qmQ (qgZ n) n l0 (qcL l0) ([]:LU) (0:Int) (0:Int) else none else qmQ (qgZ n) n l0 false ([]:LU) (0:Int) (0:Int)
def qIe (n:Nat) (l0:LU):OA :=
 qsa (qha n) n l0
def qcM (s0:LU) (i7:Int):=([(s0.getD i7.toNat (0:UInt8))]:LU)
def qg (line5:LU) (strange6:Int):=(wrap .i64 (strange6+((z85 line5).2.2)))
def qB (s0:LU) (i7:Int):=((s0.getD (wrap .i64 (i7+1)).toNat (0:UInt8))==(10:UInt8))
def qv (s0:LU) (i7:Int):=((decide (0≤i7))&&(decide (i7 < s0.length)))
def qt (s0:LU) (out4:LU) (line5:LU) (i7:Int):=((out4++((z85 line5).1))++(qcM s0 i7))
def qZ (s0:LU) (out4:LU) (line5:LU) (i7:Int):=(decide (length (out4++((z85 line5).1))+length (qcM s0 i7)≤room))
def qaa (i7:Int):=(wrap .i64 ((wrap .i64 (i7+1))+1))
def qev (s0:LU) (i7:Int):=((decide (0≤(wrap .i64 (i7+1))))&&(decide ((wrap .i64 (i7+1)) < s0.length)))
def qbg (s0:LU) (out4:LU) (line5:LU) (i7:Int):=((qt s0 out4 line5 i7)++([(10:UInt8)]:LU))
def qew (s0:LU) (i7:Int):=(decide ((wrap .i64 (i7+1)) < (s0.length:Int)))
def qmR (k0:LU→Int→OA) (next:LU→LU→LU→Int→Int→OA) (_n:Nat) (s0:LU) (out4:LU) (line5:LU) (strange6:Int) (i7:Int):OA :=
 bif (decide (i7≤(s0.length:Int))) then bif (decide (i7 < (s0.length:Int))) then bif (qv s0 i7) then bif ((s0.getD i7.toNat (0:UInt8)) != (13:UInt8)) then bif (qv s0 i7) then bif ((s0.getD i7.toNat (0:UInt8)) != (10:UInt8)) then bif (qv s0 i7) then bif (decide (line5.length+length (qcM s0 i7)≤room)) then next s0 out4 (line5++(qcM s0 i7)) strange6 (wrap .i64 (i7+1)) else none else none else bif ((qwp line5)&&true) then bif (decide (out4.length+length ((z85 line5).1)≤room)) then bif (i7==(s0.length:Int)) then k0 (out4++((z85 line5).1)) (qg line5 strange6) else bif (qv s0 i7) then bif ((s0.getD i7.toNat (0:UInt8))==(13:UInt8)) then bif (qew s0 i7) then bif (qev s0 i7) then bif (!((z85 line5).2.1)) then bif (qv s0 i7) then bif (qZ s0 out4 line5 i7) then bif (qB s0 i7) then bif (decide (length (qt s0 out4 line5 i7)+length ([(10:UInt8)]:LU)≤room)) then bif (qB s0 i7) then next s0 (qbg s0 out4 line5 i7) ([]:LU) (qg line5 strange6) (qaa i7) else next s0 (qbg s0 out4 line5 i7) ([]:LU) (qg line5 strange6) (wrap .i64 (i7+1)) else none else bif (qB s0 i7) then next s0 (qt s0 out4 line5 i7) ([]:LU) (qg line5 strange6) (qaa i7) else next s0 (qt s0 out4 line5 i7) ([]:LU) (qg line5 strange6) (wrap .i64 (i7+1)) else none else none else bif (qB s0 i7) then next s0 (out4++((z85 line5).1)) ([]:LU) (qg line5 strange6) (qaa i7) else next s0 (out4++((z85 line5).1)) ([]:LU) (qg line5 strange6) (wrap .i64 (i7+1)) else none else bif (!((z85 line5).2.1)) then bif (qv s0 i7) then bif (qZ s0 out4 line5 i7) then next s0 (qt s0 out4 line5 i7) ([]:LU) (qg line5 strange6) (wrap .i64 (i7+1)) else none else none else next s0 (out4++((z85 line5).1)) ([]:LU) (qg line5 strange6) (wrap .i64 (i7+1)) else bif (!((z85 line5).2.1)) then bif (qv s0 i7) then bif (qZ s0 out4 line5 i7) then next s0 (qt s0 out4 line5 i7) ([]:LU) (qg line5 strange6) (wrap .i64 (i7+1)) else none else none else next s0 (out4++((z85 line5).1)) ([]:LU) (qg line5 strange6) (wrap .i64 (i7+1)) else none else none else none else none else bif ((qwp line5)&&true) then bif (decide (out4.length+length ((z85 line5).1)≤room)) then bif (i7==(s0.length:Int)) then k0 (out4++((z85 line5).1)) (qg line5 strange6) else bif (qv s0 i7) then bif ((s0.getD i7.toNat (0:UInt8))==(13:UInt8)) then bif (qew s0 i7) then bif (qev s0 i7) then bif (!((z85 line5).2.1)) then bif (qv s0 i7) then bif (qZ s0 out4 line5 i7) then bif (qB s0 i7) then bif (decide (length (qt s0 out4 line5 i7)+length ([(10:UInt8)]:LU)≤room)) then bif (qB s0 i7) then next s0 (qbg s0 out4 line5 i7) ([]:LU) (qg line5 strange6) (qaa i7) else next s0 (qbg s0 out4 line5 i7) ([]:LU) (qg line5 strange6) (wrap .i64 (i7+1)) else none else bif (qB s0 i7) then next s0 (qt s0 out4 line5 i7) ([]:LU) (qg line5 strange6) (qaa i7) else next s0 (qt s0 out4 line5 i7) ([]:LU) (qg line5 strange6) (wrap .i64 (i7+1)) else none else none else bif (qB s0 i7) then next s0 (out4++((z85 line5).1)) ([]:LU) (qg line5 strange6) (qaa i7) else next s0 (out4++((z85 line5).1)) ([]:LU) (qg line5 strange6) (wrap .i64 (i7+1)) else none else bif (!((z85 line5).2.1)) then bif (qv s0 i7) then bif (qZ s0 out4 line5 i7) then next s0 (qt s0 out4 line5 i7) ([]:LU) (qg line5 strange6) (wrap .i64 (i7+1)) else none else none else next s0 (out4++((z85 line5).1)) ([]:LU) (qg line5 strange6) (wrap .i64 (i7+1)) else bif (!((z85 line5).2.1)) then bif (qv s0 i7) then bif (qZ s0 out4 line5 i7) then next s0 (qt s0 out4 line5 i7) ([]:LU) (qg line5 strange6) (wrap .i64 (i7+1)) else none else none else next s0 (out4++((z85 line5).1)) ([]:LU) (qg line5 strange6) (wrap .i64 (i7+1)) else none else none else none else none else bif ((qwp line5)&&true) then bif (decide (out4.length+length ((z85 line5).1)≤room)) then bif (i7==(s0.length:Int)) then k0 (out4++((z85 line5).1)) (qg line5 strange6) else bif (qv s0 i7) then bif ((s0.getD i7.toNat (0:UInt8))==(13:UInt8)) then bif (qew s0 i7) then bif (qev s0 i7) then bif (!((z85 line5).2.1)) then bif (qv s0 i7) then bif (qZ s0 out4 line5 i7) then bif (qB s0 i7) then bif (decide (length (qt s0 out4 line5 i7)+length ([(10:UInt8)]:LU)≤room)) then bif (qB s0 i7) then next s0 (qbg s0 out4 line5 i7) ([]:LU) (qg line5 strange6) (qaa i7) else next s0 (qbg s0 out4 line5 i7) ([]:LU) (qg line5 strange6) (wrap .i64 (i7+1)) else none else bif (qB s0 i7) then next s0 (qt s0 out4 line5 i7) ([]:LU) (qg line5 strange6) (qaa i7) else next s0 (qt s0 out4 line5 i7) ([]:LU) (qg line5 strange6) (wrap .i64 (i7+1)) else none else none else bif (qB s0 i7) then next s0 (out4++((z85 line5).1)) ([]:LU) (qg line5 strange6) (qaa i7) else next s0 (out4++((z85 line5).1)) ([]:LU) (qg line5 strange6) (wrap .i64 (i7+1)) else none else bif (!((z85 line5).2.1)) then bif (qv s0 i7) then bif (qZ s0 out4 line5 i7) then next s0 (qt s0 out4 line5 i7) ([]:LU) (qg line5 strange6) (wrap .i64 (i7+1)) else none else none else next s0 (out4++((z85 line5).1)) ([]:LU) (qg line5 strange6) (wrap .i64 (i7+1)) else bif (!((z85 line5).2.1)) then bif (qv s0 i7) then bif (qZ s0 out4 line5 i7) then next s0 (qt s0 out4 line5 i7) ([]:LU) (qg line5 strange6) (wrap .i64 (i7+1)) else none else none else next s0 (out4++((z85 line5).1)) ([]:LU) (qg line5 strange6) (wrap .i64 (i7+1)) else none else none else none else k0 out4 strange6
def qki (k0:LU→Int→OA):Nat→LU→LU→LU→Int→Int→OA
 | 0=>fun _ _ _ _ _=>none
 | n+1=>qmR k0 (qki k0 n) n
def qsb (_n:Nat) (out4:LU) (strange6:Int):OA :=
 qBM out4 strange6
def qIf (n:Nat) (s0:LU):OA :=
 qki (qsb n) n s0 ([]:LU) ([]:LU) (0:Int) (0:Int)
def qex (ret:Int→Bool→OA) (k0:OA) (next:UInt8→Int→OA) (_n:Nat) (c0:UInt8) (n4:Int):OA :=
 bif (decide (n4 < (64:Int))) then
 bif ((z191 n4)==c0) then
 ret n4 true
 else
 next c0 (wrap .i64 (n4+1))
 else
 k0
def qkU (ret:Int→Bool→OA) (k0:OA):Nat→UInt8→Int→OA
 | 0=>fun _ _=>none
 | n+1=>qex ret k0 (qkU ret k0 n) n
def qmS (_n:Nat):OA :=
 qjk (0:Int) false
def quD (n:Nat) (c0:UInt8):OA :=
 qkU qjk (qmS n) n c0 (0:Int)
def qhb (k0:LU→Int→OA) (next:LU→LU→Int→Int→OA) (_n:Nat) (s0:LU) (out4:LU) (strange5:Int) (i6:Int):OA :=
 bif (decide (i6 < (s0.length:Int))) then
 bif ((decide (0≤i6))&&(decide (i6 < s0.length))) then
 bif ((s0.getD i6.toNat (0:UInt8)) != (61:UInt8)) then
 bif ((decide (0≤i6))&&(decide (i6 < s0.length))) then
 bif ((z150 (s0.getD i6.toNat (0:UInt8))).2) then
 bif ((decide (0≤i6))&&(decide (i6 < s0.length))) then
 bif (decide (out4.length+length ([(s0.getD i6.toNat (0:UInt8))]:LU)≤room)) then
 next s0 (out4++([(s0.getD i6.toNat (0:UInt8))]:LU)) strange5 (wrap .i64 (i6+1))
 else none
 else none
 else
 next s0 out4 (wrap .i64 (strange5+1)) (wrap .i64 (i6+1))
 else none
 else
 k0 out4 strange5
 else none
 else
 k0 out4 strange5
def qwD (k0:LU→Int→OA):Nat→LU→LU→Int→Int→OA
 | 0=>fun _ _ _ _=>none
 | n+1=>qhb k0 (qwD k0 n) n
def qsc (_n:Nat) (out4:LU) (strange5:Int):OA :=
 qBM out4 strange5
def qPo (n:Nat) (s0:LU):OA :=
 qwD (qsc n) n s0 ([]:LU) (0:Int) (0:Int)
def qdU (s2:LI) (s3:Bool):OA:=some (.tup [(.dat (.sl (.int .i64)) s2 none),(dg s3)])
def qmT (k2:LU→LI→Int→OA) (next:LU→LI→Int→Int→Int→OA) (_n:Nat) (s0:LU) (out4:LI) (i5:Int) (n6:Int) (k8:Int):OA :=
 bif (decide (0≤k8)) then
 bif (decide (0≤k8)) then
 bif (decide (out4.length+length ([(tmod (Int.fdiv n6 (2 ^ (min k8.toNat (IntKind.bits .i64)))) (2:Int))]:LI)≤room)) then
 next s0 (out4++([(tmod (Int.fdiv n6 (2 ^ (min k8.toNat (IntKind.bits .i64)))) (2:Int))]:LI)) i5 n6 (wrap .i64 (k8 - (1:Int)))
 else none
 else none
 else
 k2 s0 out4 i5
def qmU (k2:LU→LI→Int→OA):Nat→LU→LI→Int→Int→Int→OA
 | 0=>fun _ _ _ _ _=>none
 | n+1=>qmT k2 (qmU k2 n) n
def qCH (_ret:LI→Bool→OA) (_k0:LI→OA) (next:LU→LI→Int→OA) (_n:Nat) (s0:LU) (out4:LI) (i5:Int):OA :=
 next s0 out4 (wrap .i64 (i5+1))
def qfg (ret:LI→Bool→OA) (k0:LI→OA) (next:LU→LI→Int→OA) (n:Nat) (s0:LU) (out4:LI) (i5:Int):OA :=
 bif (decide (i5 < (s0.length:Int))) then
 bif ((decide (0≤i5))&&(decide (i5 < s0.length))) then
 bif (!((z150 (s0.getD i5.toNat (0:UInt8))).2)) then
 ret ([]:LI) false
 else
 qmU (qCH ret k0 next n) n s0 out4 i5 ((z150 (s0.getD i5.toNat (0:UInt8))).1) (5:Int)
 else none
 else
 k0 out4
def qpi (ret:LI→Bool→OA) (k0:LI→OA):Nat→LU→LI→Int→OA
 | 0=>fun _ _ _=>none
 | n+1=>qfg ret k0 (qpi ret k0 n) n
def qjN (_n:Nat) (out4:LI):OA :=
 qdU out4 true
def qPp (n:Nat) (s0:LU):OA :=
 qpi qdU (qjN n) n s0 ([]:LI) (0:Int)
def qcN (l0:LI) (i5:Int):=(drop i5.toNat (take (wrap .i64 (i5+(8:Int))).toNat l0))
def qhc (k0:LI→LU→Int→OA) (next:LI→LU→Int→OA) (_n:Nat) (l0:LI) (out4:LU) (i5:Int):OA :=
 bif (decide ((wrap .i64 (i5+(8:Int)))≤(l0.length:Int))) then bif (((decide (0≤i5))&&(decide (i5≤(wrap .i64 (i5+(8:Int))))))&&(decide ((wrap .i64 (i5+(8:Int)))≤(l0.length:Int)))) then bif ((qdk (qcN l0 i5))&&true) then bif (decide (out4.length+length ([(ofNat (wrap .u8 (z151 (qcN l0 i5))).toNat)]:LU)≤room)) then next l0 (out4++([(ofNat (wrap .u8 (z151 (qcN l0 i5))).toNat)]:LU)) (wrap .i64 (i5+(8:Int))) else none else none else none else k0 l0 out4 i5
def qwE (k0:LI→LU→Int→OA):Nat→LI→LU→Int→OA
 | 0=>fun _ _ _=>none
 | n+1=>qhc k0 (qwE k0 n) n
def qmV (_n:Nat) (l0:LI) (out4:LU) (i5:Int):OA :=
 bif (((decide (0≤i5))&&(decide (i5≤(l0.length:Int))))&&(decide ((l0.length:Int)≤(l0.length:Int)))) then
 bif ((qdk (drop i5.toNat (take (l0.length:Int).toNat l0)))&&true) then
 qrG out4 ((z151 (drop i5.toNat (take (l0.length:Int).toNat l0)))==(0:Int))
 else none
 else none
def qPq (n:Nat) (l0:LI):OA :=
 qwE (qmV n) n l0 ([]:LU) (0:Int)
def qVl (_n:Nat) (s0:LU):OA :=
 bif ((qEZ s0)&&true) then
 bif ((qEV ((z86 s0).1))&&true) then
 bif ((qEW ((z87 ((z86 s0).1)).1))&&true) then
 qBM ((z88 ((z87 ((z86 s0).1)).1)).1) (tmod (((z87 ((z86 s0).1)).1).length:Int) (8:Int))
 else none
 else none
 else none
def qLZ (_n:Nat) (c0:UInt8):OA :=
 bif (decide (c0 < (128:UInt8))) then
 qKR (1:Int)
 else
 bif (decide ((194:UInt8)≤c0)) then
 bif (decide (c0≤(223:UInt8))) then
 qKR (2:Int)
 else
 bif (decide ((224:UInt8)≤c0)) then
 bif (decide (c0≤(239:UInt8))) then
 qKR (3:Int)
 else
 bif (decide ((240:UInt8)≤c0)) then
 bif (decide (c0≤(244:UInt8))) then
 qKR (4:Int)
 else
 qKR (0:Int)
 else
 qKR (0:Int)
 else
 bif (decide ((240:UInt8)≤c0)) then
 bif (decide (c0≤(244:UInt8))) then
 qKR (4:Int)
 else
 qKR (0:Int)
 else
 qKR (0:Int)
 else
 bif (decide ((224:UInt8)≤c0)) then
 bif (decide (c0≤(239:UInt8))) then
 qKR (3:Int)
 else
 bif (decide ((240:UInt8)≤c0)) then
 bif (decide (c0≤(244:UInt8))) then
 qKR (4:Int)
 else
 qKR (0:Int)
 else
 qKR (0:Int)
 else
 bif (decide ((240:UInt8)≤c0)) then
 bif (decide (c0≤(244:UInt8))) then
 qKR (4:Int)
 else
 qKR (0:Int)
 else
 qKR (0:Int)
def qhd (s2:UInt8) (s3:UInt8):OA:=some (.tup [(dn s2),(dn s3)])
def qMa (_n:Nat) (c0:UInt8):OA :=
 bif (c0==(224:UInt8)) then
 qhd (160:UInt8) (191:UInt8)
 else
 bif (c0==(237:UInt8)) then
 qhd (128:UInt8) (159:UInt8)
 else
 bif (c0==(240:UInt8)) then
 qhd (144:UInt8) (191:UInt8)
 else
 bif (c0==(244:UInt8)) then
 qhd (128:UInt8) (143:UInt8)
 else
 qhd (128:UInt8) (191:UInt8)
def qbh (s0:LU) (n3:Int):=((decide (0≤n3))&&(decide (n3 < s0.length)))
def qey (ret:Int→OA) (k0:Int→OA) (next:LU→Int→OA) (_n:Nat) (s0:LU) (n3:Int):OA :=
 bif ((decide (0≤(0:Int)))&&(decide ((0:Int) < s0.length))) then bif (decide (n3 < (z204 (s0.getD (0:Int).toNat (0:UInt8))))) then bif (decide (n3 < (s0.length:Int))) then bif (n3==(1:Int)) then bif ((decide (0≤(0:Int)))&&(decide ((0:Int) < s0.length))) then bif (qbh s0 n3) then bif (decide ((s0.getD n3.toNat (0:UInt8)) < ((z232 (s0.getD (0:Int).toNat (0:UInt8))).1))) then ret n3 else bif (qbh s0 n3) then bif (decide (((z232 (s0.getD (0:Int).toNat (0:UInt8))).2) < (s0.getD n3.toNat (0:UInt8)))) then ret n3 else next s0 (wrap .i64 (n3+1)) else none else none else none else bif (qbh s0 n3) then bif (decide ((s0.getD n3.toNat (0:UInt8)) < (128:UInt8))) then ret n3 else bif (qbh s0 n3) then bif (decide ((191:UInt8) < (s0.getD n3.toNat (0:UInt8)))) then ret n3 else next s0 (wrap .i64 (n3+1)) else none else none else k0 n3 else k0 n3 else none
def qjO (ret:Int→OA) (k0:Int→OA):Nat→LU→Int→OA
 | 0=>fun _ _=>none
 | n+1=>qey ret k0 (qjO ret k0 n) n
def qim (_n:Nat) (n3:Int):OA :=
 qKR n3
def quE (n:Nat) (s0:LU):OA :=
 bif ((s0.length:Int)==(0:Int)) then
 qKR (0:Int)
 else
 bif ((decide (0≤(0:Int)))&&(decide ((0:Int) < s0.length))) then
 bif ((z204 (s0.getD (0:Int).toNat (0:UInt8)))==(0:Int)) then
 qKR (0:Int)
 else
 qjO qKR (qim n) n s0 (1:Int)
 else none
def qez (k0:Int→Int→OA) (next:LU→Int→Int→Int→OA) (_n:Nat) (s0:LU) (n5:Int) (c7:Int) (i8:Int):OA :=
 bif (decide (i8 < n5)) then
 bif ((decide (0≤i8))&&(decide (i8 < s0.length))) then
 next s0 n5 (wrap .i64 ((wrap .i64 ((wrap .i64 ((64:Int)*c7))+(wrap .i64 ((toNat (s0.getD i8.toNat (0:UInt8)):Nat):Int)))) - (128:Int))) (wrap .i64 (i8+1))
 else none
 else
 k0 n5 c7
def qkV (k0:Int→Int→OA):Nat→LU→Int→Int→Int→OA
 | 0=>fun _ _ _ _=>none
 | n+1=>qez k0 (qkV k0 n) n
def qmW (_n:Nat) (n5:Int) (c7:Int):OA :=
 qcW (wrap .i32 c7) n5 (0:Int)
def quF (n:Nat) (s0:LU):OA :=
 bif ((s0.length:Int)==(0:Int)) then
 qcW (0:Int) (0:Int) (4:Int)
 else
 bif ((qtq s0)&&true) then
 bif (decide ((0:Int) < (z203 s0))) then
 bif ((decide (0≤(0:Int)))&&(decide ((0:Int) < s0.length))) then
 bif ((z203 s0)==(z204 (s0.getD (0:Int).toNat (0:UInt8)))) then
 bif ((decide (0≤(0:Int)))&&(decide ((0:Int) < s0.length))) then
 bif ((decide (0≤(z203 s0)))&&(decide ((z203 s0) < ([(0:Int),(0:Int),(192:Int),(224:Int),(240:Int)]:LI).length))) then
 qkV (qmW n) n s0 (z203 s0) (wrap .i64 ((wrap .i64 ((toNat (s0.getD (0:Int).toNat (0:UInt8)):Nat):Int)) - (([(0:Int),(0:Int),(192:Int),(224:Int),(240:Int)]:LI).getD (z203 s0).toNat 0))) (1:Int)
 else none
 else none
 else
 bif ((z203 s0)==(s0.length:Int)) then
 qcW (0:Int) (z203 s0) (4:Int)
 else
 qcW (0:Int) (bif (decide ((1:Int) > (z203 s0))) then (1:Int) else (z203 s0)) (3:Int)
 else none
 else
 bif ((z203 s0)==(s0.length:Int)) then
 qcW (0:Int) (z203 s0) (4:Int)
 else
 qcW (0:Int) (bif (decide ((1:Int) > (z203 s0))) then (1:Int) else (z203 s0)) (3:Int)
 else none
def qpj (s2:LI) (s3:Int) (s4:Int):OA:=some (.tup [(.dat (.sl (.int .i32)) s2 none),(dc s3),(dc s4)])
def qbi (s0:LU) (at8:Int):=(z152 (drop at8.toNat (take (s0.length:Int).toNat s0)))
def qeA (s0:LU) (at8:Int):=(wrap .i64 (at8+(bif (decide ((1:Int) > ((qbi s0 at8).2.1))) then (1:Int) else ((qbi s0 at8).2.1))))
def qmX (k0:LI→Int→Int→OA) (next:LU→LI→Int→Int→Int→OA) (_n:Nat) (s0:LU) (out5:LI) (broken6:Int) (first7:Int) (at8:Int):OA :=
 bif (decide (at8 < (s0.length:Int))) then bif (((decide (0≤at8))&&(decide (at8≤(s0.length:Int))))&&(decide ((s0.length:Int)≤(s0.length:Int)))) then bif ((qtr (drop at8.toNat (take (s0.length:Int).toNat s0)))&&true) then bif (((qbi s0 at8).2.2) != (0:Int)) then bif (first7==(0:Int)) then bif (decide (out5.length+length ([(65533:Int)]:LI)≤room)) then next s0 (out5++([(65533:Int)]:LI)) (wrap .i64 (broken6+1)) ((qbi s0 at8).2.2) (qeA s0 at8) else none else bif (decide (out5.length+length ([(65533:Int)]:LI)≤room)) then next s0 (out5++([(65533:Int)]:LI)) (wrap .i64 (broken6+1)) first7 (qeA s0 at8) else none else bif (decide (out5.length+length ([((qbi s0 at8).1)]:LI)≤room)) then next s0 (out5++([((qbi s0 at8).1)]:LI)) broken6 first7 (qeA s0 at8) else none else none else none else k0 out5 broken6 first7
def qsd (k0:LI→Int→Int→OA):Nat→LU→LI→Int→Int→Int→OA
 | 0=>fun _ _ _ _ _=>none
 | n+1=>qmX k0 (qsd k0 n) n
def qmY (_n:Nat) (out5:LI) (broken6:Int) (first7:Int):OA :=
 qpj out5 broken6 first7
def qPr (n:Nat) (s0:LU):OA :=
 qsd (qmY n) n s0 ([]:LI) (0:Int) (0:Int) (0:Int)
def qan (s1:LU) (i9:Int):=((decide (0≤i9))&&(decide (i9 < s1.length)))
def qJ (s1:LU) (i9:Int):=(s1.getD i9.toNat (0:UInt8))
def qbJ (s1:LU) (i9:Int):=([(wrap .i32 ((toNat (qJ s1 i9):Nat):Int))]:LI)
def qhe (k0:LI→OA) (next:Int→LU→LI→Int→OA) (_n:Nat) (charset0:Int) (s1:LU) (out8:LI) (i9:Int):OA :=
 bif (decide (i9 < (s1.length:Int))) then bif (charset0==(1:Int)) then bif (qan s1 i9) then bif (decide ((127:UInt8) < (qJ s1 i9))) then bif (decide (out8.length+length ([(65533:Int)]:LI)≤room)) then next charset0 s1 (out8++([(65533:Int)]:LI)) (wrap .i64 (i9+1)) else none else bif (charset0==(3:Int)) then bif (qan s1 i9) then bif (decide (out8.length+length ([(z90 (qJ s1 i9))]:LI)≤room)) then next charset0 s1 (out8++([(z90 (qJ s1 i9))]:LI)) (wrap .i64 (i9+1)) else none else none else bif (charset0==(4:Int)) then bif (qan s1 i9) then bif (decide (out8.length+length ([(z91 (qJ s1 i9))]:LI)≤room)) then next charset0 s1 (out8++([(z91 (qJ s1 i9))]:LI)) (wrap .i64 (i9+1)) else none else none else bif (qan s1 i9) then bif (decide (out8.length+length (qbJ s1 i9)≤room)) then next charset0 s1 (out8++(qbJ s1 i9)) (wrap .i64 (i9+1)) else none else none else none else bif (charset0==(3:Int)) then bif (qan s1 i9) then bif (decide (out8.length+length ([(z90 (qJ s1 i9))]:LI)≤room)) then next charset0 s1 (out8++([(z90 (qJ s1 i9))]:LI)) (wrap .i64 (i9+1)) else none else none else bif (charset0==(4:Int)) then bif (qan s1 i9) then bif (decide (out8.length+length ([(z91 (qJ s1 i9))]:LI)≤room)) then next charset0 s1 (out8++([(z91 (qJ s1 i9))]:LI)) (wrap .i64 (i9+1)) else none else none else bif (qan s1 i9) then bif (decide (out8.length+length (qbJ s1 i9)≤room)) then next charset0 s1 (out8++(qbJ s1 i9)) (wrap .i64 (i9+1)) else none else none else k0 out8
def qwF (k0:LI→OA):Nat→Int→LU→LI→Int→OA
 | 0=>fun _ _ _ _=>none
 | n+1=>qhe k0 (qwF k0 n) n
def qmZ (_n:Nat) (out8:LI):OA :=
 qBS out8
def qIg (n:Nat) (charset0:Int) (s1:LU):OA :=
 bif (charset0==(5:Int)) then
 bif ((qEU s1)&&true) then
 qBS ((z89 s1).1)
 else none
 else
 qwF (qmZ n) n charset0 s1 ([]:LI) (0:Int)
def qVm (_n:Nat) (coding0:Int) (charset1:Int) (s2:LU):OA :=
 bif (coding0==(2:Int)) then
 bif ((qHI s2)&&true) then
 bif ((qoc charset1 ((z40 s2).1))&&true) then
 qBS (z42 charset1 ((z40 s2).1))
 else none
 else none
 else
 bif (coding0==(3:Int)) then
 bif ((qFa s2)&&true) then
 bif ((qoc charset1 ((z41 s2).1))&&true) then
 qBS (z42 charset1 ((z41 s2).1))
 else none
 else none
 else
 bif ((qoc charset1 s2)&&true) then
 qBS (z42 charset1 s2)
 else none
def qeB (ret:Int→OA) (k0:OA) (next:Int→LI→Int→OA) (_n:Nat) (charset0:Int) (t1:LI) (i5:Int):OA :=
 bif (decide (i5 < (t1.length:Int))) then
 bif ((decide (0≤i5))&&(decide (i5 < t1.length))) then
 bif (!(z131 charset0 (t1.getD i5.toNat 0))) then
 ret i5
 else
 next charset0 t1 (wrap .i64 (i5+1))
 else none
 else
 k0
def qkW (ret:Int→OA) (k0:OA):Nat→Int→LI→Int→OA
 | 0=>fun _ _ _=>none
 | n+1=>qeB ret k0 (qkW ret k0 n) n
def qna (_n:Nat):OA :=
 qKR (-1:Int)
def quH (n:Nat) (charset0:Int) (t1:LI):OA :=
 qkW qKR (qna n) n charset0 t1 (0:Int)
def qVn (_n:Nat) (charset0:Int) (t1:LI):OA :=
 bif (decide ((1:Int)≤charset0)) then
 bif (decide (charset0≤(5:Int))) then
 bif ((qtb charset0 t1)&&true) then
 qBy (decide ((z107 charset0 t1) < (0:Int)))
 else none
 else
 qBy false
 else
 qBy false
def qhf (ret:Int→Int→OA) (k0:OA) (next:LI→Int→OA) (_n:Nat) (t0:LI) (n4:Int):OA :=
 bif (decide (n4≤(5:Int))) then
 bif ((qEC n4 t0)&&true) then
 bif (z51 n4 t0) then
 ret n4 (0:Int)
 else
 next t0 (wrap .i64 (n4+1))
 else none
 else
 k0
def qpl (ret:Int→Int→OA) (k0:OA):Nat→LI→Int→OA
 | 0=>fun _ _=>none
 | n+1=>qhf ret k0 (qpl ret k0 n) n
def qjQ (_n:Nat):OA :=
 qCu (0:Int) (7:Int)
def qIh (n:Nat) (t0:LI):OA :=
 qpl qCu (qjQ n) n t0 (1:Int)
def qjR (ret:Int→Int→LU→Int→OA) (k0:OA) (next:LI→Int→Int→OA) (_n:Nat) (t0:LI) (n6:Int) (coding8:Int):OA :=
 bif (decide (coding8≤(3:Int))) then
 bif ((qwe coding8 n6 t0)&&true) then
 bif (((z14 coding8 n6 t0).2)==(0:Int)) then
 bif ((qwf coding8 n6 ((z14 coding8 n6 t0).1))&&true) then
 bif ((qqo (z20 coding8 n6 ((z14 coding8 n6 t0).1)) t0)&&true) then
 bif (z11 (z20 coding8 n6 ((z14 coding8 n6 t0).1)) t0) then
 ret coding8 n6 ((z14 coding8 n6 t0).1) (0:Int)
 else
 next t0 n6 (wrap .i64 (coding8+1))
 else none
 else none
 else
 next t0 n6 (wrap .i64 (coding8+1))
 else none
 else
 k0
def z9_l5 (ret:Int→Int→LU→Int→OA) (k0:OA):Nat→LI→Int→Int→OA
 | 0=>fun _ _ _=>none
 | n+1=>qjR ret k0 (z9_l5 ret k0 n) n
def qjS (_n:Nat):OA :=
 qmz (0:Int) (0:Int) ([]:LU) (7:Int)
def z9_sh (n:Nat) (t0:LI):OA :=
 bif ((qED t0)&&true) then
 bif (((z26 t0).2) != (0:Int)) then
 qmz (0:Int) (0:Int) ([]:LU) (7:Int)
 else
 z9_l5 qmz (qjS n) n t0 ((z26 t0).1) (1:Int)
 else none
def qhg (ret:Bool→OA) (k0:OA) (next:LU→LU→Int→OA) (_n:Nat) (a0:LU) (b1:LU) (i5:Int):OA :=
 bif (decide (i5 < (a0.length:Int))) then
 bif ((decide (0≤i5))&&(decide (i5 < a0.length))) then
 bif ((decide (0≤i5))&&(decide (i5 < b1.length))) then
 bif ((a0.getD i5.toNat (0:UInt8)) != (b1.getD i5.toNat (0:UInt8))) then
 ret false
 else
 next a0 b1 (wrap .i64 (i5+1))
 else none
 else none
 else
 k0
def qpm (ret:Bool→OA) (k0:OA):Nat→LU→LU→Int→OA
 | 0=>fun _ _ _=>none
 | n+1=>qhg ret k0 (qpm ret k0 n) n
def qCJ (_n:Nat):OA :=
 qBy true
def qIi (n:Nat) (a0:LU) (b1:LU):OA :=
 bif ((a0.length:Int) != (b1.length:Int)) then
 qBy false
 else
 qpm qBy (qCJ n) n a0 b1 (0:Int)
def z3_sh (_n:Nat) (t0:LI):OA :=
 bif (decide ((200:Int) < (t0.length:Int))) then
 qBy z7
 else
 bif ((z8_ok t0)&&true) then
 bif ((z9_ok t0)&&true) then
 bif (((z8 t0).1)==((z9 t0).1)) then
 bif (((z8 t0).2.1)==((z9 t0).2.1)) then
 bif ((qFb ((z8 t0).2.2.1) ((z9 t0).2.2.1))&&true) then
 bif (z10 ((z8 t0).2.2.1) ((z9 t0).2.2.1)) then
 bif (((z8 t0).2.2.2)==((z9 t0).2.2.2)) then
 bif (((z8 t0).2.2.2) != (0:Int)) then
 qBy z7
 else
 bif ((qrA ((z8 t0).1) ((z8 t0).2.1) ((z8 t0).2.2.1))&&true) then
 bif ((qqo (z12 ((z8 t0).1) ((z8 t0).2.1) ((z8 t0).2.2.1)) t0)&&true) then
 bif (z11 (z12 ((z8 t0).1) ((z8 t0).2.1) ((z8 t0).2.2.1)) t0) then
 qBy z7
 else
 qBy false
 else none
 else none
 else
 qBy false
 else
 qBy false
 else none
 else
 qBy false
 else
 qBy false
 else none
 else none
end
end
end Go.Av
