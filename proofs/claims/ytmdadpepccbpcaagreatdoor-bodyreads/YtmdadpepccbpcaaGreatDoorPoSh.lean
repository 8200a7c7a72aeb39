import Derived.Test.YtmdadpepccbpcaaGreatDoorPoA
import Derived.Test.YtmdadpepccbpcaaGreatDoorAvE
namespace Go.Av
set_option linter.unusedSimpArgs false
set_option linter.unusedVariables false
section
open List (length drop take set)
open Int (tmod)
open UInt8 (ofNat toNat)
open IntKind (wrap)
abbrev OA:=Option AV
set_option linter.unusedSimpArgs false
set_option linter.unusedVariables false
noncomputable section
def qHL (s4:Int):OA:=some (dc s4)
def qTB (_n:Nat) (b0:LU) (c1:UInt8):OA :=
 qHL (z141 b0 c1)
def qzM (s2:Bool):OA:=some (dg s2)
def qQZ (_n:Nat) (bufLen0:Int):OA :=
 qzM (decide ((8:Int) < bufLen0))
def qiZ (as2:List Bool) (ok3:Bool):OA:=some (.tup [(.dat (.arr 256 .bool) as2 none),(dg ok3)])
def qdT (ret:List Bool→Bool→OA) (k0:List Bool→OA) (next:LU→List Bool→Int→OA) (_n:Nat) (chars0:LU) (as2:List Bool) (i4:Int):OA :=
 bif (decide (i4 < (chars0.length:Int))) then
 bif ((decide (0≤i4))&&(decide (i4 < chars0.length))) then
 bif (decide ((128:UInt8)≤(chars0.getD i4.toNat (0:UInt8)))) then
 ret as2 false
 else
 bif ((decide (0≤((toNat (chars0.getD i4.toNat (0:UInt8)):Nat):Int)))&&(decide (((toNat (chars0.getD i4.toNat (0:UInt8)):Nat):Int) < (256:Nat)))) then
 next chars0 (set as2 ((toNat (chars0.getD i4.toNat (0:UInt8)):Nat):Int).toNat true) (wrap .i64 (i4+1))
 else none
 else none
 else
 k0 as2
def qhj (ret:List Bool→Bool→OA) (k0:List Bool→OA):Nat→LU→List Bool→Int→OA
 | 0=>fun _ _ _=>none
 | n+1=>qdT ret k0 (qhj ret k0 n) n
def qlC (_n:Nat) (as2:List Bool):OA :=
 qiZ as2 true
def qzN (n:Nat) (chars0:LU):OA :=
 qhj qiZ (qlC n) n chars0 (List.replicate 256 false) (0:Int)
def qHM (_n:Nat) (as0:List Bool) (c1:UInt8):OA :=
 bif ((decide (0≤((toNat c1:Nat):Int)))&&(decide (((toNat c1:Nat):Int) < (256:Nat)))) then
 qzM (as0.getD ((toNat c1:Nat):Int).toNat false)
 else none
def qdU (m0:Int) (ret:Int→OA) (k0:OA) (next:LU→Nat→OA) (_n:Nat) (s28:LU) (s28p:Nat):OA :=
 bif (decide (s28p < s28.length)) then
 bif (decide (s28p < s28.length)) then
 bif ((decL s28 s28p).1==(65533:Int)) then
 ret (0:Int)
 else
 next s28 (bif (decide (s28p < s28.length)) then s28p+(decL s28 s28p).2 else s28p)
 else none
 else
 k0
def qhk (m0:Int) (ret:Int→OA) (k0:OA):Nat→LU→Nat→OA
 | 0=>fun _ _=>none
 | n+1=>(qdU m0) ret k0 ((qhk m0) ret k0 n) n
def qsD (m0:Int) (_n:Nat):OA :=
 qHL (-1:Int)
def qcD (m0:Int) (ret:Int→OA) (k2:OA) (next:List Bool→LU→Int→Int→OA) (_n:Nat) (as7:List Bool) (s60:LU) (s61:Int) (s62:Int):OA :=
 bif (decide (s62 < s61)) then
 bif ((decide (0≤s62))&&(decide (s62 < s60.length))) then
 bif (z168 as7 (s60.getD s62.toNat (0:UInt8))) then
 ret s62
 else
 next as7 s60 s61 (wrap .i64 (s62+1))
 else none
 else
 k2
def qdx (m0:Int) (ret:Int→OA) (k2:OA):Nat→List Bool→LU→Int→Int→OA
 | 0=>fun _ _ _ _=>none
 | n+1=>(qcD m0) ret k2 ((qdx m0) ret k2 n) n
def qja (m0:Int) (_n:Nat):OA :=
 qHL (-1:Int)
def qcE (m0:Int) (ret:Int→OA) (k6:LU→LU→Int→Int→OA) (next:LU→LU→Int→Int→Int→LU→Nat→OA) (_n:Nat) (s0:LU) (chars1:LU) (width11:Int) (i12:Int) (r13:Int) (s121:LU) (s121p:Nat):OA :=
 bif (decide (s121p < s121.length)) then
 bif (decide (s121p < s121.length)) then
 bif (r13==(decL s121 s121p).1) then
 ret i12
 else
 next s0 chars1 width11 i12 r13 s121 (bif (decide (s121p < s121.length)) then s121p+(decL s121 s121p).2 else s121p)
 else none
 else
 k6 s0 chars1 width11 i12
def qcu (m0:Int) (ret:Int→OA) (k6:LU→LU→Int→Int→OA):Nat→LU→LU→Int→Int→Int→LU→Nat→OA
 | 0=>fun _ _ _ _ _ _ _=>none
 | n+1=>(qcE m0) ret k6 ((qcu m0) ret k6 n) n
def qfC (m0:Int) (_ret:Int→OA) (_k4:OA) (next:LU→LU→Int→OA) (_n:Nat) (s0:LU) (chars1:LU) (width11:Int) (i12:Int):OA :=
 next s0 chars1 (wrap .i64 (i12+width11))
def qB (s0:LU) (i12:Int):=(z169 (drop i12.toNat (take (s0.length:Int).toNat s0)))
def qdy (m0:Int) (ret:Int→OA) (k4:OA) (next:LU→LU→Int→OA) (n:Nat) (s0:LU) (chars1:LU) (i12:Int):OA :=
 bif (decide (i12 < (s0.length:Int))) then bif ((decide (0≤i12))&&(decide (i12 < s0.length))) then bif (decide ((wrap .i32 ((toNat (s0.getD i12.toNat (0:UInt8)):Nat):Int)) < (128:Int))) then bif ((decide (0≤i12))&&(decide (i12 < s0.length))) then bif (decide (0≤(z164 chars1 (s0.getD i12.toNat (0:UInt8))))) then ret i12 else next s0 chars1 (wrap .i64 (i12+1)) else none else bif (((decide (0≤i12))&&(decide (i12≤(s0.length:Int))))&&(decide ((s0.length:Int)≤(s0.length:Int)))) then bif ((qnf (drop i12.toNat (take (s0.length:Int).toNat s0)))&&true) then bif (((qB s0 i12).1) != (65533:Int)) then bif ((chars1.length:Int)==((qB s0 i12).2)) then bif (chars1==(Utf8.encode ((qB s0 i12).1)).data.toList) then ret i12 else next s0 chars1 (wrap .i64 (i12+((qB s0 i12).2))) else bif (decide (((qB s0 i12).2)≤m0)) then bif ((qne m0 chars1 (Utf8.encode ((qB s0 i12).1)).data.toList)&&true) then bif (decide (0≤(z170 chars1 (Utf8.encode ((qB s0 i12).1)).data.toList))) then ret i12 else next s0 chars1 (wrap .i64 (i12+((qB s0 i12).2))) else none else (qcu m0) ret ((qfC m0) ret k4 next n) n s0 chars1 ((qB s0 i12).2) i12 ((qB s0 i12).1) chars1 0 else (qcu m0) ret ((qfC m0) ret k4 next n) n s0 chars1 ((qB s0 i12).2) i12 ((qB s0 i12).1) chars1 0 else none else none else none else k4
def qcv (m0:Int) (ret:Int→OA) (k4:OA):Nat→LU→LU→Int→OA
 | 0=>fun _ _ _=>none
 | n+1=>(qdy m0) ret k4 ((qcv m0) ret k4 n) n
def qfD (m0:Int) (_n:Nat):OA :=
 qHL (-1:Int)
def qdz (chars1:LU):=(wrap .i32 ((toNat (chars1.getD (0:Int).toNat (0:UInt8)):Nat):Int))
def qsE (m0:Int) (n:Nat) (s0:LU) (chars1:LU):OA :=
 bif (chars1==([]:LU)) then qHL (-1:Int) else bif ((s0.length:Int)==(1:Int)) then bif ((decide (0≤(0:Int)))&&(decide ((0:Int) < s0.length))) then bif (decide ((128:Int)≤(wrap .i32 ((toNat (s0.getD (0:Int).toNat (0:UInt8)):Nat):Int)))) then (qhk m0) qHL ((qsD m0) n) n chars1 0 else bif ((decide (0≤(0:Int)))&&(decide ((0:Int) < s0.length))) then bif (decide (0≤(z164 chars1 (s0.getD (0:Int).toNat (0:UInt8))))) then qHL (0:Int) else qHL (-1:Int) else none else none else bif ((chars1.length:Int)==(1:Int)) then bif ((decide (0≤(0:Int)))&&(decide ((0:Int) < chars1.length))) then bif (decide ((128:Int)≤(qdz chars1))) then bif ((qwD s0 (65533:Int))&&true) then qHL (z165 s0 (65533:Int)) else none else bif ((qwD s0 (qdz chars1))&&true) then qHL (z165 s0 (qdz chars1)) else none else none else bif (z166 (s0.length:Int)) then bif ((qco chars1)&&true) then bif ((z167 chars1).2) then (qdx m0) qHL ((qja m0) n) n ((z167 chars1).1) s0 (s0.length:Int) (0:Int) else (qcv m0) qHL ((qfD m0) n) n s0 chars1 (0:Int) else none else (qcv m0) qHL ((qfD m0) n) n s0 chars1 (0:Int)
def qRa (_n:Nat) (a0:LU) (b1:LU):OA :=
 qzM (a0==b1)
def qHN (_n:Nat) (s0:LU) (prefix1:LU):OA :=
 bif (decide ((prefix1.length:Int)≤(s0.length:Int))) then
 bif (((decide (0≤((0:Nat):Int)))&&(decide (((0:Nat):Int)≤(prefix1.length:Int))))&&(decide ((prefix1.length:Int)≤(s0.length:Int)))) then
 qzM (z194 (drop ((0:Nat):Int).toNat (take (prefix1.length:Int).toNat s0)) prefix1)
 else none
 else
 qzM false
def qHO (_n:Nat) (s0:LU):OA :=
 bif (z171 s0 ([(13:UInt8),(10:UInt8)]:LU)) then
 qHL (2:Int)
 else
 bif (decide ((0:Int) < (s0.length:Int))) then
 qHL (1:Int)
 else
 qHL (0:Int)
def qjc (V:Sigma Inv) (xv:Den V.1) (s36:LU):OA:=some (.tup [(.tup []),(.abs V.1 V.2 xv),(.pbox (.leaf (.sl .byte)) s36 none)])
def qaC (s36:LU):=(wrap .i64 ((z109 s36 ([13,10]:LU))+(z110 (drop (z109 s36 ([13,10]:LU)).toNat (take (s36.length:Int).toNat s36)))))
def qaD (s36:LU):=(wrap .i64 ((s36.length:Int)+(z110 (drop (s36.length:Int).toNat (take (s36.length:Int).toNat s36)))))
def qU (s36:LU):=(z109 s36 ([13,10]:LU))
def qaE (s36:LU):=(decide ((s36.length:Int)≤(s36.length:Int)))
def qbU (s36:LU):=(drop (s36.length:Int).toNat (take (qaD s36).toNat s36))
def qbV (s36:LU):=(drop (qU s36).toNat (take (qaC s36).toNat s36))
def qbW (s36:LU):=(drop ((0:Nat):Int).toNat (take (s36.length:Int).toNat s36))
def qbX (s36:LU):=(drop ((0:Nat):Int).toNat (take (qU s36).toNat s36))
def qhR (V:Sigma Inv) (ret:Den V.1→LU→OA) (k0:Den V.1→LU→OA) (next:Den V.1→LU→OA) (_n:Nat) (xv:Den V.1) (s36:LU):OA :=
 bif (decide ((0:Int) < (s36.length:Int))) then bif ((qet s36 ([13,10]:LU))&&true) then bif (decide ((qU s36) < (0:Int))) then bif (((decide (0≤(s36.length:Int)))&&(qaE s36))&&(qaE s36)) then bif (((decide (0≤((0:Nat):Int)))&&(decide (((0:Nat):Int)≤(s36.length:Int))))&&(qaE s36)) then bif (((decide (0≤(s36.length:Int)))&&(decide ((s36.length:Int)≤(qaD s36))))&&(decide ((qaD s36)≤(s36.length:Int)))) then bif (V.2.spec xv [⟨(.sl .byte),(qbW s36)⟩,⟨(.sl .byte),(qbU s36)⟩]).1 then bif (!(V.2.spec xv [⟨(.sl .byte),(qbW s36)⟩,⟨(.sl .byte),(qbU s36)⟩]).2.1) then ret (V.2.spec xv [⟨(.sl .byte),(qbW s36)⟩,⟨(.sl .byte),(qbU s36)⟩]).2.2 s36 else bif (((decide (0≤(qaD s36)))&&(decide ((qaD s36)≤(s36.length:Int))))&&(qaE s36)) then next (V.2.spec xv [⟨(.sl .byte),(qbW s36)⟩,⟨(.sl .byte),(qbU s36)⟩]).2.2 (drop (qaD s36).toNat (take (s36.length:Int).toNat s36)) else none else none else none else none else none else bif (((decide (0≤(qU s36)))&&(decide ((qU s36)≤(s36.length:Int))))&&(qaE s36)) then bif (((decide (0≤((0:Nat):Int)))&&(decide (((0:Nat):Int)≤(qU s36))))&&(decide ((qU s36)≤(s36.length:Int)))) then bif (((decide (0≤(qU s36)))&&(decide ((qU s36)≤(qaC s36))))&&(decide ((qaC s36)≤(s36.length:Int)))) then bif (V.2.spec xv [⟨(.sl .byte),(qbX s36)⟩,⟨(.sl .byte),(qbV s36)⟩]).1 then bif (!(V.2.spec xv [⟨(.sl .byte),(qbX s36)⟩,⟨(.sl .byte),(qbV s36)⟩]).2.1) then ret (V.2.spec xv [⟨(.sl .byte),(qbX s36)⟩,⟨(.sl .byte),(qbV s36)⟩]).2.2 s36 else bif (((decide (0≤(qaC s36)))&&(decide ((qaC s36)≤(s36.length:Int))))&&(qaE s36)) then next (V.2.spec xv [⟨(.sl .byte),(qbX s36)⟩,⟨(.sl .byte),(qbV s36)⟩]).2.2 (drop (qaC s36).toNat (take (s36.length:Int).toNat s36)) else none else none else none else none else none else none else k0 xv s36
def qhl (V:Sigma Inv) (ret:Den V.1→LU→OA) (k0:Den V.1→LU→OA):Nat→Den V.1→LU→OA
 | 0=>fun _ _=>none
 | n+1=>(qhR V) ret k0 ((qhl V) ret k0 n) n
def qsF (V:Sigma Inv) (_n:Nat) (xv:Den V.1) (s36:LU):OA :=
 (qjc V) xv s36
def qzQ (V:Sigma Inv) (n:Nat) (x0:Den V.1) (x1:LU):OA :=
 (qhl V) (qjc V) ((qsF V) n) n x0 x1
def qTC (_n:Nat) (s0:LU):OA :=
 some (.abs (qds [.leaf (.sl .byte)]) (clInv 108 [.leaf (.sl .byte)]) (s0,()))
def qzR (s4:LU):OA:=some (da s4)
def qbb (s0:LU):=(wrap .i64 ((s0.length:Int) - (1:Int)))
def qsG (k0:LU→OA) (next:LU→UInt8→OA) (_n:Nat) (s0:LU) (c1:UInt8):OA :=
 bif (decide ((0:Int) < (s0.length:Int))) then bif ((decide (0≤(qbb s0)))&&(decide ((qbb s0) < s0.length))) then bif ((s0.getD (qbb s0).toNat (0:UInt8))==c1) then bif (((decide (0≤((0:Nat):Int)))&&(decide (((0:Nat):Int)≤(qbb s0))))&&(decide ((qbb s0)≤(s0.length:Int)))) then next (drop ((0:Nat):Int).toNat (take (qbb s0).toNat s0)) c1 else none else k0 s0 else none else k0 s0
def qnR (k0:LU→OA):Nat→LU→UInt8→OA
 | 0=>fun _ _=>none
 | n+1=>qsG k0 (qnR k0 n) n
def qsH (_n:Nat) (s0:LU):OA :=
 qzR s0
def qzS (n:Nat) (s0:LU) (c1:UInt8):OA :=
 qnR (qsH n) n s0 c1
def qaF (s0:LU):=(wrap .i64 ((s0.length:Int) - (1:Int)))
def qhS (k0:LU→OA) (next:LU→List Bool→OA) (_n:Nat) (s0:LU) (as1:List Bool):OA :=
 bif (decide ((0:Int) < (s0.length:Int))) then bif ((decide (0≤(qaF s0)))&&(decide ((qaF s0) < s0.length))) then bif (!(z168 as1 (s0.getD (qaF s0).toNat (0:UInt8)))) then k0 s0 else bif (((decide (0≤((0:Nat):Int)))&&(decide (((0:Nat):Int)≤(qaF s0))))&&(decide ((qaF s0)≤(s0.length:Int)))) then next (drop ((0:Nat):Int).toNat (take (qaF s0).toNat s0)) as1 else none else none else k0 s0
def qjd (k0:LU→OA):Nat→LU→List Bool→OA
 | 0=>fun _ _=>none
 | n+1=>qhS k0 (qjd k0 n) n
def qsI (_n:Nat) (s0:LU):OA :=
 qzR s0
def qsJ (n:Nat) (s0:LU) (as1:List Bool):OA :=
 qjd (qsI n) n s0 as1
def qzU (_n:Nat) (s0:LU) (cutset1:LU):OA :=
 bif ((s0.length:Int)==(0:Int)) then
 qzR s0
 else
 bif (cutset1==([]:LU)) then
 qzR s0
 else
 bif ((cutset1.length:Int)==(1:Int)) then
 bif ((decide (0≤(0:Int)))&&(decide ((0:Int) < cutset1.length))) then
 bif (decide ((cutset1.getD (0:Int).toNat (0:UInt8)) < (128:UInt8))) then
 bif ((decide (0≤(0:Int)))&&(decide ((0:Int) < cutset1.length))) then
 bif ((qrW s0 (cutset1.getD (0:Int).toNat (0:UInt8)))&&true) then
 qzR (z206 s0 (cutset1.getD (0:Int).toNat (0:UInt8)))
 else none
 else none
 else
 bif ((qco cutset1)&&true) then
 bif ((z167 cutset1).2) then
 bif ((qhg s0 ((z167 cutset1).1))&&true) then
 qzR (z208 s0 ((z167 cutset1).1))
 else none
 else
 bif ((qnh s0 cutset1)&&true) then
 qzR (z210 s0 cutset1)
 else none
 else none
 else none
 else
 bif ((qco cutset1)&&true) then
 bif ((z167 cutset1).2) then
 bif ((qhg s0 ((z167 cutset1).1))&&true) then
 qzR (z208 s0 ((z167 cutset1).1))
 else none
 else
 bif ((qnh s0 cutset1)&&true) then
 qzR (z210 s0 cutset1)
 else none
 else none
def qHP (_n:Nat) (s0:LU) (suffix1:LU):OA :=
 bif (decide ((suffix1.length:Int)≤(s0.length:Int))) then
 bif (((decide (0≤(wrap .i64 ((s0.length:Int) - (suffix1.length:Int)))))&&(decide ((wrap .i64 ((s0.length:Int) - (suffix1.length:Int)))≤(s0.length:Int))))&&(decide ((s0.length:Int)≤(s0.length:Int)))) then
 qzM (z194 (drop (wrap .i64 ((s0.length:Int) - (suffix1.length:Int))).toNat (take (s0.length:Int).toNat s0)) suffix1)
 else none
 else
 qzM false
def qqx (before4:LU) (found5:Bool):OA:=some (.tup [(da before4),(dg found5)])
def qHQ (_n:Nat) (s0:LU) (suffix1:LU):OA :=
 bif ((qkj s0 suffix1)&&true) then
 bif (!(z215 s0 suffix1)) then
 qqx s0 false
 else
 bif (((decide (0≤((0:Nat):Int)))&&(decide (((0:Nat):Int)≤(wrap .i64 ((s0.length:Int) - (suffix1.length:Int))))))&&(decide ((wrap .i64 ((s0.length:Int) - (suffix1.length:Int)))≤(s0.length:Int)))) then
 qqx (drop ((0:Nat):Int).toNat (take (wrap .i64 ((s0.length:Int) - (suffix1.length:Int))).toNat s0)) true
 else none
 else none
def qHR (_n:Nat) (l0:LU):OA :=
 bif ((qkp l0 ([32,9]:LU))&&true) then
 bif ((qrX (z172 l0 ([32,9]:LU)) ([(61:UInt8)]:LU))&&true) then
 qqx ((z173 (z172 l0 ([32,9]:LU)) ([(61:UInt8)]:LU)).1) ((z173 (z172 l0 ([32,9]:LU)) ([(61:UInt8)]:LU)).2)
 else none
 else none
def qZ:=(bits .or .i64 (bits .or .i64 (0:Int) (1:Int)) (656:Int))
def qdA:=(bits .or .i64 (bits .or .i64 (0:Int) (1:Int)) (2:Int))
def qHS (_n:Nat) (c0:UInt8):OA :=
 bif (decide (c0 < (32:UInt8))) then bif (c0==(32:UInt8)) then qHL (qdA) else bif (c0==(9:UInt8)) then qHL (qdA) else bif (decide ((48:UInt8)≤c0)) then bif (decide (c0≤(57:UInt8))) then qHL (bits .or .i64 (bits .or .i64 (0:Int) (1:Int)) (648:Int)) else bif (decide ((65:UInt8)≤c0)) then bif (decide (c0≤(90:UInt8))) then bif (decide (c0≤(90:UInt8))) then qHL (qZ) else qHL (bits .or .i64 (0:Int) (1:Int)) else bif (decide ((97:UInt8)≤c0)) then bif (decide (c0≤(122:UInt8))) then qHL (qZ) else qHL (bits .or .i64 (0:Int) (1:Int)) else qHL (bits .or .i64 (0:Int) (1:Int)) else bif (decide ((97:UInt8)≤c0)) then bif (decide (c0≤(122:UInt8))) then qHL (qZ) else qHL (bits .or .i64 (0:Int) (1:Int)) else qHL (bits .or .i64 (0:Int) (1:Int)) else bif (decide ((65:UInt8)≤c0)) then bif (decide (c0≤(90:UInt8))) then bif (decide (c0≤(90:UInt8))) then qHL (qZ) else qHL (bits .or .i64 (0:Int) (1:Int)) else bif (decide ((97:UInt8)≤c0)) then bif (decide (c0≤(122:UInt8))) then qHL (qZ) else qHL (bits .or .i64 (0:Int) (1:Int)) else qHL (bits .or .i64 (0:Int) (1:Int)) else bif (decide ((97:UInt8)≤c0)) then bif (decide (c0≤(122:UInt8))) then qHL (qZ) else qHL (bits .or .i64 (0:Int) (1:Int)) else qHL (bits .or .i64 (0:Int) (1:Int)) else bif (c0==(127:UInt8)) then bif (c0==(32:UInt8)) then qHL (qdA) else bif (c0==(9:UInt8)) then qHL (qdA) else bif (decide ((48:UInt8)≤c0)) then bif (decide (c0≤(57:UInt8))) then qHL (bits .or .i64 (bits .or .i64 (0:Int) (1:Int)) (648:Int)) else bif (decide ((65:UInt8)≤c0)) then bif (decide (c0≤(90:UInt8))) then bif (decide (c0≤(90:UInt8))) then qHL (qZ) else qHL (bits .or .i64 (0:Int) (1:Int)) else bif (decide ((97:UInt8)≤c0)) then bif (decide (c0≤(122:UInt8))) then qHL (qZ) else qHL (bits .or .i64 (0:Int) (1:Int)) else qHL (bits .or .i64 (0:Int) (1:Int)) else bif (decide ((97:UInt8)≤c0)) then bif (decide (c0≤(122:UInt8))) then qHL (qZ) else qHL (bits .or .i64 (0:Int) (1:Int)) else qHL (bits .or .i64 (0:Int) (1:Int)) else bif (decide ((65:UInt8)≤c0)) then bif (decide (c0≤(90:UInt8))) then bif (decide (c0≤(90:UInt8))) then qHL (qZ) else qHL (bits .or .i64 (0:Int) (1:Int)) else bif (decide ((97:UInt8)≤c0)) then bif (decide (c0≤(122:UInt8))) then qHL (qZ) else qHL (bits .or .i64 (0:Int) (1:Int)) else qHL (bits .or .i64 (0:Int) (1:Int)) else bif (decide ((97:UInt8)≤c0)) then bif (decide (c0≤(122:UInt8))) then qHL (qZ) else qHL (bits .or .i64 (0:Int) (1:Int)) else qHL (bits .or .i64 (0:Int) (1:Int)) else bif (c0==(32:UInt8)) then qHL (bits .or .i64 (0:Int) (2:Int)) else bif (c0==(9:UInt8)) then qHL (bits .or .i64 (0:Int) (2:Int)) else bif (decide ((48:UInt8)≤c0)) then bif (decide (c0≤(57:UInt8))) then qHL (bits .or .i64 (0:Int) (648:Int)) else bif (decide ((65:UInt8)≤c0)) then bif (decide (c0≤(90:UInt8))) then bif (decide (c0≤(90:UInt8))) then qHL (bits .or .i64 (0:Int) (656:Int)) else qHL (0:Int) else bif (decide ((97:UInt8)≤c0)) then bif (decide (c0≤(122:UInt8))) then qHL (bits .or .i64 (0:Int) (656:Int)) else qHL (0:Int) else qHL (0:Int) else bif (decide ((97:UInt8)≤c0)) then bif (decide (c0≤(122:UInt8))) then qHL (bits .or .i64 (0:Int) (656:Int)) else qHL (0:Int) else qHL (0:Int) else bif (decide ((65:UInt8)≤c0)) then bif (decide (c0≤(90:UInt8))) then bif (decide (c0≤(90:UInt8))) then qHL (bits .or .i64 (0:Int) (656:Int)) else qHL (0:Int) else bif (decide ((97:UInt8)≤c0)) then bif (decide (c0≤(122:UInt8))) then qHL (bits .or .i64 (0:Int) (656:Int)) else qHL (0:Int) else qHL (0:Int) else bif (decide ((97:UInt8)≤c0)) then bif (decide (c0≤(122:UInt8))) then qHL (bits .or .i64 (0:Int) (656:Int)) else qHL (0:Int) else qHL (0:Int)
def qRb (_n:Nat) (s0:LU) (c1:UInt8):OA :=
 qHL (z164 s0 c1)
def qRc (_n:Nat) (s0:LU) (c1:UInt8):OA :=
 qHL (z236 s0 c1)
def qRd (_n:Nat) (s0:LU) (c1:UInt8):OA :=
 qzM (decide (0≤(z216 s0 c1)))
def qbx (c0:UInt8):=(bits .or .i64 (z228 c0) (4:Int))
def qdB (c0:UInt8):=(z229 ([40,41,60,62,64,44,59,58,92,34,47,91,93,63,61]:LU) c0)
def qbY (c0:UInt8):=(bits .or .i64 (qbx c0) (128:Int))
def qHT (_n:Nat) (c0:UInt8):OA :=
 bif (decide (c0 < (33:UInt8))) then qHL (z228 c0) else bif (decide ((126:UInt8) < c0)) then qHL (z228 c0) else bif (z229 ([33,42,43,45,47]:LU) c0) then bif (z229 ([43,47]:LU) c0) then bif (qdB c0) then qHL (bits .or .i64 (bits .or .i64 (qbY c0) (512:Int)) (32:Int)) else bif (!(z229 ([42,39,37]:LU) c0)) then qHL (bits .or .i64 (bits .or .i64 (bits .or .i64 (qbY c0) (512:Int)) (64:Int)) (256:Int)) else qHL (bits .or .i64 (bits .or .i64 (qbY c0) (512:Int)) (64:Int)) else bif (qdB c0) then qHL (bits .or .i64 (qbY c0) (32:Int)) else bif (!(z229 ([42,39,37]:LU) c0)) then qHL (bits .or .i64 (bits .or .i64 (qbY c0) (64:Int)) (256:Int)) else qHL (bits .or .i64 (qbY c0) (64:Int)) else bif (z229 ([43,47]:LU) c0) then bif (qdB c0) then qHL (bits .or .i64 (bits .or .i64 (qbx c0) (512:Int)) (32:Int)) else bif (!(z229 ([42,39,37]:LU) c0)) then qHL (bits .or .i64 (bits .or .i64 (bits .or .i64 (qbx c0) (512:Int)) (64:Int)) (256:Int)) else qHL (bits .or .i64 (bits .or .i64 (qbx c0) (512:Int)) (64:Int)) else bif (qdB c0) then qHL (bits .or .i64 (qbx c0) (32:Int)) else bif (!(z229 ([42,39,37]:LU) c0)) then qHL (bits .or .i64 (bits .or .i64 (qbx c0) (64:Int)) (256:Int)) else qHL (bits .or .i64 (qbx c0) (64:Int))
def qRe (_n:Nat) (c0:UInt8) (kinds1:Int):OA :=
 qzM ((bits .and .i64 (z198 c0) kinds1) != (0:Int))
def qlD (s2:UInt8):OA:=some (dm s2)
def qHU (_n:Nat) (c0:UInt8):OA :=
 bif (decide ((65:UInt8)≤c0)) then
 bif (decide (c0≤(90:UInt8))) then
 qlD (c0 ||| (32:UInt8))
 else
 qlD c0
 else
 qlD c0
def qje (s2:Int) (s3:Bool):OA:=some (.tup [(dc s2),(dg s3)])
def qHV (_n:Nat) (c0:UInt8):OA :=
 bif (z144 (z154 c0) (8:Int)) then
 qje (wrap .i64 ((toNat ((z154 c0) - (48:UInt8)):Nat):Int)) true
 else
 bif (decide ((97:UInt8)≤(z154 c0))) then
 bif (decide ((z154 c0)≤(102:UInt8))) then
 qje (wrap .i64 ((wrap .i64 ((toNat ((z154 c0) - (97:UInt8)):Nat):Int))+(10:Int))) true
 else
 qje (0:Int) false
 else
 qje (0:Int) false
def qlE (s4:UInt8) (s5:Bool):OA:=some (.tup [(dm s4),(dg s5)])
def qHW (_n:Nat) (a0:UInt8) (b1:UInt8):OA :=
 bif (!((z230 a0).2)) then
 qlE (0:UInt8) false
 else
 bif (!((z230 b1).2)) then
 qlE (0:UInt8) false
 else
 qlE (ofNat (wrap .u8 (bits .or .i64 (wrap .i64 (((z230 a0).1)*2 ^ (min (4:Int).toNat (IntKind.bits .i64)))) ((z230 b1).1))).toNat) true
def qjg (s0:LU) (at1:Int):=(z199 (s0.getD (wrap .i64 (at1+1)).toNat (0:UInt8)) (s0.getD (wrap .i64 (at1+(2:Int))).toNat (0:UInt8)))
def qHX (_n:Nat) (s0:LU) (at1:Int) (sign2:UInt8):OA :=
 bif (decide (at1 < (0:Int))) then qlE (0:UInt8) false else bif (decide ((wrap .i64 ((s0.length:Int) - (3:Int))) < at1)) then qlE (0:UInt8) false else bif ((decide (0≤at1))&&(decide (at1 < s0.length))) then bif ((s0.getD at1.toNat (0:UInt8)) != sign2) then qlE (0:UInt8) false else bif ((decide (0≤(wrap .i64 (at1+1))))&&(decide ((wrap .i64 (at1+1)) < s0.length))) then bif ((decide (0≤(wrap .i64 (at1+(2:Int)))))&&(decide ((wrap .i64 (at1+(2:Int))) < s0.length))) then qlE ((qjg s0 at1).1) ((qjg s0 at1).2) else none else none else none
def qAa (s2:LU) (s3:Int):OA:=some (.tup [(da s2),(dc s3)])
def qbc (l0:LU) (at6:Int):=([(l0.getD at6.toNat (0:UInt8))]:LU)
def qdV (k0:LU→Int→OA) (next:LU→LU→Int→Int→OA) (_n:Nat) (l0:LU) (out4:LU) (strange5:Int) (at6:Int):OA :=
 bif (decide (at6 < (l0.length:Int))) then bif ((qkh l0 at6 (61:UInt8))&&true) then bif ((z145 l0 at6 (61:UInt8)).2) then bif (decide (out4.length+length ([((z145 l0 at6 (61:UInt8)).1)]:LU)≤room)) then next l0 (out4++([((z145 l0 at6 (61:UInt8)).1)]:LU)) strange5 (wrap .i64 (at6+(3:Int))) else none else bif ((decide (0≤at6))&&(decide (at6 < l0.length))) then bif ((l0.getD at6.toNat (0:UInt8))==(61:UInt8)) then bif ((decide (0≤at6))&&(decide (at6 < l0.length))) then bif (decide (out4.length+length (qbc l0 at6)≤room)) then next l0 (out4++(qbc l0 at6)) (wrap .i64 (strange5+1)) (wrap .i64 (at6+1)) else none else none else bif ((decide (0≤at6))&&(decide (at6 < l0.length))) then bif (decide (out4.length+length (qbc l0 at6)≤room)) then next l0 (out4++(qbc l0 at6)) strange5 (wrap .i64 (at6+1)) else none else none else none else none else k0 out4 strange5
def qkq (k0:LU→Int→OA):Nat→LU→LU→Int→Int→OA
 | 0=>fun _ _ _ _=>none
 | n+1=>qdV k0 (qkq k0 n) n
def qlF (_n:Nat) (out4:LU) (strange5:Int):OA :=
 qAa out4 strange5
def qsK (n:Nat) (l0:LU):OA :=
 qkq (qlF n) n l0 ([]:LU) (0:Int) (0:Int)
def qRf (_n:Nat) (l0:LU):OA :=
 bif ((qsB l0)&&true) then
 bif ((qsC ((z111 l0).1))&&true) then
 qqx ((z112 ((z111 l0).1)).1) ((z111 l0).2)
 else none
 else none
def qqy (n:Nat) (x:Bool×LU×Unit) (y0:LU) (y1:LU):Bool×Bool×(Bool×LU×Unit) :=
 bif x.1 then (false,false,x) else yfin (.pair (.sl .byte) .unit) x (
 bif ((qFk y0)&&true) then
 bif (decide (length x.2.1+length ((z53 y0).1)≤room)) then
 bif (!((z53 y0).2)) then
 bif (decide (length (x.2.1++((z53 y0).1))+y1.length≤room)) then
 some (.dat (.pair .bool (.pair (.sl .byte) .unit)) (false,(((x.2.1++((z53 y0).1))++y1),())) none)
 else none
 else
 some (.dat (.pair .bool (.pair (.sl .byte) .unit)) (false,((x.2.1++((z53 y0).1)),())) none)
 else none
 else none)
def qLB (n:Nat) (s0:LU):OA :=
 bif (z108 (qqy n) (false,(([]:LU),())) s0).1 then
 bif (z108 (qqy n) (false,(([]:LU),())) s0).2.1.1 then
 qzR ([]:LU)
 else
 qzR (z108 (qqy n) (false,(([]:LU),())) s0).2.1.2.1
 else none
def qjh (c0:UInt8):=(z216 ([65,66,67,68,69,70,71,72,73,74,75,76,77,78,79,80,81,82,83,84,85,86,87,88,89,90,97,98,99,100,101,102,103,104,105,106,107,108,109,110,111,112,113,114,115,116,117,118,119,120,121,122,48,49,50,51,52,53,54,55,56,57,43,47]:LU) c0)
def qRg (_n:Nat) (c0:UInt8):OA :=
 qje (bif (decide ((0:Int) > (qjh c0))) then (0:Int) else (qjh c0)) (decide (0≤(qjh c0)))
def qA (s7:LU) (s9:Int):=(s7.getD s9.toNat (0:UInt8))
def qdW (V:Sigma Inv) (ret:Den V.1→LU→OA) (k0:Den V.1→LU→OA) (next:LU→Int→Int→Den V.1→LU→OA) (_n:Nat) (s7:LU) (s8:Int) (s9:Int) (xv:Den V.1) (s29:LU):OA :=
 bif (decide (s9 < s8)) then bif ((decide (0≤s9))&&(decide (s9 < s7.length))) then bif ((qA s7 s9)==(61:UInt8)) then ret xv s29 else bif (!((z175 (qA s7 s9)).2)) then bif (V.2.spec xv [⟨.byte,(qA s7 s9)⟩,⟨(.int .i64),(-1:Int)⟩]).1 then bif (!(V.2.spec xv [⟨.byte,(qA s7 s9)⟩,⟨(.int .i64),(-1:Int)⟩]).2.1) then ret (V.2.spec xv [⟨.byte,(qA s7 s9)⟩,⟨(.int .i64),(-1:Int)⟩]).2.2 s29 else next s7 s8 (wrap .i64 (s9+1)) (V.2.spec xv [⟨.byte,(qA s7 s9)⟩,⟨(.int .i64),(-1:Int)⟩]).2.2 s29 else none else bif (V.2.spec xv [⟨.byte,(qA s7 s9)⟩,⟨(.int .i64),((z175 (qA s7 s9)).1)⟩]).1 then bif (!(V.2.spec xv [⟨.byte,(qA s7 s9)⟩,⟨(.int .i64),((z175 (qA s7 s9)).1)⟩]).2.1) then ret (V.2.spec xv [⟨.byte,(qA s7 s9)⟩,⟨(.int .i64),((z175 (qA s7 s9)).1)⟩]).2.2 s29 else next s7 s8 (wrap .i64 (s9+1)) (V.2.spec xv [⟨.byte,(qA s7 s9)⟩,⟨(.int .i64),((z175 (qA s7 s9)).1)⟩]).2.2 s29 else none else none else k0 xv s29
def qhm (V:Sigma Inv) (ret:Den V.1→LU→OA) (k0:Den V.1→LU→OA):Nat→LU→Int→Int→Den V.1→LU→OA
 | 0=>fun _ _ _ _ _=>none
 | n+1=>(qdW V) ret k0 ((qhm V) ret k0 n) n
def qfE (V:Sigma Inv) (_n:Nat) (xv:Den V.1) (s29:LU):OA :=
 (qjc V) xv s29
def qsL (V:Sigma Inv) (n:Nat) (x0:Den V.1) (x1:LU):OA :=
 (qhm V) (qjc V) ((qfE V) n) n x1 (x1.length:Int) (0:Int) x0 x1
def qRh (_n:Nat) (s0:LU):OA :=
 some (.abs (qds [.leaf (.sl .byte)]) (clInv 174 [.leaf (.sl .byte)]) (s0,()))
def qnS (n:Nat) (x:Bool×LU×Int×Int×Unit) (y0:UInt8) (y1:Int):Bool×Bool×(Bool×LU×Int×Int×Unit) :=
 bif x.1 then (false,false,x) else yfin (.pair (.sl .byte) (.pair (.int .i64) (.pair (.int .i64) .unit))) x (
 bif (decide (y1 < (0:Int))) then
 some (.dat (.pair .bool (.pair (.sl .byte) (.pair (.int .i64) (.pair (.int .i64) .unit)))) (false,(x.2.1,(x.2.2.1,(x.2.2.2.1,())))) none)
 else
 bif (decide ((8:Int)≤(wrap .i64 (x.2.2.2.1+(6:Int))))) then
 bif (decide (0≤(wrap .i64 ((wrap .i64 (x.2.2.2.1+(6:Int))) - (8:Int))))) then
 bif (decide (length x.2.1+length ([(ofNat (wrap .u8 (Int.fdiv (bits .or .i64 (wrap .i64 (x.2.2.1*2 ^ (min (6:Int).toNat (IntKind.bits .i64)))) y1) (2 ^ (min (wrap .i64 ((wrap .i64 (x.2.2.2.1+(6:Int))) - (8:Int))).toNat (IntKind.bits .i64))))).toNat)]:LU)≤room)) then
 bif (decide (0≤(wrap .i64 ((wrap .i64 (x.2.2.2.1+(6:Int))) - (8:Int))))) then
 some (.dat (.pair .bool (.pair (.sl .byte) (.pair (.int .i64) (.pair (.int .i64) .unit)))) (false,((x.2.1++([(ofNat (wrap .u8 (Int.fdiv (bits .or .i64 (wrap .i64 (x.2.2.1*2 ^ (min (6:Int).toNat (IntKind.bits .i64)))) y1) (2 ^ (min (wrap .i64 ((wrap .i64 (x.2.2.2.1+(6:Int))) - (8:Int))).toNat (IntKind.bits .i64))))).toNat)]:LU)),((bits .and .i64 (bits .or .i64 (wrap .i64 (x.2.2.1*2 ^ (min (6:Int).toNat (IntKind.bits .i64)))) y1) (wrap .i64 ((wrap .i64 ((1:Int)*2 ^ (min (wrap .i64 ((wrap .i64 (x.2.2.2.1+(6:Int))) - (8:Int))).toNat (IntKind.bits .i64)))) - (1:Int)))),((wrap .i64 ((wrap .i64 (x.2.2.2.1+(6:Int))) - (8:Int))),())))) none)
 else none
 else none
 else none
 else
 some (.dat (.pair .bool (.pair (.sl .byte) (.pair (.int .i64) (.pair (.int .i64) .unit)))) (false,(x.2.1,((bits .or .i64 (wrap .i64 (x.2.2.1*2 ^ (min (6:Int).toNat (IntKind.bits .i64)))) y1),((wrap .i64 (x.2.2.2.1+(6:Int))),())))) none))
def qfF (n:Nat) (s0:LU):=(z174 (qnS n) (false,(([]:LU),((0:Int),((0:Int),())))) s0)
def qhT (n:Nat) (s0:LU):=( qAa (qfF n s0).2.1.2.1 (qfF n s0).2.1.2.2.2.1)
def qLC (n:Nat) (s0:LU):OA :=
 bif (qfF n s0).1 then bif (qfF n s0).2.1.1 then qAa ([]:LU) (0:Int) else both ( both (qhT n s0) (qhT n s0)) (qhT n s0) else none
def qRi (_n:Nat) (s0:LU):OA :=
 bif ((qCy s0)&&true) then
 qzR ((z54 s0).1)
 else none
def qAd (s2:LI):OA:=some (.dat (.sl (.int .i32)) s2 (some (2,21)))
def qgu (k0:LI→OA) (next:LI→LU→Int→Int→OA) (_n:Nat) (t3:LI) (s9:LU) (s10:Int) (s11:Int):OA :=
 bif (decide (s11 < s10)) then
 bif ((decide (0≤s11))&&(decide (s11 < s9.length))) then
 bif ((decide (0≤s11))&&(decide (s11 < t3.length))) then
 next (set t3 s11.toNat (wrap .i32 ((toNat (s9.getD s11.toNat (0:UInt8)):Nat):Int))) s9 s10 (wrap .i64 (s11+1))
 else none
 else none
 else
 k0 t3
def quO (k0:LI→OA):Nat→LI→LU→Int→Int→OA
 | 0=>fun _ _ _ _=>none
 | n+1=>qgu k0 (quO k0 n) n
def qqA (_n:Nat) (t3:LI):OA :=
 qAd t3
def qFo (n:Nat) (s0:LU):OA :=
 bif (((decide (0≤(s0.length:Int)))&&(decide ((s0.length:Int)≤(s0.length:Int))))&&(decide ((s0.length:Int)≤(room:Int)))) then
 quO (qqA n) n (List.replicate (s0.length:Int).toNat 0) s0 (s0.length:Int) (0:Int)
 else none
def qqB (s2:Int):OA:=some (di s2 none)
def qIa (_n:Nat) (c0:Int):OA :=
 bif (decide ((128:Int)≤c0)) then
 qqB (65533:Int)
 else
 qqB c0
def qgv (k0:LI→OA) (next:LI→Int→Int→OA) (_n:Nat) (t3:LI) (s10:Int) (s11:Int):OA :=
 bif (decide (s11 < s10)) then
 bif ((decide (0≤s11))&&(decide (s11 < t3.length))) then
 bif ((decide (0≤s11))&&(decide (s11 < t3.length))) then
 next (set t3 s11.toNat (z114 (t3.getD s11.toNat 0))) s10 (wrap .i64 (s11+1))
 else none
 else none
 else
 k0 t3
def quP (k0:LI→OA):Nat→LI→Int→Int→OA
 | 0=>fun _ _ _=>none
 | n+1=>qgv k0 (quP k0 n) n
def qqC (_n:Nat) (t3:LI):OA :=
 qAd t3
def qFp (n:Nat) (s0:LU):OA :=
 bif ((quh s0)&&true) then
 quP (qqC n) n (z59 s0) ((z59 s0).length:Int) (0:Int)
 else none
def qAf (s0:List (UInt8×(Int×Unit))):OA:=some (.dat (.arr 8 (.pair .byte (.pair (.int .i32) .unit))) s0 none)
def qRj (_n:Nat):OA :=
 qAf ([((164:UInt8),((8364:Int),())),((166:UInt8),((352:Int),())),((168:UInt8),((353:Int),())),((180:UInt8),((381:Int),())),((184:UInt8),((382:Int),())),((188:UInt8),((338:Int),())),((189:UInt8),((339:Int),())),((190:UInt8),((376:Int),()))]:List (UInt8×(Int×Unit)))
def qsM (ret:Int→OA) (k0:UInt8→OA) (next:UInt8→List (UInt8×(Int×Unit))→Int→OA) (_n:Nat) (x0:UInt8) (s5:List (UInt8×(Int×Unit))) (s6:Int):OA :=
 bif (decide (s6 < (8:Int))) then
 bif ((decide (0≤s6))&&(decide (s6 < (8:Nat)))) then
 bif ((s5.getD s6.toNat ((0:UInt8),((0:Int),()))).1==x0) then
 ret (s5.getD s6.toNat ((0:UInt8),((0:Int),()))).2.1
 else
 next x0 s5 (wrap .i64 (s6+1))
 else none
 else
 k0 x0
def qnT (ret:Int→OA) (k0:UInt8→OA):Nat→UInt8→List (UInt8×(Int×Unit))→Int→OA
 | 0=>fun _ _ _=>none
 | n+1=>qsM ret k0 (qnT ret k0 n) n
def qsN (_n:Nat) (x0:UInt8):OA :=
 qqB (wrap .i32 ((toNat x0:Nat):Int))
def qsO (n:Nat) (x0:UInt8):OA :=
 qnT qqB (qsN n) n x0 z176 (0:Int)
def qgw (k0:LI→OA) (next:LI→LU→Int→Int→OA) (_n:Nat) (t3:LI) (s6:LU) (s7:Int) (s8:Int):OA :=
 bif (decide (s8 < s7)) then
 bif ((decide (0≤s8))&&(decide (s8 < s6.length))) then
 bif (decide (t3.length+length ([(z115 (s6.getD s8.toNat (0:UInt8)))]:LI)≤room)) then
 next (t3++([(z115 (s6.getD s8.toNat (0:UInt8)))]:LI)) s6 s7 (wrap .i64 (s8+1))
 else none
 else none
 else
 k0 t3
def quQ (k0:LI→OA):Nat→LI→LU→Int→Int→OA
 | 0=>fun _ _ _ _=>none
 | n+1=>qgw k0 (quQ k0 n) n
def qlG (_n:Nat) (t3:LI):OA :=
 qAd t3
def qFq (n:Nat) (s0:LU):OA :=
 quQ (qlG n) n ([]:LI) s0 (s0.length:Int) (0:Int)
def qAg (s0:LI):OA:=some (.dat (.sl (.int .i32)) s0 none)
def qIc (_n:Nat):OA :=
 qAg (drop 0 (take 32 ([(8364:Int),(0:Int),(8218:Int),(402:Int),(8222:Int),(8230:Int),(8224:Int),(8225:Int),(710:Int),(8240:Int),(352:Int),(8249:Int),(338:Int),(0:Int),(381:Int),(0:Int),(0:Int),(8216:Int),(8217:Int),(8220:Int),(8221:Int),(8226:Int),(8211:Int),(8212:Int),(732:Int),(8482:Int),(353:Int),(8250:Int),(339:Int),(0:Int),(382:Int),(376:Int)]:LI)))
def qdC (x0:UInt8):=((toNat (x0 - (128:UInt8)):Nat):Int)
def qId (_n:Nat) (x0:UInt8):OA :=
 bif (decide (x0 < (128:UInt8))) then qqB (wrap .i32 ((toNat x0:Nat):Int)) else bif (decide ((160:UInt8)≤x0)) then qqB (wrap .i32 ((toNat x0:Nat):Int)) else bif ((decide (0≤(qdC x0)))&&(decide ((qdC x0) < z177.length))) then bif ((z177.getD (qdC x0).toNat 0) != (0:Int)) then qqB (z177.getD (qdC x0).toNat 0) else qqB (65533:Int) else none
def qgx (k0:LI→OA) (next:LI→LU→Int→Int→OA) (_n:Nat) (t3:LI) (s9:LU) (s10:Int) (s11:Int):OA :=
 bif (decide (s11 < s10)) then
 bif ((decide (0≤s11))&&(decide (s11 < s9.length))) then
 bif (decide (t3.length+length ([(z116 (s9.getD s11.toNat (0:UInt8)))]:LI)≤room)) then
 next (t3++([(z116 (s9.getD s11.toNat (0:UInt8)))]:LI)) s9 s10 (wrap .i64 (s11+1))
 else none
 else none
 else
 k0 t3
def quR (k0:LI→OA):Nat→LI→LU→Int→Int→OA
 | 0=>fun _ _ _ _=>none
 | n+1=>qgx k0 (quR k0 n) n
def qlH (_n:Nat) (t3:LI):OA :=
 qAd t3
def qFr (n:Nat) (s0:LU):OA :=
 bif (((decide (0≤(0:Int)))&&(decide (0≤(s0.length:Int))))&&(decide ((s0.length:Int)≤(room:Int)))) then
 quR (qlH n) n (List.replicate (0:Int).toNat 0) s0 (s0.length:Int) (0:Int)
 else none
def qqD (s13:LI):OA:=some (.tup [(.tup []),.bad,.bad,(.pbox (.osl 21 (.int .i32)) s13 none)])
def qAh (_n:Nat) (c0:Int) (e1:Int) (x2:LI):OA :=
 bif (e1 != (0:Int)) then
 bif (decide (x2.length+length ([(65533:Int)]:LI)≤room)) then
 qqD (x2++([(65533:Int)]:LI))
 else none
 else
 bif (decide (x2.length+length ([c0]:LI)≤room)) then
 qqD (x2++([c0]:LI))
 else none
def qIf (_n:Nat) (n0:Int):OA :=
 bif (n0==(2:Int)) then
 qlD (192:UInt8)
 else
 bif (n0==(3:Int)) then
 qlD (224:UInt8)
 else
 bif (n0==(4:Int)) then
 qlD (240:UInt8)
 else
 qlD (0:UInt8)
def qIg (_n:Nat) (c0:UInt8):OA :=
 bif (decide (c0 < (128:UInt8))) then
 qHL (1:Int)
 else
 bif (decide (c0 < (194:UInt8))) then
 qHL (0:Int)
 else
 bif (decide ((244:UInt8) < c0)) then
 qHL (0:Int)
 else
 bif (decide (c0 < (224:UInt8))) then
 qHL (2:Int)
 else
 bif (decide (c0 < (240:UInt8))) then
 qHL (3:Int)
 else
 qHL (4:Int)
def qIh (_n:Nat) (c0:UInt8):OA :=
 qzM ((c0 &&& ~~~ (63:UInt8))==(128:UInt8))
def qIi (_n:Nat) (first0:UInt8) (c1:UInt8):OA :=
 bif (first0==(224:UInt8)) then
 bif (decide ((160:UInt8)≤c1)) then
 qzM (z237 c1)
 else
 qzM false
 else
 bif (first0==(237:UInt8)) then
 bif (decide (c1 < (160:UInt8))) then
 qzM (z237 c1)
 else
 qzM false
 else
 bif (first0==(240:UInt8)) then
 bif (decide ((144:UInt8)≤c1)) then
 qzM (z237 c1)
 else
 qzM false
 else
 bif (first0==(244:UInt8)) then
 bif (decide (c1 < (144:UInt8))) then
 qzM (z237 c1)
 else
 qzM false
 else
 qzM (z237 c1)
def qcq (ret:Int→OA) (k0:LU→Int→OA) (next:LU→Int→OA) (_n:Nat) (s0:LU) (n3:Int):OA :=
 bif ((decide (0≤(0:Int)))&&(decide ((0:Int) < s0.length))) then
 bif (decide (n3 < (z218 (s0.getD (0:Int).toNat (0:UInt8))))) then
 bif (decide (n3 < (s0.length:Int))) then
 bif ((decide (0≤n3))&&(decide (n3 < s0.length))) then
 bif (!(z237 (s0.getD n3.toNat (0:UInt8)))) then
 ret n3
 else
 bif (n3==(1:Int)) then
 bif ((decide (0≤(0:Int)))&&(decide ((0:Int) < s0.length))) then
 bif ((decide (0≤(1:Int)))&&(decide ((1:Int) < s0.length))) then
 bif (!(z238 (s0.getD (0:Int).toNat (0:UInt8)) (s0.getD (1:Int).toNat (0:UInt8)))) then
 ret n3
 else
 next s0 (wrap .i64 (n3+1))
 else none
 else none
 else
 next s0 (wrap .i64 (n3+1))
 else none
 else
 k0 s0 n3
 else
 k0 s0 n3
 else none
def qjk (ret:Int→OA) (k0:LU→Int→OA):Nat→LU→Int→OA
 | 0=>fun _ _=>none
 | n+1=>qcq ret k0 (qjk ret k0 n) n
def qaQ (_n:Nat) (s0:LU) (n3:Int):OA :=
 bif ((decide (0≤(0:Int)))&&(decide ((0:Int) < s0.length))) then
 qHL (bif (decide ((z218 (s0.getD (0:Int).toNat (0:UInt8))) < n3)) then (z218 (s0.getD (0:Int).toNat (0:UInt8))) else n3)
 else none
def qsP (n:Nat) (s0:LU):OA :=
 qjk qHL (qaQ n) n s0 (1:Int)
def qcT (s2:Int) (s3:Int) (s4:Int):OA:=some (.tup [(di s2 none),(dc s3),(dc s4)])
def qcF (k1:Int→Int→OA) (next:Int→Int→LU→Int→Int→OA) (_n:Nat) (n5:Int) (c6:Int) (s48:LU) (s49:Int) (s50:Int):OA :=
 bif (decide (s50 < s49)) then
 bif ((decide (0≤s50))&&(decide (s50 < s48.length))) then
 next n5 (bits .or .i32 (wrap .i32 (c6*2 ^ (min (6:Int).toNat (IntKind.bits .i32)))) (wrap .i32 ((toNat ((s48.getD s50.toNat (0:UInt8)) &&& (63:UInt8)):Nat):Int))) s48 s49 (wrap .i64 (s50+1))
 else none
 else
 k1 n5 c6
def qeL (k1:Int→Int→OA):Nat→Int→Int→LU→Int→Int→OA
 | 0=>fun _ _ _ _ _=>none
 | n+1=>qcF k1 (qeL k1 n) n
def qfG (_n:Nat) (n5:Int) (c6:Int):OA :=
 qcT c6 n5 (0:Int)
def qca (s0:LU):=((decide (0≤(0:Int)))&&(decide ((0:Int) < s0.length)))
def qcG (s0:LU):=(drop (1:Int).toNat (take (z217 s0).toNat s0))
def qdD (s0:LU):=(decide ((z217 s0) < (z218 (s0.getD (0:Int).toNat (0:UInt8)))))
def qfH (s0:LU):=(((decide (0≤(1:Int)))&&(decide ((1:Int)≤(z217 s0))))&&(decide ((z217 s0)≤(s0.length:Int))))
def qfI (s0:LU):=(wrap .i32 ((toNat ((s0.getD (0:Int).toNat (0:UInt8)) &&& ~~~ (z185 (z217 s0))):Nat):Int))
def qsQ (n:Nat) (s0:LU):OA :=
 bif ((s0.length:Int)==(0:Int)) then qcT (0:Int) (0:Int) (4:Int) else bif ((qki s0)&&true) then bif ((z217 s0)==(0:Int)) then qcT (0:Int) (1:Int) (3:Int) else bif (qca s0) then bif (qdD s0) then bif ((z217 s0)==(s0.length:Int)) then qcT (0:Int) (z217 s0) (4:Int) else bif (qca s0) then bif (qdD s0) then qcT (0:Int) (z217 s0) (3:Int) else bif (qca s0) then bif (qfH s0) then qeL (qfG n) n (z217 s0) (qfI s0) (qcG s0) ((qcG s0).length:Int) (0:Int) else none else none else none else bif (qca s0) then bif (qdD s0) then qcT (0:Int) (z217 s0) (3:Int) else bif (qca s0) then bif (qfH s0) then qeL (qfG n) n (z217 s0) (qfI s0) (qcG s0) ((qcG s0).length:Int) (0:Int) else none else none else none else none else none
def qbf (s24:LI):OA:=some (.tup [(.tup []),.bad,(.pbox (.osl 21 (.int .i32)) s24 none)])
def qcU (k0:LI→OA) (next:LU→LI→OA) (_n:Nat) (s0:LU) (s24:LI):OA :=
 bif (decide ((0:Int) < (s0.length:Int))) then
 bif ((qrN s0)&&true) then
 bif (qrU ((z178 s0).1) ((z178 s0).2.2) s24) then
 bif (((decide (0≤((z178 s0).2.1)))&&(decide (((z178 s0).2.1)≤(s0.length:Int))))&&(decide ((s0.length:Int)≤(s0.length:Int)))) then
 next (drop ((z178 s0).2.1).toNat (take (s0.length:Int).toNat s0)) (z118 ((z178 s0).1) ((z178 s0).2.2) s24)
 else none
 else none
 else none
 else
 k0 s24
def qcb (k0:LI→OA):Nat→LU→LI→OA
 | 0=>fun _ _=>none
 | n+1=>qcU k0 (qcb k0 n) n
def qcV (_n:Nat) (s24:LI):OA :=
 qbf s24
def qjl (n:Nat) (s0:LU) (f1:LI):OA :=
 qcb (qcV n) n s0 f1
def qLD (_n:Nat) (s0:LU):OA :=
 bif (qcB s0 ([]:LI)) then
 qAg (qwC s0 ([]:LI))
 else none
def qRk (_n:Nat) (charset0:Int) (s1:LU):OA :=
 bif (charset0==(1:Int)) then
 bif ((qCt s1)&&true) then
 qAg (z55 s1)
 else none
 else
 bif (charset0==(3:Int)) then
 bif ((qCr s1)&&true) then
 qAg (z56 s1)
 else none
 else
 bif (charset0==(4:Int)) then
 bif ((qCs s1)&&true) then
 qAg (z57 s1)
 else none
 else
 bif (charset0==(5:Int)) then
 bif ((qCq s1)&&true) then
 qAg (z58 s1)
 else none
 else
 bif ((quh s1)&&true) then
 qAg (z59 s1)
 else none
def qRl (_n:Nat) (coding0:Int) (charset1:Int) (s2:LU):OA :=
 bif (coding0==(2:Int)) then
 bif ((qFl s2)&&true) then
 bif ((qnc charset1 (z27 s2))&&true) then
 qAg (z29 charset1 (z27 s2))
 else none
 else none
 else
 bif (coding0==(3:Int)) then
 bif ((qCz s2)&&true) then
 bif ((qnc charset1 (z28 s2))&&true) then
 qAg (z29 charset1 (z28 s2))
 else none
 else none
 else
 bif ((qnc charset1 s2)&&true) then
 qAg (z29 charset1 s2)
 else none
def qTD (_n:Nat) (c0:UInt8):OA :=
 qzM (decide ((128:UInt8)≤c0))
def qhU (ret:Int→OA) (next:LU→LU→Int→OA) (_n:Nat) (s0:LU) (sep1:LU) (n5:Int):OA :=
 bif ((qiM s0 sep1)&&true) then
 bif ((z143 s0 sep1)==(-1:Int)) then
 ret n5
 else
 bif (((decide (0≤(wrap .i64 ((z143 s0 sep1)+(sep1.length:Int)))))&&(decide ((wrap .i64 ((z143 s0 sep1)+(sep1.length:Int)))≤(s0.length:Int))))&&(decide ((s0.length:Int)≤(s0.length:Int)))) then
 next (drop (wrap .i64 ((z143 s0 sep1)+(sep1.length:Int))).toNat (take (s0.length:Int).toNat s0)) sep1 (wrap .i64 (n5+1))
 else none
 else none
def qks (ret:Int→OA):Nat→LU→LU→Int→OA
 | 0=>fun _ _ _=>none
 | n+1=>qhU ret (qks ret n) n
def qsS (n:Nat) (s0:LU) (sep1:LU):OA :=
 bif ((sep1.length:Int)==(0:Int)) then
 bif ((qHB s0)&&true) then
 qHL (wrap .i64 ((z192 s0)+1))
 else none
 else
 bif ((sep1.length:Int)==(1:Int)) then
 bif ((decide (0≤(0:Int)))&&(decide ((0:Int) < sep1.length))) then
 qHL (z193 s0 (sep1.getD (0:Int).toNat (0:UInt8)))
 else none
 else
 qks qHL n s0 sep1 (0:Int)
def qAj (s3:Int) (s9:LU):OA:=some (.tup [(dc s3),.bad,(.pbox (.leaf (.sl .byte)) s9 none)])
def qAk (_n:Nat) (c0:UInt8) (x1:LU):OA :=
 bif ((qfz x1 ([c0]:LU))&&true) then
 qAj (z139 x1 ([c0]:LU)) x1
 else none
def qLE (_n:Nat) (s0:LU):OA :=
 bif ((qfz s0 ([(13:UInt8),(10:UInt8)]:LU))&&true) then
 bif (qko (13:UInt8) s0) then
 bif (qko (10:UInt8) ((z140 (13:UInt8) s0).2)) then
 qHL (wrap .i64 ((wrap .i64 (((z140 (13:UInt8) s0).1)+((z140 (10:UInt8) ((z140 (13:UInt8) s0).2)).1))) - (wrap .i64 ((2:Int)*(z139 s0 ([(13:UInt8),(10:UInt8)]:LU))))))
 else none
 else none
 else none
def qAl (before4:LU) (after5:LU) (found6:Bool):OA:=some (.tup [(da before4),(da after5),(dg found6)])
def qRm (_n:Nat) (s0:LU) (sep1:LU):OA :=
 bif ((qiM s0 sep1)&&true) then
 bif (decide (0≤(z143 s0 sep1))) then
 bif (((decide (0≤((0:Nat):Int)))&&(decide (((0:Nat):Int)≤(z143 s0 sep1))))&&(decide ((z143 s0 sep1)≤(s0.length:Int)))) then
 bif (((decide (0≤(wrap .i64 ((z143 s0 sep1)+(sep1.length:Int)))))&&(decide ((wrap .i64 ((z143 s0 sep1)+(sep1.length:Int)))≤(s0.length:Int))))&&(decide ((s0.length:Int)≤(s0.length:Int)))) then
 qAl (drop ((0:Nat):Int).toNat (take (z143 s0 sep1).toNat s0)) (drop (wrap .i64 ((z143 s0 sep1)+(sep1.length:Int))).toNat (take (s0.length:Int).toNat s0)) true
 else none
 else none
 else
 qAl s0 ([]:LU) false
 else none
def qAm (s2:List LU):OA:=some (.dat (.sl (.sl .byte)) s2 (some (2,24)))
def qbg:=([(13:UInt8),(10:UInt8)]:LU)
def qhV (k0:List LU→OA) (next:LU→List LU→OA) (_n:Nat) (s0:LU) (out3:List LU):OA :=
 bif (decide ((0:Int) < (s0.length:Int))) then bif ((qjS s0 (qbg))&&true) then bif ((qeu ((z82 s0 (qbg)).1))&&true) then bif (decide (out3.length+length ([(z153 ((z82 s0 (qbg)).1))]:List LU)≤room)) then next ((z82 s0 (qbg)).2.1) (out3++([(z153 ((z82 s0 (qbg)).1))]:List LU)) else none else none else none else k0 out3
def qhn (k0:List LU→OA):Nat→LU→List LU→OA
 | 0=>fun _ _=>none
 | n+1=>qhV k0 (qhn k0 n) n
def qsT (_n:Nat) (out3:List LU):OA :=
 qAm out3
def qsU (n:Nat) (s0:LU):OA :=
 qhn (qsT n) n s0 ([]:List LU)
def qgz (k0:Int→OA) (next:Int→List LU→Int→Int→OA) (_n:Nat) (n3:Int) (s7:List LU) (s8:Int) (s9:Int):OA :=
 bif (decide (s9 < s8)) then
 bif ((decide (0≤s9))&&(decide (s9 < s7.length))) then
 next (bif (decide (((s7.getD s9.toNat ([]:LU)).length:Int) > n3)) then ((s7.getD s9.toNat ([]:LU)).length:Int) else n3) s7 s8 (wrap .i64 (s9+1))
 else none
 else
 k0 n3
def qnU (k0:Int→OA):Nat→Int→List LU→Int→Int→OA
 | 0=>fun _ _ _ _=>none
 | n+1=>qgz k0 (qnU k0 n) n
def qqE (_n:Nat) (n3:Int):OA :=
 qHL n3
def qFs (n:Nat) (s0:LU):OA :=
 bif ((qsw s0)&&true) then
 qnU (qqE n) n (0:Int) (z142 s0) ((z142 s0).length:Int) (0:Int)
 else none
def qgA (k0:LU→Int→Bool→OA) (next:LU→Int→Bool→LU→Int→Int→OA) (_n:Nat) (s0:LU) (most1:Int) (above6:Bool) (s9:LU) (s10:Int) (s11:Int):OA :=
 bif (decide (s11 < s10)) then
 bif ((decide (0≤s11))&&(decide (s11 < s9.length))) then
 bif above6 then
 next s0 most1 true s9 s10 (wrap .i64 (s11+1))
 else
 next s0 most1 (z78 (s9.getD s11.toNat (0:UInt8))) s9 s10 (wrap .i64 (s11+1))
 else none
 else
 k0 s0 most1 above6
def qnV (k0:LU→Int→Bool→OA):Nat→LU→Int→Bool→LU→Int→Int→OA
 | 0=>fun _ _ _ _ _ _=>none
 | n+1=>qgA k0 (qnV k0 n) n
def qlI (_n:Nat) (s0:LU) (most1:Int) (above6:Bool):OA :=
 bif ((qEU s0)&&true) then
 bif (decide ((0:Int) < (z79 s0))) then
 qHL (8:Int)
 else
 bif (decide (0≤(z80 s0 (0:UInt8)))) then
 qHL (8:Int)
 else
 bif above6 then
 qHL (9:Int)
 else
 bif (decide ((0:Int) < (s0.length:Int))) then
 bif ((qEW s0)&&true) then
 bif (decide (most1 < (z81 s0))) then
 qHL (12:Int)
 else
 qHL (0:Int)
 else none
 else
 qHL (0:Int)
 else none
def qLF (n:Nat) (s0:LU) (most1:Int):OA :=
 qnV (qlI n) n s0 most1 false s0 (s0.length:Int) (0:Int)
def qjn:=([65,66,67,68,69,70,71,72,73,74,75,76,77,78,79,80,81,82,83,84,85,86,87,88,89,90,97,98,99,100,101,102,103,104,105,106,107,108,109,110,111,112,113,114,115,116,117,118,119,120,121,122,48,49,50,51,52,53,54,55,56,57,43,47]:LU)
def qIn (_n:Nat) (n0:Int):OA :=
 bif ((decide (0≤(bits .and .i64 n0 (63:Int))))&&(decide ((bits .and .i64 n0 (63:Int)) < (qjn).length))) then qlD ((qjn).getD (bits .and .i64 n0 (63:Int)).toNat (0:UInt8)) else none
def qjo (s2:LU):OA:=some (db s2 (some (2,5)))
def qsV (k2:LU→Int→Int→LU→Int→Int→OA) (next:LU→Int→Int→LU→Int→Int→OA) (_n:Nat) (out3:LU) (held4:Int) (many5:Int) (s8:LU) (s9:Int) (s10:Int):OA :=
 bif (decide ((6:Int)≤many5)) then
 bif (decide (0≤(wrap .i64 (many5 - (6:Int))))) then
 bif (decide (out3.length+length ([(z222 (Int.fdiv held4 (2 ^ (min (wrap .i64 (many5 - (6:Int))).toNat (IntKind.bits .i64)))))]:LU)≤room)) then
 next (out3++([(z222 (Int.fdiv held4 (2 ^ (min (wrap .i64 (many5 - (6:Int))).toNat (IntKind.bits .i64)))))]:LU)) held4 (wrap .i64 (many5 - (6:Int))) s8 s9 s10
 else none
 else none
 else
 k2 out3 held4 many5 s8 s9 s10
def qdf (k2:LU→Int→Int→LU→Int→Int→OA):Nat→LU→Int→Int→LU→Int→Int→OA
 | 0=>fun _ _ _ _ _ _=>none
 | n+1=>qsV k2 (qdf k2 n) n
def qdX (_k0:LU→Int→Int→OA) (next:LU→Int→Int→LU→Int→Int→OA) (_n:Nat) (out3:LU) (held4:Int) (many5:Int) (s8:LU) (s9:Int) (s10:Int):OA :=
 bif (decide (0≤many5)) then
 next out3 (bits .and .i64 held4 (wrap .i64 ((wrap .i64 ((1:Int)*2 ^ (min many5.toNat (IntKind.bits .i64)))) - (1:Int)))) many5 s8 s9 (wrap .i64 (s10+1))
 else none
def qcW (k0:LU→Int→Int→OA) (next:LU→Int→Int→LU→Int→Int→OA) (n:Nat) (out3:LU) (held4:Int) (many5:Int) (s8:LU) (s9:Int) (s10:Int):OA :=
 bif (decide (s10 < s9)) then
 bif ((decide (0≤s10))&&(decide (s10 < s8.length))) then
 qdf (qdX k0 next n) n out3 (bits .or .i64 (wrap .i64 (held4*2 ^ (min (8:Int).toNat (IntKind.bits .i64)))) (wrap .i64 ((toNat (s8.getD s10.toNat (0:UInt8)):Nat):Int))) (wrap .i64 (many5+(8:Int))) s8 s9 s10
 else none
 else
 k0 out3 held4 many5
def qkt (k0:LU→Int→Int→OA):Nat→LU→Int→Int→LU→Int→Int→OA
 | 0=>fun _ _ _ _ _ _=>none
 | n+1=>qcW k0 (qkt k0 n) n
def qfJ (_n:Nat) (out3:LU) (held4:Int) (many5:Int):OA :=
 bif (decide ((0:Int) < many5)) then
 bif (decide (0≤(wrap .i64 ((6:Int) - many5)))) then
 bif (decide (out3.length+length ([(z222 (wrap .i64 (held4*2 ^ (min (wrap .i64 ((6:Int) - many5)).toNat (IntKind.bits .i64)))))]:LU)≤room)) then
 qjo (out3++([(z222 (wrap .i64 (held4*2 ^ (min (wrap .i64 ((6:Int) - many5)).toNat (IntKind.bits .i64)))))]:LU))
 else none
 else none
 else
 qjo out3
def qsW (n:Nat) (s0:LU):OA :=
 qkt (qfJ n) n ([]:LU) (0:Int) (0:Int) s0 (s0.length:Int) (0:Int)
def qgB (ret:Bool→OA) (k0:OA) (next:LI→LI→Int→OA) (_n:Nat) (a0:LI) (b1:LI) (i5:Int):OA :=
 bif (decide (i5 < (a0.length:Int))) then
 bif ((decide (0≤i5))&&(decide (i5 < a0.length))) then
 bif ((decide (0≤i5))&&(decide (i5 < b1.length))) then
 bif ((a0.getD i5.toNat 0) != (b1.getD i5.toNat 0)) then
 ret false
 else
 next a0 b1 (wrap .i64 (i5+1))
 else none
 else none
 else
 k0
def qnW (ret:Bool→OA) (k0:OA):Nat→LI→LI→Int→OA
 | 0=>fun _ _ _=>none
 | n+1=>qgB ret k0 (qnW ret k0 n) n
def qAo (_n:Nat):OA :=
 qzM true
def qFt (n:Nat) (a0:LI) (b1:LI):OA :=
 bif ((a0.length:Int) != (b1.length:Int)) then
 qzM false
 else
 qnW qzM (qAo n) n a0 b1 (0:Int)
def qIo (_n:Nat) (b0:LU) (chars1:LU):OA :=
 bif ((qet b0 chars1)&&true) then
 qzM (decide (0≤(z109 b0 chars1)))
 else none
def qIp (_n:Nat) (s0:LU):OA :=
 bif ((qng s0 ([97,98,99,100,101,102]:LU))&&true) then
 qzM (!(z200 s0 ([97,98,99,100,101,102]:LU)))
 else none
def qgC (ret:Bool→OA) (k0:LU→OA) (next:LU→LU→Int→Int→OA) (_n:Nat) (l0:LU) (s7:LU) (s8:Int) (s9:Int):OA :=
 bif (decide (s9 < s8)) then
 bif ((decide (0≤s9))&&(decide (s9 < s7.length))) then
 bif (!(z144 (s7.getD s9.toNat (0:UInt8)) (6:Int))) then
 ret false
 else
 bif ((s7.getD s9.toNat (0:UInt8)) != (61:UInt8)) then
 next l0 s7 s8 (wrap .i64 (s9+1))
 else
 bif (s9==(wrap .i64 ((l0.length:Int) - (1:Int)))) then
 next l0 s7 s8 (wrap .i64 (s9+1))
 else
 bif ((qkh l0 s9 (61:UInt8))&&true) then
 bif (!((z145 l0 s9 (61:UInt8)).2)) then
 ret false
 else
 bif (((decide (0≤(wrap .i64 (s9+1))))&&(decide ((wrap .i64 (s9+1))≤(wrap .i64 (s9+(3:Int))))))&&(decide ((wrap .i64 (s9+(3:Int)))≤(l0.length:Int)))) then
 bif ((qnb (drop (wrap .i64 (s9+1)).toNat (take (wrap .i64 (s9+(3:Int))).toNat l0)))&&true) then
 bif (!(z146 (drop (wrap .i64 (s9+1)).toNat (take (wrap .i64 (s9+(3:Int))).toNat l0)))) then
 ret false
 else
 next l0 s7 s8 (wrap .i64 (s9+1))
 else none
 else none
 else none
 else none
 else
 k0 l0
def quS (ret:Bool→OA) (k0:LU→OA):Nat→LU→LU→Int→Int→OA
 | 0=>fun _ _ _ _=>none
 | n+1=>qgC ret k0 (quS ret k0 n) n
def qjp (_n:Nat) (l0:LU):OA :=
 bif ((l0.length:Int)==(0:Int)) then
 qzM true
 else
 bif ((decide (0≤(wrap .i64 ((l0.length:Int) - (1:Int)))))&&(decide ((wrap .i64 ((l0.length:Int) - (1:Int))) < l0.length))) then
 qzM (!(z144 (l0.getD (wrap .i64 ((l0.length:Int) - (1:Int))).toNat (0:UInt8)) (2:Int)))
 else none
def qFu (n:Nat) (l0:LU):OA :=
 quS qzM (qjp n) n l0 l0 (l0.length:Int) (0:Int)
def qbh:=([(13:UInt8),(10:UInt8)]:LU)
def qlJ (ret:Int→OA) (k0:OA) (next:LU→OA) (_n:Nat) (s0:LU):OA :=
 bif (decide ((0:Int) < (s0.length:Int))) then bif ((qjS s0 (qbh))&&true) then bif (decide ((76:Int) < (((z82 s0 (qbh)).1).length:Int))) then ret (12:Int) else bif (!((z82 s0 (qbh)).2.2)) then ret (4:Int) else bif ((qzL ((z82 s0 (qbh)).1))&&true) then bif (!(z83 ((z82 s0 (qbh)).1))) then ret (3:Int) else next ((z82 s0 (qbh)).2.1) else none else none else k0
def qqF (ret:Int→OA) (k0:OA):Nat→LU→OA
 | 0=>fun _=>none
 | n+1=>qlJ ret k0 (qqF ret k0 n) n
def qqG (_n:Nat):OA :=
 qHL (0:Int)
def qFv (n:Nat) (s0:LU):OA :=
 qqF qHL (qqG n) n s0
def qaH (s0:LU):=(z82 s0 ([(13:UInt8),(10:UInt8)]:LU))
def qhW (ret:LU→Int→OA) (k0:LU→OA) (next:LU→LU→OA) (_n:Nat) (s0:LU) (all4:LU):OA :=
 bif (decide ((0:Int) < (s0.length:Int))) then bif ((qjS s0 ([(13:UInt8),(10:UInt8)]:LU))&&true) then bif (decide ((76:Int) < (((qaH s0).1).length:Int))) then ret ([]:LU) (12:Int) else bif (!((qaH s0).2.2)) then ret ([]:LU) (4:Int) else bif (decide ((0:Int) < (((qaH s0).1).length:Int))) then bif (decide (all4.length+length ((qaH s0).1)≤room)) then next ((qaH s0).2.1) (all4++((qaH s0).1)) else none else ret ([]:LU) (3:Int) else none else k0 all4
def qjq (ret:LU→Int→OA) (k0:LU→OA):Nat→LU→LU→OA
 | 0=>fun _ _=>none
 | n+1=>qhW ret k0 (qjq ret k0 n) n
def qfK (_n:Nat) (all4:LU):OA :=
 qAa all4 (0:Int)
def qAr (n:Nat) (s0:LU):OA :=
 qjq qAa (qfK n) n s0 ([]:LU)
def qIq (_n:Nat) (s0:LU) (suffix1:LU):OA :=
 bif ((qkj s0 suffix1)&&true) then
 bif (z215 s0 suffix1) then
 bif (((decide (0≤((0:Nat):Int)))&&(decide (((0:Nat):Int)≤(wrap .i64 ((s0.length:Int) - (suffix1.length:Int))))))&&(decide ((wrap .i64 ((s0.length:Int) - (suffix1.length:Int)))≤(s0.length:Int)))) then
 qzR (drop ((0:Nat):Int).toNat (take (wrap .i64 ((s0.length:Int) - (suffix1.length:Int))).toNat s0))
 else none
 else
 qzR s0
 else none
def qsX (k0:LU→OA) (next:LU→Int→OA) (_n:Nat) (s0:LU) (s3:Int):OA :=
 bif (decide (s3 < (2:Int))) then
 bif ((qiL s0 ([(61:UInt8)]:LU))&&true) then
 next (z231 s0 ([(61:UInt8)]:LU)) (wrap .i64 (s3+1))
 else none
 else
 k0 s0
def qnY (k0:LU→OA):Nat→LU→Int→OA
 | 0=>fun _ _=>none
 | n+1=>qsX k0 (qnY k0 n) n
def qsY (_n:Nat) (s0:LU):OA :=
 qzR s0
def qsZ (n:Nat) (s0:LU):OA :=
 qnY (qsY n) n s0 (0:Int)
def qbi (held5:Int) (s12:LU) (s14:Int):=(bits .or .i64 (wrap .i64 (held5*2 ^ (min (6:Int).toNat (IntKind.bits .i64)))) ((z175 (s12.getD s14.toNat (0:UInt8))).1))
def qak (many6:Int):=(wrap .i64 ((wrap .i64 (many6+(6:Int))) - (8:Int)))
def qdY (ret:LU→Int→OA) (k0:LU→LU→Int→OA) (next:LU→LU→Int→Int→LU→Int→Int→OA) (_n:Nat) (s0:LU) (out4:LU) (held5:Int) (many6:Int) (s12:LU) (s13:Int) (s14:Int):OA :=
 bif (decide (s14 < s13)) then bif ((decide (0≤s14))&&(decide (s14 < s12.length))) then bif (!((z175 (s12.getD s14.toNat (0:UInt8))).2)) then ret ([]:LU) (3:Int) else bif (decide ((8:Int)≤(wrap .i64 (many6+(6:Int))))) then bif (decide (0≤(qak many6))) then bif (decide (out4.length+length ([(ofNat (wrap .u8 (Int.fdiv (qbi held5 s12 s14) (2 ^ (min (qak many6).toNat (IntKind.bits .i64))))).toNat)]:LU)≤room)) then bif (decide (0≤(qak many6))) then next s0 (out4++([(ofNat (wrap .u8 (Int.fdiv (qbi held5 s12 s14) (2 ^ (min (qak many6).toNat (IntKind.bits .i64))))).toNat)]:LU)) (bits .and .i64 (qbi held5 s12 s14) (wrap .i64 ((wrap .i64 ((1:Int)*2 ^ (min (qak many6).toNat (IntKind.bits .i64)))) - (1:Int)))) (qak many6) s12 s13 (wrap .i64 (s14+1)) else none else none else none else next s0 out4 (qbi held5 s12 s14) (wrap .i64 (many6+(6:Int))) s12 s13 (wrap .i64 (s14+1)) else none else k0 s0 out4 held5
def qfL (ret:LU→Int→OA) (k0:LU→LU→Int→OA):Nat→LU→LU→Int→Int→LU→Int→Int→OA
 | 0=>fun _ _ _ _ _ _ _=>none
 | n+1=>qdY ret k0 (qfL ret k0 n) n
def qcX (_n:Nat) (s0:LU) (out4:LU) (held5:Int):OA :=
 bif ((tmod (s0.length:Int) (4:Int)) != (0:Int)) then
 qAa ([]:LU) (4:Int)
 else
 bif (held5 != (0:Int)) then
 qAa ([]:LU) (3:Int)
 else
 qAa out4 (0:Int)
def qta (n:Nat) (s0:LU):OA :=
 bif ((qrR s0)&&true) then
 qfL qAa (qcX n) n s0 ([]:LU) (0:Int) (0:Int) (z201 s0) ((z201 s0).length:Int) (0:Int)
 else none
def qRn (_n:Nat) (s0:LU):OA :=
 bif ((qsv s0)&&true) then
 bif (((z147 s0).2) != (0:Int)) then
 qAa ([]:LU) ((z147 s0).2)
 else
 bif ((qrS ((z147 s0).1))&&true) then
 qAa ((z148 ((z147 s0).1)).1) ((z148 ((z147 s0).1)).2)
 else none
 else none
def qRo (_n:Nat) (s0:LU):OA :=
 bif ((qER s0)&&true) then
 qHL ((z84 s0).2)
 else none
def qRp (_n:Nat) (coding0:Int) (s1:LU):OA :=
 bif (coding0==(1:Int)) then
 bif ((quB s1 (76:Int))&&true) then
 qHL (z37 s1 (76:Int))
 else none
 else
 bif (coding0==(2:Int)) then
 bif ((qFi s1)&&true) then
 qHL (z38 s1)
 else none
 else
 bif (coding0==(3:Int)) then
 bif ((qES s1)&&true) then
 qHL (z39 s1)
 else none
 else
 qHL (11:Int)
def qdZ (ret:Bool→OA) (k0:OA) (next:LU→UInt8→Int→OA) (_n:Nat) (s0:LU) (c1:UInt8) (i5:Int):OA :=
 bif (decide (i5 < (s0.length:Int))) then
 bif ((decide (0≤i5))&&(decide (i5 < s0.length))) then
 bif ((s0.getD i5.toNat (0:UInt8))==c1) then
 ret true
 else
 next s0 c1 (wrap .i64 (i5+1))
 else none
 else
 k0
def qho (ret:Bool→OA) (k0:OA):Nat→LU→UInt8→Int→OA
 | 0=>fun _ _ _=>none
 | n+1=>qdZ ret k0 (qho ret k0 n) n
def qlK (_n:Nat):OA :=
 qzM false
def qoa (n:Nat) (s0:LU) (c1:UInt8):OA :=
 qho qzM (qlK n) n s0 c1 (0:Int)
def qRq (_n:Nat) (c0:UInt8) (kinds1:Int):OA :=
 qzM ((bits .and .i64 (z188 c0) kinds1) != (0:Int))
def qfM (n0:Int):=(tmod (wrap .i64 ((tmod n0 (16:Int))+(16:Int))) (16:Int))
def qIs (_n:Nat) (n0:Int):OA :=
 bif (decide ((qfM n0) < (10:Int))) then qlD (ofNat (wrap .u8 (wrap .i64 ((48:Int)+(qfM n0)))).toNat) else qlD (ofNat (wrap .u8 (wrap .i64 ((wrap .i64 ((65:Int)+(qfM n0))) - (10:Int)))).toNat)
def qea (ret:Int→Bool→OA) (k0:OA) (next:UInt8→Int→OA) (_n:Nat) (c0:UInt8) (n4:Int):OA :=
 bif (decide (n4 < (16:Int))) then
 bif ((qcm n4)&&true) then
 bif ((z189 n4)==c0) then
 ret n4 true
 else
 bif (decide ((10:Int)≤n4)) then
 bif ((qcm n4)&&true) then
 bif (((z189 n4)+(32:UInt8))==c0) then
 ret n4 true
 else
 next c0 (wrap .i64 (n4+1))
 else none
 else
 next c0 (wrap .i64 (n4+1))
 else none
 else
 k0
def qhp (ret:Int→Bool→OA) (k0:OA):Nat→UInt8→Int→OA
 | 0=>fun _ _=>none
 | n+1=>qea ret k0 (qhp ret k0 n) n
def qlL (_n:Nat):OA :=
 qje (0:Int) false
def qAu (n:Nat) (c0:UInt8):OA :=
 qhp qje (qlL n) n c0 (0:Int)
def qIt (_n:Nat) (s0:LU) (at1:Int) (sign2:UInt8):OA :=
 bif (decide (at1 < (0:Int))) then
 qlE (0:UInt8) false
 else
 bif (decide ((wrap .i64 ((s0.length:Int) - (3:Int))) < at1)) then
 qlE (0:UInt8) false
 else
 bif ((decide (0≤at1))&&(decide (at1 < s0.length))) then
 bif ((s0.getD at1.toNat (0:UInt8)) != sign2) then
 qlE (0:UInt8) false
 else
 bif ((decide (0≤(wrap .i64 (at1+1))))&&(decide ((wrap .i64 (at1+1)) < s0.length))) then
 bif ((decide (0≤(wrap .i64 (at1+(2:Int)))))&&(decide ((wrap .i64 (at1+(2:Int))) < s0.length))) then
 bif (!((z202 (s0.getD (wrap .i64 (at1+1)).toNat (0:UInt8))).2)) then
 qlE (0:UInt8) false
 else
 bif (!((z202 (s0.getD (wrap .i64 (at1+(2:Int))).toNat (0:UInt8))).2)) then
 qlE (0:UInt8) false
 else
 qlE (ofNat (wrap .u8 (wrap .i64 ((wrap .i64 ((16:Int)*((z202 (s0.getD (wrap .i64 (at1+1)).toNat (0:UInt8))).1)))+((z202 (s0.getD (wrap .i64 (at1+(2:Int))).toNat (0:UInt8))).1)))).toNat) true
 else none
 else none
 else none
def qAv (s2:LU) (s3:Bool) (s4:Int):OA:=some (.tup [(da s2),(dg s3),(dc s4)])
def qbj (l0:LU):=(wrap .i64 ((l0.length:Int) - (1:Int)))
def qlM (k0:LU→OA) (next:LU→OA) (_n:Nat) (l0:LU):OA :=
 bif (decide ((0:Int) < (l0.length:Int))) then bif ((decide (0≤(qbj l0)))&&(decide ((qbj l0) < l0.length))) then bif (z136 (l0.getD (qbj l0).toNat (0:UInt8)) (2:Int)) then bif (((decide (0≤((0:Nat):Int)))&&(decide (((0:Nat):Int)≤(qbj l0))))&&(decide ((qbj l0)≤(l0.length:Int)))) then next (drop ((0:Nat):Int).toNat (take (qbj l0).toNat l0)) else none else k0 l0 else none else k0 l0
def qqK (k0:LU→OA):Nat→LU→OA
 | 0=>fun _=>none
 | n+1=>qlM k0 (qqK k0 n) n
def qbL (l0:LU) (i8:Int):=([(l0.getD i8.toNat (0:UInt8))]:LU)
def qgE (k2:Bool→LU→Int→OA) (next:LU→Bool→LU→Int→Int→OA) (_n:Nat) (l0:LU) (soft5:Bool) (out6:LU) (strange7:Int) (i8:Int):OA :=
 bif (decide (i8 < (l0.length:Int))) then bif ((qiK l0 i8 (61:UInt8))&&true) then bif ((z149 l0 i8 (61:UInt8)).2) then bif (decide (out6.length+length ([((z149 l0 i8 (61:UInt8)).1)]:LU)≤room)) then next l0 soft5 (out6++([((z149 l0 i8 (61:UInt8)).1)]:LU)) strange7 (wrap .i64 ((wrap .i64 (i8+(2:Int)))+1)) else none else bif ((decide (0≤i8))&&(decide (i8 < l0.length))) then bif ((l0.getD i8.toNat (0:UInt8))==(61:UInt8)) then bif ((decide (0≤i8))&&(decide (i8 < l0.length))) then bif (decide (out6.length+length (qbL l0 i8)≤room)) then next l0 soft5 (out6++(qbL l0 i8)) (wrap .i64 (strange7+1)) (wrap .i64 (i8+1)) else none else none else bif ((decide (0≤i8))&&(decide (i8 < l0.length))) then bif (decide (out6.length+length (qbL l0 i8)≤room)) then next l0 soft5 (out6++(qbL l0 i8)) strange7 (wrap .i64 (i8+1)) else none else none else none else none else k2 soft5 out6 strange7
def qlN (k2:Bool→LU→Int→OA):Nat→LU→Bool→LU→Int→Int→OA
 | 0=>fun _ _ _ _ _=>none
 | n+1=>qgE k2 (qlN k2 n) n
def qgF (_n:Nat) (soft5:Bool) (out6:LU) (strange7:Int):OA :=
 qAv out6 soft5 strange7
def qaK (l0:LU):=(wrap .i64 ((l0.length:Int) - (1:Int)))
def qcH (l0:LU):=((l0.getD (qaK l0).toNat (0:UInt8))==(61:UInt8))
def qgG (n:Nat) (l0:LU):OA :=
 bif (decide ((0:Int) < (l0.length:Int))) then bif ((decide (0≤(qaK l0)))&&(decide ((qaK l0) < l0.length))) then bif (qcH l0) then bif (((decide (0≤((0:Nat):Int)))&&(decide (((0:Nat):Int)≤(qaK l0))))&&(decide ((qaK l0)≤(l0.length:Int)))) then qlN (qgF n) n (drop ((0:Nat):Int).toNat (take (qaK l0).toNat l0)) (qcH l0) ([]:LU) (0:Int) (0:Int) else none else qlN (qgF n) n l0 (qcH l0) ([]:LU) (0:Int) (0:Int) else none else qlN (qgF n) n l0 false ([]:LU) (0:Int) (0:Int)
def qFw (n:Nat) (l0:LU):OA :=
 qqK (qgG n) n l0
def qcI (s0:LU) (i7:Int):=([(s0.getD i7.toNat (0:UInt8))]:LU)
def qg (line5:LU) (strange6:Int):=(wrap .i64 (strange6+((z85 line5).2.2)))
def qL (s0:LU) (i7:Int):=((s0.getD (wrap .i64 (i7+1)).toNat (0:UInt8))==(10:UInt8))
def qE (s0:LU) (i7:Int):=((decide (0≤i7))&&(decide (i7 < s0.length)))
def qC (s0:LU) (out4:LU) (line5:LU) (i7:Int):=((out4++((z85 line5).1))++(qcI s0 i7))
def qaf (s0:LU) (out4:LU) (line5:LU) (i7:Int):=(decide (length (out4++((z85 line5).1))+length (qcI s0 i7)≤room))
def qag (i7:Int):=(wrap .i64 ((wrap .i64 (i7+1))+1))
def qeb (s0:LU) (i7:Int):=((decide (0≤(wrap .i64 (i7+1))))&&(decide ((wrap .i64 (i7+1)) < s0.length)))
def qbk (s0:LU) (out4:LU) (line5:LU) (i7:Int):=((qC s0 out4 line5 i7)++([(10:UInt8)]:LU))
def qec (s0:LU) (i7:Int):=(decide ((wrap .i64 (i7+1)) < (s0.length:Int)))
def qlO (k0:LU→Int→OA) (next:LU→LU→LU→Int→Int→OA) (_n:Nat) (s0:LU) (out4:LU) (line5:LU) (strange6:Int) (i7:Int):OA :=
 bif (decide (i7≤(s0.length:Int))) then bif (decide (i7 < (s0.length:Int))) then bif (qE s0 i7) then bif ((s0.getD i7.toNat (0:UInt8)) != (13:UInt8)) then bif (qE s0 i7) then bif ((s0.getD i7.toNat (0:UInt8)) != (10:UInt8)) then bif (qE s0 i7) then bif (decide (line5.length+length (qcI s0 i7)≤room)) then next s0 out4 (line5++(qcI s0 i7)) strange6 (wrap .i64 (i7+1)) else none else none else bif ((quL line5)&&true) then bif (decide (out4.length+length ((z85 line5).1)≤room)) then bif (i7==(s0.length:Int)) then k0 (out4++((z85 line5).1)) (qg line5 strange6) else bif (qE s0 i7) then bif ((s0.getD i7.toNat (0:UInt8))==(13:UInt8)) then bif (qec s0 i7) then bif (qeb s0 i7) then bif (!((z85 line5).2.1)) then bif (qE s0 i7) then bif (qaf s0 out4 line5 i7) then bif (qL s0 i7) then bif (decide (length (qC s0 out4 line5 i7)+length ([(10:UInt8)]:LU)≤room)) then bif (qL s0 i7) then next s0 (qbk s0 out4 line5 i7) ([]:LU) (qg line5 strange6) (qag i7) else next s0 (qbk s0 out4 line5 i7) ([]:LU) (qg line5 strange6) (wrap .i64 (i7+1)) else none else bif (qL s0 i7) then next s0 (qC s0 out4 line5 i7) ([]:LU) (qg line5 strange6) (qag i7) else next s0 (qC s0 out4 line5 i7) ([]:LU) (qg line5 strange6) (wrap .i64 (i7+1)) else none else none else bif (qL s0 i7) then next s0 (out4++((z85 line5).1)) ([]:LU) (qg line5 strange6) (qag i7) else next s0 (out4++((z85 line5).1)) ([]:LU) (qg line5 strange6) (wrap .i64 (i7+1)) else none else bif (!((z85 line5).2.1)) then bif (qE s0 i7) then bif (qaf s0 out4 line5 i7) then next s0 (qC s0 out4 line5 i7) ([]:LU) (qg line5 strange6) (wrap .i64 (i7+1)) else none else none else next s0 (out4++((z85 line5).1)) ([]:LU) (qg line5 strange6) (wrap .i64 (i7+1)) else bif (!((z85 line5).2.1)) then bif (qE s0 i7) then bif (qaf s0 out4 line5 i7) then next s0 (qC s0 out4 line5 i7) ([]:LU) (qg line5 strange6) (wrap .i64 (i7+1)) else none else none else next s0 (out4++((z85 line5).1)) ([]:LU) (qg line5 strange6) (wrap .i64 (i7+1)) else none else none else none else none else bif ((quL line5)&&true) then bif (decide (out4.length+length ((z85 line5).1)≤room)) then bif (i7==(s0.length:Int)) then k0 (out4++((z85 line5).1)) (qg line5 strange6) else bif (qE s0 i7) then bif ((s0.getD i7.toNat (0:UInt8))==(13:UInt8)) then bif (qec s0 i7) then bif (qeb s0 i7) then bif (!((z85 line5).2.1)) then bif (qE s0 i7) then bif (qaf s0 out4 line5 i7) then bif (qL s0 i7) then bif (decide (length (qC s0 out4 line5 i7)+length ([(10:UInt8)]:LU)≤room)) then bif (qL s0 i7) then next s0 (qbk s0 out4 line5 i7) ([]:LU) (qg line5 strange6) (qag i7) else next s0 (qbk s0 out4 line5 i7) ([]:LU) (qg line5 strange6) (wrap .i64 (i7+1)) else none else bif (qL s0 i7) then next s0 (qC s0 out4 line5 i7) ([]:LU) (qg line5 strange6) (qag i7) else next s0 (qC s0 out4 line5 i7) ([]:LU) (qg line5 strange6) (wrap .i64 (i7+1)) else none else none else bif (qL s0 i7) then next s0 (out4++((z85 line5).1)) ([]:LU) (qg line5 strange6) (qag i7) else next s0 (out4++((z85 line5).1)) ([]:LU) (qg line5 strange6) (wrap .i64 (i7+1)) else none else bif (!((z85 line5).2.1)) then bif (qE s0 i7) then bif (qaf s0 out4 line5 i7) then next s0 (qC s0 out4 line5 i7) ([]:LU) (qg line5 strange6) (wrap .i64 (i7+1)) else none else none else next s0 (out4++((z85 line5).1)) ([]:LU) (qg line5 strange6) (wrap .i64 (i7+1)) else bif (!((z85 line5).2.1)) then bif (qE s0 i7) then bif (qaf s0 out4 line5 i7) then next s0 (qC s0 out4 line5 i7) ([]:LU) (qg line5 strange6) (wrap .i64 (i7+1)) else none else none else next s0 (out4++((z85 line5).1)) ([]:LU) (qg line5 strange6) (wrap .i64 (i7+1)) else none else none else none else none else bif ((quL line5)&&true) then bif (decide (out4.length+length ((z85 line5).1)≤room)) then bif (i7==(s0.length:Int)) then k0 (out4++((z85 line5).1)) (qg line5 strange6) else bif (qE s0 i7) then bif ((s0.getD i7.toNat (0:UInt8))==(13:UInt8)) then bif (qec s0 i7) then bif (qeb s0 i7) then bif (!((z85 line5).2.1)) then bif (qE s0 i7) then bif (qaf s0 out4 line5 i7) then bif (qL s0 i7) then bif (decide (length (qC s0 out4 line5 i7)+length ([(10:UInt8)]:LU)≤room)) then bif (qL s0 i7) then next s0 (qbk s0 out4 line5 i7) ([]:LU) (qg line5 strange6) (qag i7) else next s0 (qbk s0 out4 line5 i7) ([]:LU) (qg line5 strange6) (wrap .i64 (i7+1)) else none else bif (qL s0 i7) then next s0 (qC s0 out4 line5 i7) ([]:LU) (qg line5 strange6) (qag i7) else next s0 (qC s0 out4 line5 i7) ([]:LU) (qg line5 strange6) (wrap .i64 (i7+1)) else none else none else bif (qL s0 i7) then next s0 (out4++((z85 line5).1)) ([]:LU) (qg line5 strange6) (qag i7) else next s0 (out4++((z85 line5).1)) ([]:LU) (qg line5 strange6) (wrap .i64 (i7+1)) else none else bif (!((z85 line5).2.1)) then bif (qE s0 i7) then bif (qaf s0 out4 line5 i7) then next s0 (qC s0 out4 line5 i7) ([]:LU) (qg line5 strange6) (wrap .i64 (i7+1)) else none else none else next s0 (out4++((z85 line5).1)) ([]:LU) (qg line5 strange6) (wrap .i64 (i7+1)) else bif (!((z85 line5).2.1)) then bif (qE s0 i7) then bif (qaf s0 out4 line5 i7) then next s0 (qC s0 out4 line5 i7) ([]:LU) (qg line5 strange6) (wrap .i64 (i7+1)) else none else none else next s0 (out4++((z85 line5).1)) ([]:LU) (qg line5 strange6) (wrap .i64 (i7+1)) else none else none else none else k0 out4 strange6
def qjU (k0:LU→Int→OA):Nat→LU→LU→LU→Int→Int→OA
 | 0=>fun _ _ _ _ _=>none
 | n+1=>qlO k0 (qjU k0 n) n
def qqL (_n:Nat) (out4:LU) (strange6:Int):OA :=
 qAa out4 strange6
def qFx (n:Nat) (s0:LU):OA :=
 qjU (qqL n) n s0 ([]:LU) ([]:LU) (0:Int) (0:Int)
def qby (n0:Int):=(tmod (wrap .i64 ((tmod n0 (64:Int))+(64:Int))) (64:Int))
def qIv (_n:Nat) (n0:Int):OA :=
 bif (decide ((qby n0) < (26:Int))) then qlD (ofNat (wrap .u8 (wrap .i64 ((65:Int)+(qby n0)))).toNat) else bif (decide ((qby n0) < (52:Int))) then qlD (ofNat (wrap .u8 (wrap .i64 ((wrap .i64 ((97:Int)+(qby n0))) - (26:Int)))).toNat) else bif (decide ((qby n0) < (62:Int))) then qlD (ofNat (wrap .u8 (wrap .i64 ((wrap .i64 ((48:Int)+(qby n0))) - (52:Int)))).toNat) else bif ((qby n0)==(62:Int)) then qlD (43:UInt8) else qlD (47:UInt8)
def qed (ret:Int→Bool→OA) (k0:OA) (next:UInt8→Int→OA) (_n:Nat) (c0:UInt8) (n4:Int):OA :=
 bif (decide (n4 < (64:Int))) then
 bif ((z191 n4)==c0) then
 ret n4 true
 else
 next c0 (wrap .i64 (n4+1))
 else
 k0
def qkw (ret:Int→Bool→OA) (k0:OA):Nat→UInt8→Int→OA
 | 0=>fun _ _=>none
 | n+1=>qed ret k0 (qkw ret k0 n) n
def qlP (_n:Nat):OA :=
 qje (0:Int) false
def qtb (n:Nat) (c0:UInt8):OA :=
 qkw qje (qlP n) n c0 (0:Int)
def qgH (k0:LU→Int→OA) (next:LU→LU→Int→Int→OA) (_n:Nat) (s0:LU) (out4:LU) (strange5:Int) (i6:Int):OA :=
 bif (decide (i6 < (s0.length:Int))) then
 bif ((decide (0≤i6))&&(decide (i6 < s0.length))) then
 bif ((s0.getD i6.toNat (0:UInt8)) != (61:UInt8)) then
 bif ((decide (0≤i6))&&(decide (i6 < s0.length))) then
 bif ((z150 (s0.getD i6.toNat (0:UInt8))).2) then
 bif ((decide (0≤i6))&&(decide (i6 < s0.length))) then
 bif (decide (out4.length+length ([(s0.getD i6.toNat (0:UInt8))]:LU)≤room)) then
 next s0 (out4++([(s0.getD i6.toNat (0:UInt8))]:LU)) strange5 (wrap .i64 (i6+1))
 else none
 else none
 else
 next s0 out4 (wrap .i64 (strange5+1)) (wrap .i64 (i6+1))
 else none
 else
 k0 out4 strange5
 else none
 else
 k0 out4 strange5
def quT (k0:LU→Int→OA):Nat→LU→LU→Int→Int→OA
 | 0=>fun _ _ _ _=>none
 | n+1=>qgH k0 (quT k0 n) n
def qqM (_n:Nat) (out4:LU) (strange5:Int):OA :=
 qAa out4 strange5
def qLG (n:Nat) (s0:LU):OA :=
 quT (qqM n) n s0 ([]:LU) (0:Int) (0:Int)
def qdF (s2:LI) (s3:Bool):OA:=some (.tup [(.dat (.sl (.int .i64)) s2 none),(dg s3)])
def qlQ (k2:LU→LI→Int→OA) (next:LU→LI→Int→Int→Int→OA) (_n:Nat) (s0:LU) (out4:LI) (i5:Int) (n6:Int) (k8:Int):OA :=
 bif (decide (0≤k8)) then
 bif (decide (0≤k8)) then
 bif (decide (out4.length+length ([(tmod (Int.fdiv n6 (2 ^ (min k8.toNat (IntKind.bits .i64)))) (2:Int))]:LI)≤room)) then
 next s0 (out4++([(tmod (Int.fdiv n6 (2 ^ (min k8.toNat (IntKind.bits .i64)))) (2:Int))]:LI)) i5 n6 (wrap .i64 (k8 - (1:Int)))
 else none
 else none
 else
 k2 s0 out4 i5
def qlR (k2:LU→LI→Int→OA):Nat→LU→LI→Int→Int→Int→OA
 | 0=>fun _ _ _ _ _=>none
 | n+1=>qlQ k2 (qlR k2 n) n
def qAw (_ret:LI→Bool→OA) (_k0:LI→OA) (next:LU→LI→Int→OA) (_n:Nat) (s0:LU) (out4:LI) (i5:Int):OA :=
 next s0 out4 (wrap .i64 (i5+1))
def qeP (ret:LI→Bool→OA) (k0:LI→OA) (next:LU→LI→Int→OA) (n:Nat) (s0:LU) (out4:LI) (i5:Int):OA :=
 bif (decide (i5 < (s0.length:Int))) then
 bif ((decide (0≤i5))&&(decide (i5 < s0.length))) then
 bif (!((z150 (s0.getD i5.toNat (0:UInt8))).2)) then
 ret ([]:LI) false
 else
 qlR (qAw ret k0 next n) n s0 out4 i5 ((z150 (s0.getD i5.toNat (0:UInt8))).1) (5:Int)
 else none
 else
 k0 out4
def qob (ret:LI→Bool→OA) (k0:LI→OA):Nat→LU→LI→Int→OA
 | 0=>fun _ _ _=>none
 | n+1=>qeP ret k0 (qob ret k0 n) n
def qjt (_n:Nat) (out4:LI):OA :=
 qdF out4 true
def qLH (n:Nat) (s0:LU):OA :=
 qob qdF (qjt n) n s0 ([]:LI) (0:Int)
def qee (k0:Int→OA) (next:LI→Int→Int→OA) (_n:Nat) (l0:LI) (n3:Int) (i4:Int):OA :=
 bif (decide (i4 < (l0.length:Int))) then
 bif ((decide (0≤i4))&&(decide (i4 < l0.length))) then
 next l0 (wrap .i64 ((wrap .i64 ((2:Int)*n3))+(l0.getD i4.toNat 0))) (wrap .i64 (i4+1))
 else none
 else
 k0 n3
def qkx (k0:Int→OA):Nat→LI→Int→Int→OA
 | 0=>fun _ _ _=>none
 | n+1=>qee k0 (qkx k0 n) n
def qlS (_n:Nat) (n3:Int):OA :=
 qHL n3
def qtc (n:Nat) (l0:LI):OA :=
 qkx (qlS n) n l0 (0:Int) (0:Int)
def qcJ (l0:LI) (i5:Int):=(drop i5.toNat (take (wrap .i64 (i5+(8:Int))).toNat l0))
def qgI (k0:LI→LU→Int→OA) (next:LI→LU→Int→OA) (_n:Nat) (l0:LI) (out4:LU) (i5:Int):OA :=
 bif (decide ((wrap .i64 (i5+(8:Int)))≤(l0.length:Int))) then bif (((decide (0≤i5))&&(decide (i5≤(wrap .i64 (i5+(8:Int))))))&&(decide ((wrap .i64 (i5+(8:Int)))≤(l0.length:Int)))) then bif ((qfx (qcJ l0 i5))&&true) then bif (decide (out4.length+length ([(ofNat (wrap .u8 (z151 (qcJ l0 i5))).toNat)]:LU)≤room)) then next l0 (out4++([(ofNat (wrap .u8 (z151 (qcJ l0 i5))).toNat)]:LU)) (wrap .i64 (i5+(8:Int))) else none else none else none else k0 l0 out4 i5
def quU (k0:LI→LU→Int→OA):Nat→LI→LU→Int→OA
 | 0=>fun _ _ _=>none
 | n+1=>qgI k0 (quU k0 n) n
def qlT (_n:Nat) (l0:LI) (out4:LU) (i5:Int):OA :=
 bif (((decide (0≤i5))&&(decide (i5≤(l0.length:Int))))&&(decide ((l0.length:Int)≤(l0.length:Int)))) then
 bif ((qfx (drop i5.toNat (take (l0.length:Int).toNat l0)))&&true) then
 qqx out4 ((z151 (drop i5.toNat (take (l0.length:Int).toNat l0)))==(0:Int))
 else none
 else none
def qLI (n:Nat) (l0:LI):OA :=
 quU (qlT n) n l0 ([]:LU) (0:Int)
def qRr (_n:Nat) (s0:LU):OA :=
 bif ((qCA s0)&&true) then
 bif ((qui ((z86 s0).1))&&true) then
 bif ((quj ((z87 ((z86 s0).1)).1))&&true) then
 qAa ((z88 ((z87 ((z86 s0).1)).1)).1) (tmod (((z87 ((z86 s0).1)).1).length:Int) (8:Int))
 else none
 else none
 else none
def qIx (_n:Nat) (c0:UInt8):OA :=
 bif (decide (c0 < (128:UInt8))) then
 qHL (1:Int)
 else
 bif (decide ((194:UInt8)≤c0)) then
 bif (decide (c0≤(223:UInt8))) then
 qHL (2:Int)
 else
 bif (decide ((224:UInt8)≤c0)) then
 bif (decide (c0≤(239:UInt8))) then
 qHL (3:Int)
 else
 bif (decide ((240:UInt8)≤c0)) then
 bif (decide (c0≤(244:UInt8))) then
 qHL (4:Int)
 else
 qHL (0:Int)
 else
 qHL (0:Int)
 else
 bif (decide ((240:UInt8)≤c0)) then
 bif (decide (c0≤(244:UInt8))) then
 qHL (4:Int)
 else
 qHL (0:Int)
 else
 qHL (0:Int)
 else
 bif (decide ((224:UInt8)≤c0)) then
 bif (decide (c0≤(239:UInt8))) then
 qHL (3:Int)
 else
 bif (decide ((240:UInt8)≤c0)) then
 bif (decide (c0≤(244:UInt8))) then
 qHL (4:Int)
 else
 qHL (0:Int)
 else
 qHL (0:Int)
 else
 bif (decide ((240:UInt8)≤c0)) then
 bif (decide (c0≤(244:UInt8))) then
 qHL (4:Int)
 else
 qHL (0:Int)
 else
 qHL (0:Int)
def qgJ (s2:UInt8) (s3:UInt8):OA:=some (.tup [(dm s2),(dm s3)])
def qIy (_n:Nat) (c0:UInt8):OA :=
 bif (c0==(224:UInt8)) then
 qgJ (160:UInt8) (191:UInt8)
 else
 bif (c0==(237:UInt8)) then
 qgJ (128:UInt8) (159:UInt8)
 else
 bif (c0==(240:UInt8)) then
 qgJ (144:UInt8) (191:UInt8)
 else
 bif (c0==(244:UInt8)) then
 qgJ (128:UInt8) (143:UInt8)
 else
 qgJ (128:UInt8) (191:UInt8)
def qbl (s0:LU) (n3:Int):=((decide (0≤n3))&&(decide (n3 < s0.length)))
def qef (ret:Int→OA) (k0:Int→OA) (next:LU→Int→OA) (_n:Nat) (s0:LU) (n3:Int):OA :=
 bif ((decide (0≤(0:Int)))&&(decide ((0:Int) < s0.length))) then bif (decide (n3 < (z204 (s0.getD (0:Int).toNat (0:UInt8))))) then bif (decide (n3 < (s0.length:Int))) then bif (n3==(1:Int)) then bif ((decide (0≤(0:Int)))&&(decide ((0:Int) < s0.length))) then bif (qbl s0 n3) then bif (decide ((s0.getD n3.toNat (0:UInt8)) < ((z232 (s0.getD (0:Int).toNat (0:UInt8))).1))) then ret n3 else bif (qbl s0 n3) then bif (decide (((z232 (s0.getD (0:Int).toNat (0:UInt8))).2) < (s0.getD n3.toNat (0:UInt8)))) then ret n3 else next s0 (wrap .i64 (n3+1)) else none else none else none else bif (qbl s0 n3) then bif (decide ((s0.getD n3.toNat (0:UInt8)) < (128:UInt8))) then ret n3 else bif (qbl s0 n3) then bif (decide ((191:UInt8) < (s0.getD n3.toNat (0:UInt8)))) then ret n3 else next s0 (wrap .i64 (n3+1)) else none else none else k0 n3 else k0 n3 else none
def qju (ret:Int→OA) (k0:Int→OA):Nat→LU→Int→OA
 | 0=>fun _ _=>none
 | n+1=>qef ret k0 (qju ret k0 n) n
def qhX (_n:Nat) (n3:Int):OA :=
 qHL n3
def qtd (n:Nat) (s0:LU):OA :=
 bif ((s0.length:Int)==(0:Int)) then
 qHL (0:Int)
 else
 bif ((decide (0≤(0:Int)))&&(decide ((0:Int) < s0.length))) then
 bif ((z204 (s0.getD (0:Int).toNat (0:UInt8)))==(0:Int)) then
 qHL (0:Int)
 else
 qju qHL (qhX n) n s0 (1:Int)
 else none
def qeg (k0:Int→Int→OA) (next:LU→Int→Int→Int→OA) (_n:Nat) (s0:LU) (n5:Int) (c7:Int) (i8:Int):OA :=
 bif (decide (i8 < n5)) then
 bif ((decide (0≤i8))&&(decide (i8 < s0.length))) then
 next s0 n5 (wrap .i64 ((wrap .i64 ((wrap .i64 ((64:Int)*c7))+(wrap .i64 ((toNat (s0.getD i8.toNat (0:UInt8)):Nat):Int)))) - (128:Int))) (wrap .i64 (i8+1))
 else none
 else
 k0 n5 c7
def qky (k0:Int→Int→OA):Nat→LU→Int→Int→Int→OA
 | 0=>fun _ _ _ _=>none
 | n+1=>qeg k0 (qky k0 n) n
def qlU (_n:Nat) (n5:Int) (c7:Int):OA :=
 qcT (wrap .i32 c7) n5 (0:Int)
def qte (n:Nat) (s0:LU):OA :=
 bif ((s0.length:Int)==(0:Int)) then
 qcT (0:Int) (0:Int) (4:Int)
 else
 bif ((qrO s0)&&true) then
 bif (decide ((0:Int) < (z203 s0))) then
 bif ((decide (0≤(0:Int)))&&(decide ((0:Int) < s0.length))) then
 bif ((z203 s0)==(z204 (s0.getD (0:Int).toNat (0:UInt8)))) then
 bif ((decide (0≤(0:Int)))&&(decide ((0:Int) < s0.length))) then
 bif ((decide (0≤(z203 s0)))&&(decide ((z203 s0) < ([(0:Int),(0:Int),(192:Int),(224:Int),(240:Int)]:LI).length))) then
 qky (qlU n) n s0 (z203 s0) (wrap .i64 ((wrap .i64 ((toNat (s0.getD (0:Int).toNat (0:UInt8)):Nat):Int)) - (([(0:Int),(0:Int),(192:Int),(224:Int),(240:Int)]:LI).getD (z203 s0).toNat 0))) (1:Int)
 else none
 else none
 else
 bif ((z203 s0)==(s0.length:Int)) then
 qcT (0:Int) (z203 s0) (4:Int)
 else
 qcT (0:Int) (bif (decide ((1:Int) > (z203 s0))) then (1:Int) else (z203 s0)) (3:Int)
 else none
 else
 bif ((z203 s0)==(s0.length:Int)) then
 qcT (0:Int) (z203 s0) (4:Int)
 else
 qcT (0:Int) (bif (decide ((1:Int) > (z203 s0))) then (1:Int) else (z203 s0)) (3:Int)
 else none
def qoc (s2:LI) (s3:Int) (s4:Int):OA:=some (.tup [(.dat (.sl (.int .i32)) s2 none),(dc s3),(dc s4)])
def qbm (s0:LU) (at8:Int):=(z152 (drop at8.toNat (take (s0.length:Int).toNat s0)))
def qeh (s0:LU) (at8:Int):=(wrap .i64 (at8+(bif (decide ((1:Int) > ((qbm s0 at8).2.1))) then (1:Int) else ((qbm s0 at8).2.1))))
def qlV (k0:LI→Int→Int→OA) (next:LU→LI→Int→Int→Int→OA) (_n:Nat) (s0:LU) (out5:LI) (broken6:Int) (first7:Int) (at8:Int):OA :=
 bif (decide (at8 < (s0.length:Int))) then bif (((decide (0≤at8))&&(decide (at8≤(s0.length:Int))))&&(decide ((s0.length:Int)≤(s0.length:Int)))) then bif ((qrP (drop at8.toNat (take (s0.length:Int).toNat s0)))&&true) then bif (((qbm s0 at8).2.2) != (0:Int)) then bif (first7==(0:Int)) then bif (decide (out5.length+length ([(65533:Int)]:LI)≤room)) then next s0 (out5++([(65533:Int)]:LI)) (wrap .i64 (broken6+1)) ((qbm s0 at8).2.2) (qeh s0 at8) else none else bif (decide (out5.length+length ([(65533:Int)]:LI)≤room)) then next s0 (out5++([(65533:Int)]:LI)) (wrap .i64 (broken6+1)) first7 (qeh s0 at8) else none else bif (decide (out5.length+length ([((qbm s0 at8).1)]:LI)≤room)) then next s0 (out5++([((qbm s0 at8).1)]:LI)) broken6 first7 (qeh s0 at8) else none else none else none else k0 out5 broken6 first7
def qqN (k0:LI→Int→Int→OA):Nat→LU→LI→Int→Int→Int→OA
 | 0=>fun _ _ _ _ _=>none
 | n+1=>qlV k0 (qqN k0 n) n
def qlW (_n:Nat) (out5:LI) (broken6:Int) (first7:Int):OA :=
 qoc out5 broken6 first7
def qLJ (n:Nat) (s0:LU):OA :=
 qqN (qlW n) n s0 ([]:LI) (0:Int) (0:Int) (0:Int)
def qRs (_n:Nat) (x0:UInt8):OA :=
 bif (x0==(164:UInt8)) then
 qqB (8364:Int)
 else
 bif (x0==(166:UInt8)) then
 qqB (352:Int)
 else
 bif (x0==(168:UInt8)) then
 qqB (353:Int)
 else
 bif (x0==(180:UInt8)) then
 qqB (381:Int)
 else
 bif (x0==(184:UInt8)) then
 qqB (382:Int)
 else
 bif (x0==(188:UInt8)) then
 qqB (338:Int)
 else
 bif (x0==(189:UInt8)) then
 qqB (339:Int)
 else
 bif (x0==(190:UInt8)) then
 qqB (376:Int)
 else
 qqB (wrap .i32 ((toNat x0:Nat):Int))
def qlX:=([(8364:Int),(65533:Int),(8218:Int),(402:Int),(8222:Int),(8230:Int),(8224:Int),(8225:Int),(710:Int),(8240:Int),(352:Int),(8249:Int),(338:Int),(65533:Int),(381:Int),(65533:Int),(65533:Int),(8216:Int),(8217:Int),(8220:Int),(8221:Int),(8226:Int),(8211:Int),(8212:Int),(732:Int),(8482:Int),(353:Int),(8250:Int),(339:Int),(65533:Int),(382:Int),(376:Int)]:LI)
def qRt (_n:Nat) (x0:UInt8):OA :=
 bif (decide (x0 < (128:UInt8))) then qqB (wrap .i32 ((toNat x0:Nat):Int)) else bif (decide ((159:UInt8) < x0)) then qqB (wrap .i32 ((toNat x0:Nat):Int)) else bif ((decide (0≤((toNat (x0 - (128:UInt8)):Nat):Int)))&&(decide (((toNat (x0 - (128:UInt8)):Nat):Int) < (qlX).length))) then qqB ((qlX).getD ((toNat (x0 - (128:UInt8)):Nat):Int).toNat 0) else none
def qaq (s1:LU) (i9:Int):=((decide (0≤i9))&&(decide (i9 < s1.length)))
def qR (s1:LU) (i9:Int):=(s1.getD i9.toNat (0:UInt8))
def qbM (s1:LU) (i9:Int):=([(wrap .i32 ((toNat (qR s1 i9):Nat):Int))]:LI)
def qgK (k0:LI→OA) (next:Int→LU→LI→Int→OA) (_n:Nat) (charset0:Int) (s1:LU) (out8:LI) (i9:Int):OA :=
 bif (decide (i9 < (s1.length:Int))) then bif (charset0==(1:Int)) then bif (qaq s1 i9) then bif (decide ((127:UInt8) < (qR s1 i9))) then bif (decide (out8.length+length ([(65533:Int)]:LI)≤room)) then next charset0 s1 (out8++([(65533:Int)]:LI)) (wrap .i64 (i9+1)) else none else bif (charset0==(3:Int)) then bif (qaq s1 i9) then bif (decide (out8.length+length ([(z90 (qR s1 i9))]:LI)≤room)) then next charset0 s1 (out8++([(z90 (qR s1 i9))]:LI)) (wrap .i64 (i9+1)) else none else none else bif (charset0==(4:Int)) then bif (qaq s1 i9) then bif (decide (out8.length+length ([(z91 (qR s1 i9))]:LI)≤room)) then next charset0 s1 (out8++([(z91 (qR s1 i9))]:LI)) (wrap .i64 (i9+1)) else none else none else bif (qaq s1 i9) then bif (decide (out8.length+length (qbM s1 i9)≤room)) then next charset0 s1 (out8++(qbM s1 i9)) (wrap .i64 (i9+1)) else none else none else none else bif (charset0==(3:Int)) then bif (qaq s1 i9) then bif (decide (out8.length+length ([(z90 (qR s1 i9))]:LI)≤room)) then next charset0 s1 (out8++([(z90 (qR s1 i9))]:LI)) (wrap .i64 (i9+1)) else none else none else bif (charset0==(4:Int)) then bif (qaq s1 i9) then bif (decide (out8.length+length ([(z91 (qR s1 i9))]:LI)≤room)) then next charset0 s1 (out8++([(z91 (qR s1 i9))]:LI)) (wrap .i64 (i9+1)) else none else none else bif (qaq s1 i9) then bif (decide (out8.length+length (qbM s1 i9)≤room)) then next charset0 s1 (out8++(qbM s1 i9)) (wrap .i64 (i9+1)) else none else none else k0 out8
def quV (k0:LI→OA):Nat→Int→LU→LI→Int→OA
 | 0=>fun _ _ _ _=>none
 | n+1=>qgK k0 (quV k0 n) n
def qlY (_n:Nat) (out8:LI):OA :=
 qAg out8
def qFy (n:Nat) (charset0:Int) (s1:LU):OA :=
 bif (charset0==(5:Int)) then
 bif ((qCu s1)&&true) then
 qAg ((z89 s1).1)
 else none
 else
 quV (qlY n) n charset0 s1 ([]:LI) (0:Int)
def qRu (_n:Nat) (coding0:Int) (charset1:Int) (s2:LU):OA :=
 bif (coding0==(2:Int)) then
 bif ((qFm s2)&&true) then
 bif ((qnd charset1 ((z40 s2).1))&&true) then
 qAg (z42 charset1 ((z40 s2).1))
 else none
 else none
 else
 bif (coding0==(3:Int)) then
 bif ((qCB s2)&&true) then
 bif ((qnd charset1 ((z41 s2).1))&&true) then
 qAg (z42 charset1 ((z41 s2).1))
 else none
 else none
 else
 bif ((qnd charset1 s2)&&true) then
 qAg (z42 charset1 s2)
 else none
def qgL (k0:LU→OA) (next:LU→Int→Int→OA) (_n:Nat) (out3:LU) (s9:Int) (s10:Int):OA :=
 bif (decide (s10 < s9)) then
 bif ((decide (0≤s10))&&(decide (s10 < out3.length))) then
 bif ((decide (0≤s10))&&(decide (s10 < out3.length))) then
 next (set out3 s10.toNat (z154 (out3.getD s10.toNat (0:UInt8)))) s9 (wrap .i64 (s10+1))
 else none
 else none
 else
 k0 out3
def qoe (k0:LU→OA):Nat→LU→Int→Int→OA
 | 0=>fun _ _ _=>none
 | n+1=>qgL k0 (qoe k0 n) n
def qqO (_n:Nat) (out3:LU):OA :=
 qjo out3
def qFz (n:Nat) (s0:LU):OA :=
 bif ((qeu s0)&&true) then
 qoe (qqO n) n (z153 s0) ((z153 s0).length:Int) (0:Int)
 else none
def qth (k0:LU→OA) (next:LU→UInt8→OA) (_n:Nat) (s0:LU) (c1:UInt8):OA :=
 bif (decide ((0:Int) < (s0.length:Int))) then
 bif ((decide (0≤(0:Int)))&&(decide ((0:Int) < s0.length))) then
 bif ((s0.getD (0:Int).toNat (0:UInt8))==c1) then
 bif (((decide (0≤(1:Int)))&&(decide ((1:Int)≤(s0.length:Int))))&&(decide ((s0.length:Int)≤(s0.length:Int)))) then
 next (drop (1:Int).toNat (take (s0.length:Int).toNat s0)) c1
 else none
 else
 k0 s0
 else none
 else
 k0 s0
def qof (k0:LU→OA):Nat→LU→UInt8→OA
 | 0=>fun _ _=>none
 | n+1=>qth k0 (qof k0 n) n
def qti (_n:Nat) (s0:LU):OA :=
 bif ((s0.length:Int)==(0:Int)) then
 qzR ([]:LU)
 else
 qzR s0
def qAz (n:Nat) (s0:LU) (c1:UInt8):OA :=
 qof (qti n) n s0 c1
def qhY (k0:LU→OA) (next:LU→List Bool→OA) (_n:Nat) (s0:LU) (as1:List Bool):OA :=
 bif (decide ((0:Int) < (s0.length:Int))) then
 bif ((decide (0≤(0:Int)))&&(decide ((0:Int) < s0.length))) then
 bif (!(z168 as1 (s0.getD (0:Int).toNat (0:UInt8)))) then
 k0 s0
 else
 bif (((decide (0≤(1:Int)))&&(decide ((1:Int)≤(s0.length:Int))))&&(decide ((s0.length:Int)≤(s0.length:Int)))) then
 next (drop (1:Int).toNat (take (s0.length:Int).toNat s0)) as1
 else none
 else none
 else
 k0 s0
def qjv (k0:LU→OA):Nat→LU→List Bool→OA
 | 0=>fun _ _=>none
 | n+1=>qhY k0 (qjv k0 n) n
def qlZ (_n:Nat) (s0:LU):OA :=
 bif ((s0.length:Int)==(0:Int)) then
 qzR ([]:LU)
 else
 qzR s0
def qtj (n:Nat) (s0:LU) (as1:List Bool):OA :=
 qjv (qlZ n) n s0 as1
def qcc (cutset1:LU):=(cutset1.getD (0:Int).toNat (0:UInt8))
def qfN (cutset1:LU):=((decide (0≤(0:Int)))&&(decide ((0:Int) < cutset1.length)))
def qAA (_n:Nat) (s0:LU) (cutset1:LU):OA :=
 bif ((s0.length:Int)==(0:Int)) then qzR ([]:LU) else bif (cutset1==([]:LU)) then qzR s0 else bif ((cutset1.length:Int)==(1:Int)) then bif (qfN cutset1) then bif (decide ((qcc cutset1) < (128:UInt8))) then bif (qfN cutset1) then bif (qfN cutset1) then bif ((qrW s0 (qcc cutset1))&&true) then bif ((qwF (z206 s0 (qcc cutset1)) (qcc cutset1))&&true) then qzR (z205 (z206 s0 (qcc cutset1)) (qcc cutset1)) else none else none else none else none else bif ((qco cutset1)&&true) then bif ((z167 cutset1).2) then bif ((qhg s0 ((z167 cutset1).1))&&true) then bif ((qni (z208 s0 ((z167 cutset1).1)) ((z167 cutset1).1))&&true) then qzR (z207 (z208 s0 ((z167 cutset1).1)) ((z167 cutset1).1)) else none else none else bif ((qnh s0 cutset1)&&true) then bif ((qwG (z210 s0 cutset1) cutset1)&&true) then qzR (z209 (z210 s0 cutset1) cutset1) else none else none else none else none else bif ((qco cutset1)&&true) then bif ((z167 cutset1).2) then bif ((qhg s0 ((z167 cutset1).1))&&true) then bif ((qni (z208 s0 ((z167 cutset1).1)) ((z167 cutset1).1))&&true) then qzR (z207 (z208 s0 ((z167 cutset1).1)) ((z167 cutset1).1)) else none else none else bif ((qnh s0 cutset1)&&true) then bif ((qwG (z210 s0 cutset1) cutset1)&&true) then qzR (z209 (z210 s0 cutset1) cutset1) else none else none else none
def qRv (_n:Nat) (s0:LU):OA :=
 bif ((qkk s0 ([32,9]:LU))&&true) then
 bif ((qeu (z155 s0 ([32,9]:LU)))&&true) then
 qjo (z153 (z155 s0 ([32,9]:LU)))
 else none
 else none
def qog (s2:LU):OA:=some (df s2 none)
def qRw (_n:Nat) (coding0:Int):OA :=
 bif (coding0==(1:Int)) then
 qog ([55,98,105,116]:LU)
 else
 bif (coding0==(2:Int)) then
 qog ([113,117,111,116,101,100,45,112,114,105,110,116,97,98,108,101]:LU)
 else
 bif (coding0==(3:Int)) then
 qog ([98,97,115,101,54,52]:LU)
 else
 qog ([]:LU)
def qfO (s2:Int) (s3:Int):OA:=some (.tup [(dc s2),(dc s3)])
def qeQ (ret:Int→Int→OA) (k0:OA) (next:LU→Int→OA) (_n:Nat) (name4:LU) (n5:Int):OA :=
 bif (decide (n5≤(3:Int))) then
 bif ((z94 n5)==name4) then
 ret n5 (0:Int)
 else
 next name4 (wrap .i64 (n5+1))
 else
 k0
def quW (ret:Int→Int→OA) (k0:OA):Nat→LU→Int→OA
 | 0=>fun _ _=>none
 | n+1=>qeQ ret k0 (quW ret k0 n) n
def qeR (_n:Nat):OA :=
 qfO (0:Int) (11:Int)
def qFA (n:Nat) (s0:LU):OA :=
 bif ((qnj s0)&&true) then
 bif ((qum (z93 s0))&&true) then
 quW qfO (qeR n) n (z92 (z93 s0)) (1:Int)
 else none
 else none
def qeS (s2:List LU):OA:=some (.dat (.sl .str) s2 (some (2,9)))
def qIB (_n:Nat) (charset0:Int):OA :=
 bif (charset0==(1:Int)) then
 qeS ([([117,115,45,97,115,99,105,105]:LU),([97,115,99,105,105]:LU),([97,110,115,105,95,120,51,46,52,45,49,57,54,56]:LU),([105,115,111,54,52,54,45,117,115]:LU)]:List LU)
 else
 bif (charset0==(2:Int)) then
 qeS ([([105,115,111,45,56,56,53,57,45,49]:LU),([105,115,111,95,56,56,53,57,45,49]:LU),([108,97,116,105,110,49]:LU),([108,49]:LU)]:List LU)
 else
 bif (charset0==(3:Int)) then
 qeS ([([105,115,111,45,56,56,53,57,45,49,53]:LU),([105,115,111,95,56,56,53,57,45,49,53]:LU),([108,97,116,105,110,45,57]:LU)]:List LU)
 else
 bif (charset0==(4:Int)) then
 qeS ([([119,105,110,100,111,119,115,45,49,50,53,50]:LU),([99,112,49,50,53,50]:LU)]:List LU)
 else
 bif (charset0==(5:Int)) then
 qeS ([([117,116,102,45,56]:LU),([117,116,102,56]:LU)]:List LU)
 else
 qeS ([]:List LU)
def qIC (s0:List (LU×Int)):OA:=some (.abs (.sl (.pair .str (.int .i64))) (qoX .str (.int .i64)) s0)
def qAB (k2:List (LU×Int)→Int→OA) (next:List (LU×Int)→Int→List LU→Int→Int→OA) (_n:Nat) (m1:List (LU×Int)) (n2:Int) (s11:List LU) (s12:Int) (s13:Int):OA :=
 bif (decide (s13 < s12)) then
 bif ((decide (0≤s13))&&(decide (s13 < s11.length))) then
 next (@putM .str (.int .i64) (s11.getD s13.toNat ([]:LU)) n2 m1) n2 s11 s12 (wrap .i64 (s13+1))
 else none
 else
 k2 m1 n2
def qAC (k2:List (LU×Int)→Int→OA):Nat→List (LU×Int)→Int→List LU→Int→Int→OA
 | 0=>fun _ _ _ _ _=>none
 | n+1=>qAB k2 (qAC k2 n) n
def qAD (_k0:List (LU×Int)→OA) (next:List (LU×Int)→Int→OA) (_n:Nat) (m1:List (LU×Int)) (n2:Int):OA :=
 next m1 (wrap .i64 (n2+1))
def qqR (k0:List (LU×Int)→OA) (next:List (LU×Int)→Int→OA) (n:Nat) (m1:List (LU×Int)) (n2:Int):OA :=
 bif (decide (n2≤(5:Int))) then
 qAC (qAD k0 next n) n m1 n2 (z156 n2) ((z156 n2).length:Int) (0:Int)
 else
 k0 m1
def qAE (k0:List (LU×Int)→OA):Nat→List (LU×Int)→Int→OA
 | 0=>fun _ _=>none
 | n+1=>qqR k0 (qAE k0 n) n
def qAF (_n:Nat) (m1:List (LU×Int)):OA :=
 qIC m1
def qLK (n:Nat):OA :=
 qAE (qAF n) n ([]:List (LU×Int)) (1:Int)
def qRx (_n:Nat) (s0:LU):OA :=
 bif (decide (0≤(z80 s0 (42:UInt8)))) then
 bif (((decide (0≤((0:Nat):Int)))&&(decide (((0:Nat):Int)≤(z80 s0 (42:UInt8)))))&&(decide ((z80 s0 (42:UInt8))≤(s0.length:Int)))) then
 bif ((qnj (drop ((0:Nat):Int).toNat (take (z80 s0 (42:UInt8)).toNat s0)))&&true) then
 qjo (z93 (drop ((0:Nat):Int).toNat (take (z80 s0 (42:UInt8)).toNat s0)))
 else none
 else none
 else
 bif ((qnj s0)&&true) then
 qjo (z93 s0)
 else none
def qLL (_n:Nat) (s0:LU):OA :=
 bif ((qCv s0)&&true) then
 bif ((qum (z96 s0))&&true) then
 bif (!(Option.isSome (@findM .str (.int .i64) (z92 (z96 s0)) z95))) then
 qfO (0:Int) (10:Int)
 else
 qfO (Option.getD (@findM .str (.int .i64) (z92 (z96 s0)) z95) (0:Int)) (0:Int)
 else none
 else none
def qRy (_n:Nat) (coding0:LU) (charset1:LU) (s2:LU):OA :=
 bif ((qEX coding0)&&true) then
 bif ((qCw charset1)&&true) then
 bif ((qqq ((z43 coding0).1) ((z44 charset1).1) s2)&&true) then
 qAg (z12 ((z43 coding0).1) ((z44 charset1).1) s2)
 else none
 else none
 else none
def qIE (_n:Nat) (c0:UInt8):OA :=
 bif (decide ((65:UInt8)≤c0)) then
 bif (decide (c0≤(90:UInt8))) then
 qlD (c0+(32:UInt8))
 else
 qlD c0
 else
 qlD c0
def qgM (k0:LU→OA) (next:LU→LU→Int→OA) (_n:Nat) (s0:LU) (out3:LU) (i4:Int):OA :=
 bif (decide (i4 < (s0.length:Int))) then
 bif ((decide (0≤i4))&&(decide (i4 < s0.length))) then
 bif (decide (out3.length+length ([(z157 (s0.getD i4.toNat (0:UInt8)))]:LU)≤room)) then
 next s0 (out3++([(z157 (s0.getD i4.toNat (0:UInt8)))]:LU)) (wrap .i64 (i4+1))
 else none
 else none
 else
 k0 out3
def quX (k0:LU→OA):Nat→LU→LU→Int→OA
 | 0=>fun _ _ _=>none
 | n+1=>qgM k0 (quX k0 n) n
def qmb (_n:Nat) (out3:LU):OA :=
 qjo out3
def qFB (n:Nat) (s0:LU):OA :=
 quX (qmb n) n s0 ([]:LU) (0:Int)
def qgN (k0:LU→Int→Int→OA) (next:LU→Int→Int→OA) (_n:Nat) (s0:LU) (a3:Int) (b4:Int):OA :=
 bif (decide (a3 < b4)) then
 bif ((decide (0≤a3))&&(decide (a3 < s0.length))) then
 bif (z136 (s0.getD a3.toNat (0:UInt8)) (2:Int)) then
 next s0 (wrap .i64 (a3+1)) b4
 else
 k0 s0 a3 b4
 else none
 else
 k0 s0 a3 b4
def qoh (k0:LU→Int→Int→OA):Nat→LU→Int→Int→OA
 | 0=>fun _ _ _=>none
 | n+1=>qgN k0 (qoh k0 n) n
def qgO (k2:LU→Int→Int→OA) (next:LU→Int→Int→OA) (_n:Nat) (s0:LU) (a3:Int) (b4:Int):OA :=
 bif (decide (a3 < b4)) then
 bif ((decide (0≤(wrap .i64 (b4 - (1:Int)))))&&(decide ((wrap .i64 (b4 - (1:Int))) < s0.length))) then
 bif (z136 (s0.getD (wrap .i64 (b4 - (1:Int))).toNat (0:UInt8)) (2:Int)) then
 next s0 a3 (wrap .i64 (b4 - (1:Int)))
 else
 k2 s0 a3 b4
 else none
 else
 k2 s0 a3 b4
def qoi (k2:LU→Int→Int→OA):Nat→LU→Int→Int→OA
 | 0=>fun _ _ _=>none
 | n+1=>qgO k2 (qoi k2 n) n
def qmc (_n:Nat) (s0:LU) (a3:Int) (b4:Int):OA :=
 bif (((decide (0≤a3))&&(decide (a3≤b4)))&&(decide (b4≤(s0.length:Int)))) then
 qzR (drop a3.toNat (take b4.toNat s0))
 else none
def qeT (n:Nat) (s0:LU) (a3:Int) (b4:Int):OA :=
 qoi (qmc n) n s0 a3 b4
def qFC (n:Nat) (s0:LU):OA :=
 qoh (qeT n) n s0 (0:Int) (s0.length:Int)
def qmd:=([([55,98,105,116]:LU),([113,117,111,116,101,100,45,112,114,105,110,116,97,98,108,101]:LU),([98,97,115,101,54,52]:LU)]:List LU)
def qRz (_n:Nat) (n0:Int):OA :=
 bif (decide (n0 < (1:Int))) then qog ([]:LU) else bif (decide ((3:Int) < n0)) then qog ([]:LU) else bif ((decide (0≤(wrap .i64 (n0 - (1:Int)))))&&(decide ((wrap .i64 (n0 - (1:Int))) < (qmd).length))) then qog ((qmd).getD (wrap .i64 (n0 - (1:Int))).toNat ([]:LU)) else none
def qeU (ret:Int→Int→OA) (k0:OA) (next:LU→Int→OA) (_n:Nat) (b4:LU) (n5:Int):OA :=
 bif (decide (n5≤(3:Int))) then
 bif ((z99 n5)==b4) then
 ret n5 (0:Int)
 else
 next b4 (wrap .i64 (n5+1))
 else
 k0
def quY (ret:Int→Int→OA) (k0:OA):Nat→LU→Int→OA
 | 0=>fun _ _=>none
 | n+1=>qeU ret k0 (quY ret k0 n) n
def qeV (_n:Nat):OA :=
 qfO (0:Int) (11:Int)
def qFD (n:Nat) (s0:LU):OA :=
 bif ((qun s0)&&true) then
 bif ((quk (z98 s0))&&true) then
 quY qfO (qeV n) n (z97 (z98 s0)) (1:Int)
 else none
 else none
def qei (k0:LU→Int→OA) (next:LU→Int→Int→OA) (_n:Nat) (s0:LU) (end3:Int) (i4:Int):OA :=
 bif (decide (0≤i4)) then
 bif ((decide (0≤i4))&&(decide (i4 < s0.length))) then
 bif ((s0.getD i4.toNat (0:UInt8))==(42:UInt8)) then
 next s0 i4 (wrap .i64 (i4 - (1:Int)))
 else
 next s0 end3 (wrap .i64 (i4 - (1:Int)))
 else none
 else
 k0 s0 end3
def qkz (k0:LU→Int→OA):Nat→LU→Int→Int→OA
 | 0=>fun _ _ _=>none
 | n+1=>qei k0 (qkz k0 n) n
def qfQ (_n:Nat) (s0:LU) (end3:Int):OA :=
 bif (((decide (0≤((0:Nat):Int)))&&(decide (((0:Nat):Int)≤end3)))&&(decide (end3≤(s0.length:Int)))) then
 bif ((qun (drop ((0:Nat):Int).toNat (take end3.toNat s0)))&&true) then
 qzR (z98 (drop ((0:Nat):Int).toNat (take end3.toNat s0)))
 else none
 else none
def qtl (n:Nat) (s0:LU):OA :=
 qkz (qfQ n) n s0 (s0.length:Int) (wrap .i64 ((s0.length:Int) - (1:Int)))
def qIH (_n:Nat) (n0:Int):OA :=
 bif (n0==(1:Int)) then
 qeS ([([117,115,45,97,115,99,105,105]:LU),([97,115,99,105,105]:LU),([97,110,115,105,95,120,51,46,52,45,49,57,54,56]:LU),([105,115,111,54,52,54,45,117,115]:LU)]:List LU)
 else
 bif (n0==(2:Int)) then
 qeS ([([105,115,111,45,56,56,53,57,45,49]:LU),([105,115,111,95,56,56,53,57,45,49]:LU),([108,97,116,105,110,49]:LU),([108,49]:LU)]:List LU)
 else
 bif (n0==(3:Int)) then
 qeS ([([105,115,111,45,56,56,53,57,45,49,53]:LU),([105,115,111,95,56,56,53,57,45,49,53]:LU),([108,97,116,105,110,45,57]:LU)]:List LU)
 else
 bif (n0==(4:Int)) then
 qeS ([([119,105,110,100,111,119,115,45,49,50,53,50]:LU),([99,112,49,50,53,50]:LU)]:List LU)
 else
 bif (n0==(5:Int)) then
 qeS ([([117,116,102,45,56]:LU),([117,116,102,56]:LU)]:List LU)
 else
 qeS ([]:List LU)
def qgP (ret:Int→Int→OA) (k2:LU→Int→OA) (next:LU→Int→List LU→Int→OA) (_n:Nat) (b4:LU) (n5:Int) (l6:List LU) (i7:Int):OA :=
 bif (decide (i7 < (l6.length:Int))) then
 bif ((decide (0≤i7))&&(decide (i7 < l6.length))) then
 bif ((l6.getD i7.toNat ([]:LU))==b4) then
 ret n5 (0:Int)
 else
 next b4 n5 l6 (wrap .i64 (i7+1))
 else none
 else
 k2 b4 n5
def quZ (ret:Int→Int→OA) (k2:LU→Int→OA):Nat→LU→Int→List LU→Int→OA
 | 0=>fun _ _ _ _=>none
 | n+1=>qgP ret k2 (quZ ret k2 n) n
def qqS (_ret:Int→Int→OA) (_k0:OA) (next:LU→Int→OA) (_n:Nat) (b4:LU) (n5:Int):OA :=
 next b4 (wrap .i64 (n5+1))
def qjw (ret:Int→Int→OA) (k0:OA) (next:LU→Int→OA) (n:Nat) (b4:LU) (n5:Int):OA :=
 bif (decide (n5≤(5:Int))) then
 quZ ret (qqS ret k0 next n) n b4 n5 (z101 n5) (0:Int)
 else
 k0
def qjV (ret:Int→Int→OA) (k0:OA):Nat→LU→Int→OA
 | 0=>fun _ _=>none
 | n+1=>qjw ret k0 (qjV ret k0 n) n
def qeX (_n:Nat):OA :=
 qfO (0:Int) (10:Int)
def qFE (n:Nat) (s0:LU):OA :=
 bif ((qrQ s0)&&true) then
 bif ((quk (z100 s0))&&true) then
 qjV qfO (qeX n) n (z97 (z100 s0)) (1:Int)
 else none
 else none
def qRA (_n:Nat) (coding0:LU) (charset1:LU) (s2:LU):OA :=
 bif ((qEY coding0)&&true) then
 bif ((qCx charset1)&&true) then
 bif ((qqr ((z45 coding0).1) ((z46 charset1).1) s2)&&true) then
 qAg (z20 ((z45 coding0).1) ((z46 charset1).1) s2)
 else none
 else none
 else none
def qgQ (k0:Int→OA) (next:LU→Int→Int→OA) (_n:Nat) (s0:LU) (n3:Int) (i4:Int):OA :=
 bif (decide (i4 < (s0.length:Int))) then
 bif ((decide (0≤i4))&&(decide (i4 < s0.length))) then
 bif ((s0.getD i4.toNat (0:UInt8))==(13:UInt8)) then
 bif ((wrap .i64 (i4+1))==(s0.length:Int)) then
 next s0 (wrap .i64 (n3+1)) (wrap .i64 (i4+1))
 else
 bif ((decide (0≤(wrap .i64 (i4+1))))&&(decide ((wrap .i64 (i4+1)) < s0.length))) then
 bif ((s0.getD (wrap .i64 (i4+1)).toNat (0:UInt8)) != (10:UInt8)) then
 next s0 (wrap .i64 (n3+1)) (wrap .i64 (i4+1))
 else
 bif ((decide (0≤i4))&&(decide (i4 < s0.length))) then
 bif ((s0.getD i4.toNat (0:UInt8))==(10:UInt8)) then
 bif (i4==(0:Int)) then
 next s0 (wrap .i64 (n3+1)) (wrap .i64 (i4+1))
 else
 bif ((decide (0≤(wrap .i64 (i4 - (1:Int)))))&&(decide ((wrap .i64 (i4 - (1:Int))) < s0.length))) then
 bif ((s0.getD (wrap .i64 (i4 - (1:Int))).toNat (0:UInt8)) != (13:UInt8)) then
 next s0 (wrap .i64 (n3+1)) (wrap .i64 (i4+1))
 else
 next s0 n3 (wrap .i64 (i4+1))
 else none
 else
 next s0 n3 (wrap .i64 (i4+1))
 else none
 else none
 else
 bif ((decide (0≤i4))&&(decide (i4 < s0.length))) then
 bif ((s0.getD i4.toNat (0:UInt8))==(10:UInt8)) then
 bif (i4==(0:Int)) then
 next s0 (wrap .i64 (n3+1)) (wrap .i64 (i4+1))
 else
 bif ((decide (0≤(wrap .i64 (i4 - (1:Int)))))&&(decide ((wrap .i64 (i4 - (1:Int))) < s0.length))) then
 bif ((s0.getD (wrap .i64 (i4 - (1:Int))).toNat (0:UInt8)) != (13:UInt8)) then
 next s0 (wrap .i64 (n3+1)) (wrap .i64 (i4+1))
 else
 next s0 n3 (wrap .i64 (i4+1))
 else none
 else
 next s0 n3 (wrap .i64 (i4+1))
 else none
 else none
 else
 k0 n3
def qjW (k0:Int→OA):Nat→LU→Int→Int→OA
 | 0=>fun _ _ _=>none
 | n+1=>qgQ k0 (qjW k0 n) n
def qqT (_n:Nat) (n3:Int):OA :=
 qHL n3
def qLM (n:Nat) (s0:LU):OA :=
 qjW (qqT n) n s0 (0:Int) (0:Int)
def qqU (s2:List LU) (s3:Bool):OA:=some (.tup [(.dat (.sl (.sl .byte)) s2 none),(dg s3)])
def qam (out4:List LU):=(wrap .i64 ((out4.length:Int) - (1:Int)))
def qaI (out4:List LU):=((decide (0≤(qam out4)))&&(decide ((qam out4) < out4.length)))
def qcY (s0:LU) (out4:List LU) (i5:Int):=(set out4 (qam out4).toNat ((out4.getD (qam out4).toNat ([]:LU))++([(s0.getD i5.toNat (0:UInt8))]:LU)))
def qcZ (s0:LU) (out4:List LU) (i5:Int):=(decide (length (out4.getD (qam out4).toNat ([]:LU))+length ([(s0.getD i5.toNat (0:UInt8))]:LU)≤room))
def qcd (s0:LU) (i5:Int):=((decide (0≤i5))&&(decide (i5 < s0.length)))
def qda (out4:List LU):=(((qam out4).toNat==(qam out4).toNat)&&true)
def qhZ (k0:List LU→OA) (next:LU→List LU→Int→OA) (_n:Nat) (s0:LU) (out4:List LU) (i5:Int):OA :=
 bif (decide (i5 < (s0.length:Int))) then bif (qcd s0 i5) then bif ((s0.getD i5.toNat (0:UInt8))==(13:UInt8)) then bif (decide ((wrap .i64 (i5+1)) < (s0.length:Int))) then bif ((decide (0≤(wrap .i64 (i5+1))))&&(decide ((wrap .i64 (i5+1)) < s0.length))) then bif ((s0.getD (wrap .i64 (i5+1)).toNat (0:UInt8))==(10:UInt8)) then bif (decide (out4.length+length ([([]:LU)]:List LU)≤room)) then next s0 (out4++([([]:LU)]:List LU)) (wrap .i64 ((wrap .i64 (i5+1))+1)) else none else bif (qaI out4) then bif (qcd s0 i5) then bif (qcZ s0 out4 i5) then bif (qaI out4) then bif (qda out4) then next s0 (qcY s0 out4 i5) (wrap .i64 (i5+1)) else none else none else none else none else none else none else bif (qaI out4) then bif (qcd s0 i5) then bif (qcZ s0 out4 i5) then bif (qaI out4) then bif (qda out4) then next s0 (qcY s0 out4 i5) (wrap .i64 (i5+1)) else none else none else none else none else none else bif (qaI out4) then bif (qcd s0 i5) then bif (qcZ s0 out4 i5) then bif (qaI out4) then bif (qda out4) then next s0 (qcY s0 out4 i5) (wrap .i64 (i5+1)) else none else none else none else none else none else none else k0 out4
def qhq (k0:List LU→OA):Nat→LU→List LU→Int→OA
 | 0=>fun _ _ _=>none
 | n+1=>qhZ k0 (qhq k0 n) n
def qaJ (out4:List LU):=(wrap .i64 ((out4.length:Int) - (1:Int)))
def qia (_n:Nat) (out4:List LU):OA :=
 bif ((decide (0≤(qaJ out4)))&&(decide ((qaJ out4) < out4.length))) then bif (((out4.getD (qaJ out4).toNat ([]:LU)).length:Int)==(0:Int)) then bif (((decide (0≤((0:Nat):Int)))&&(decide (((0:Nat):Int)≤(qaJ out4))))&&(decide ((qaJ out4)≤(out4.length:Int)))) then qqU (drop ((0:Nat):Int).toNat (take (qaJ out4).toNat out4)) true else none else qqU out4 false else none
def qtm (n:Nat) (s0:LU):OA :=
 qhq (qia n) n s0 ([([]:LU)]:List LU) (0:Int)
def qIK (s2:List LU):OA:=some (.dat (.sl (.sl .byte)) s2 none)
def qRB (_n:Nat) (s0:LU):OA :=
 bif ((qkl s0)&&true) then
 qIK ((z102 s0).1)
 else none
def qgR (ret:Int→OA) (k0:LU→Int→Bool→OA) (next:LU→Int→Bool→Int→OA) (_n:Nat) (s0:LU) (most1:Int) (high5:Bool) (i6:Int):OA :=
 bif (decide (i6 < (s0.length:Int))) then
 bif ((decide (0≤i6))&&(decide (i6 < s0.length))) then
 bif ((s0.getD i6.toNat (0:UInt8))==(0:UInt8)) then
 ret (8:Int)
 else
 bif high5 then
 next s0 most1 true (wrap .i64 (i6+1))
 else
 bif ((decide (0≤i6))&&(decide (i6 < s0.length))) then
 next s0 most1 (decide ((127:UInt8) < (s0.getD i6.toNat (0:UInt8)))) (wrap .i64 (i6+1))
 else none
 else none
 else
 k0 s0 most1 high5
def qoj (ret:Int→OA) (k0:LU→Int→Bool→OA):Nat→LU→Int→Bool→Int→OA
 | 0=>fun _ _ _ _=>none
 | n+1=>qgR ret k0 (qoj ret k0 n) n
def qej (ret:Int→OA) (k2:OA) (next:Int→List LU→Int→OA) (_n:Nat) (most1:Int) (l7:List LU) (i8:Int):OA :=
 bif (decide (i8 < (l7.length:Int))) then
 bif ((decide (0≤i8))&&(decide (i8 < l7.length))) then
 bif (decide (most1 < ((l7.getD i8.toNat ([]:LU)).length:Int))) then
 ret (12:Int)
 else
 next most1 l7 (wrap .i64 (i8+1))
 else none
 else
 k2
def qhr (ret:Int→OA) (k2:OA):Nat→Int→List LU→Int→OA
 | 0=>fun _ _ _=>none
 | n+1=>qej ret k2 (qhr ret k2 n) n
def qme (_n:Nat):OA :=
 qHL (0:Int)
def qeY (n:Nat) (s0:LU) (most1:Int) (high5:Bool):OA :=
 bif ((qEV s0)&&true) then
 bif (decide ((0:Int) < (z75 s0))) then
 qHL (8:Int)
 else
 bif high5 then
 qHL (9:Int)
 else
 bif ((qCD s0)&&true) then
 qhr qHL (qme n) n most1 (z76 s0) (0:Int)
 else none
 else none
def qLN (n:Nat) (s0:LU) (most1:Int):OA :=
 qoj qHL (qeY n) n s0 most1 false (0:Int)
def qgS (ret:Bool→OA) (k0:OA) (next:LU→LU→Int→OA) (_n:Nat) (a0:LU) (b1:LU) (i5:Int):OA :=
 bif (decide (i5 < (a0.length:Int))) then
 bif ((decide (0≤i5))&&(decide (i5 < a0.length))) then
 bif ((decide (0≤i5))&&(decide (i5 < b1.length))) then
 bif ((a0.getD i5.toNat (0:UInt8)) != (b1.getD i5.toNat (0:UInt8))) then
 ret false
 else
 next a0 b1 (wrap .i64 (i5+1))
 else none
 else none
 else
 k0
def qok (ret:Bool→OA) (k0:OA):Nat→LU→LU→Int→OA
 | 0=>fun _ _ _=>none
 | n+1=>qgS ret k0 (qok ret k0 n) n
def qAJ (_n:Nat):OA :=
 qzM true
def qFF (n:Nat) (a0:LU) (b1:LU):OA :=
 bif ((a0.length:Int) != (b1.length:Int)) then
 qzM false
 else
 qok qzM (qAJ n) n a0 b1 (0:Int)
def qAK (s6:LU):OA:=some (db s6 (some (6,5)))
def qdH (c2:UInt8):=(wrap .i64 ((toNat c2:Nat):Int))
def qjx (sign1:UInt8) (c2:UInt8):=([sign1,(z189 (wrap .i64 (Int.tdiv (qdH c2) (16:Int)))),(z189 (tmod (qdH c2) (16:Int)))]:LU)
def qIL (_n:Nat) (b0:LU) (sign1:UInt8) (c2:UInt8):OA :=
 bif (decide (length ([]:LU)+b0.length≤room)) then bif ((qcm (wrap .i64 (Int.tdiv (qdH c2) (16:Int))))&&true) then bif ((qcm (tmod (qdH c2) (16:Int)))&&true) then bif (decide (length (([]:LU)++b0)+length (qjx sign1 c2)≤room)) then qAK ((([]:LU)++b0)++(qjx sign1 c2)) else none else none else none else none
def qbn (l0:LU) (i3:Int):=(drop i3.toNat (take (wrap .i64 (i3+(3:Int))).toNat l0))
def qbo (l0:LU) (i3:Int):=(z137 ([]:LU) (61:UInt8) ((z149 l0 i3 (61:UInt8)).1))
def qbp (l0:LU) (i3:Int):=((decide (0≤i3))&&(decide (i3 < l0.length)))
def qdb (l0:LU) (i3:Int):=(((decide (0≤i3))&&(decide (i3≤(wrap .i64 (i3+(3:Int))))))&&(decide ((wrap .i64 (i3+(3:Int)))≤(l0.length:Int))))
def qek (ret:Bool→OA) (k0:LU→OA) (next:LU→Int→OA) (_n:Nat) (l0:LU) (i3:Int):OA :=
 bif (decide (i3 < (l0.length:Int))) then bif (qbp l0 i3) then bif (!(z136 (l0.getD i3.toNat (0:UInt8)) (2:Int))) then bif (qbp l0 i3) then bif (!(z136 (l0.getD i3.toNat (0:UInt8)) (4:Int))) then ret false else bif (qbp l0 i3) then bif ((l0.getD i3.toNat (0:UInt8))==(61:UInt8)) then bif (decide (i3 < (wrap .i64 ((l0.length:Int) - (1:Int))))) then bif ((qiK l0 i3 (61:UInt8))&&true) then bif (!((z149 l0 i3 (61:UInt8)).2)) then ret false else bif (qdb l0 i3) then bif ((qna ([]:LU) (61:UInt8) ((z149 l0 i3 (61:UInt8)).1))&&true) then bif ((qwE (qbo l0 i3) (qbn l0 i3))&&true) then bif (!(z10 (qbo l0 i3) (qbn l0 i3))) then ret false else next l0 (wrap .i64 (i3+1)) else none else none else none else none else next l0 (wrap .i64 (i3+1)) else next l0 (wrap .i64 (i3+1)) else none else none else bif (qbp l0 i3) then bif ((l0.getD i3.toNat (0:UInt8))==(61:UInt8)) then bif (decide (i3 < (wrap .i64 ((l0.length:Int) - (1:Int))))) then bif ((qiK l0 i3 (61:UInt8))&&true) then bif (!((z149 l0 i3 (61:UInt8)).2)) then ret false else bif (qdb l0 i3) then bif ((qna ([]:LU) (61:UInt8) ((z149 l0 i3 (61:UInt8)).1))&&true) then bif ((qwE (qbo l0 i3) (qbn l0 i3))&&true) then bif (!(z10 (qbo l0 i3) (qbn l0 i3))) then ret false else next l0 (wrap .i64 (i3+1)) else none else none else none else none else next l0 (wrap .i64 (i3+1)) else next l0 (wrap .i64 (i3+1)) else none else none else k0 l0
def qkB (ret:Bool→OA) (k0:LU→OA):Nat→LU→Int→OA
 | 0=>fun _ _=>none
 | n+1=>qek ret k0 (qkB ret k0 n) n
def qfR (_n:Nat) (l0:LU):OA :=
 bif ((l0.length:Int)==(0:Int)) then
 qzM true
 else
 bif ((decide (0≤(wrap .i64 ((l0.length:Int) - (1:Int)))))&&(decide ((wrap .i64 ((l0.length:Int) - (1:Int))) < l0.length))) then
 qzM (!(z136 (l0.getD (wrap .i64 ((l0.length:Int) - (1:Int))).toNat (0:UInt8)) (2:Int)))
 else none
def qtn (n:Nat) (l0:LU):OA :=
 qkB qzM (qfR n) n l0 (0:Int)
def qgU (ret:Int→OA) (k0:OA) (next:List LU→Bool→Int→OA) (_n:Nat) (l3:List LU) (ends4:Bool) (i5:Int):OA :=
 bif (decide (i5 < (l3.length:Int))) then
 bif ((decide (0≤i5))&&(decide (i5 < l3.length))) then
 bif (decide ((76:Int) < ((l3.getD i5.toNat ([]:LU)).length:Int))) then
 ret (12:Int)
 else
 bif (i5==(wrap .i64 ((l3.length:Int) - (1:Int)))) then
 bif (!ends4) then
 ret (4:Int)
 else
 bif ((decide (0≤i5))&&(decide (i5 < l3.length))) then
 bif ((qnP (l3.getD i5.toNat ([]:LU)))&&true) then
 bif (!(z103 (l3.getD i5.toNat ([]:LU)))) then
 ret (3:Int)
 else
 next l3 ends4 (wrap .i64 (i5+1))
 else none
 else none
 else
 bif ((decide (0≤i5))&&(decide (i5 < l3.length))) then
 bif ((qnP (l3.getD i5.toNat ([]:LU)))&&true) then
 bif (!(z103 (l3.getD i5.toNat ([]:LU)))) then
 ret (3:Int)
 else
 next l3 ends4 (wrap .i64 (i5+1))
 else none
 else none
 else none
 else
 k0
def qva (ret:Int→OA) (k0:OA):Nat→List LU→Bool→Int→OA
 | 0=>fun _ _ _=>none
 | n+1=>qgU ret k0 (qva ret k0 n) n
def qqV (_n:Nat):OA :=
 qHL (0:Int)
def qFG (n:Nat) (s0:LU):OA :=
 bif ((qkl s0)&&true) then
 qva qHL (qqV n) n ((z102 s0).1) ((z102 s0).2) (0:Int)
 else none
def qel (k0:LU→Int→OA) (next:LU→Int→Int→OA) (_n:Nat) (s0:LU) (end4:Int) (k5:Int):OA :=
 bif (decide (k5 < (2:Int))) then
 bif (decide ((0:Int) < end4)) then
 bif ((decide (0≤(wrap .i64 (end4 - (1:Int)))))&&(decide ((wrap .i64 (end4 - (1:Int))) < s0.length))) then
 bif ((s0.getD (wrap .i64 (end4 - (1:Int))).toNat (0:UInt8))==(61:UInt8)) then
 next s0 (wrap .i64 (end4 - (1:Int))) (wrap .i64 (k5+1))
 else
 k0 s0 end4
 else none
 else
 k0 s0 end4
 else
 k0 s0 end4
def qfS (k0:LU→Int→OA):Nat→LU→Int→Int→OA
 | 0=>fun _ _ _=>none
 | n+1=>qel k0 (qfS k0 n) n
def qbq (s0:LU) (end4:Int):=(drop ((0:Nat):Int).toNat (take end4.toNat s0))
def qbH (_n:Nat) (s0:LU) (end4:Int):OA :=
 bif (((decide (0≤((0:Nat):Int)))&&(decide (((0:Nat):Int)≤end4)))&&(decide (end4≤(s0.length:Int)))) then bif ((qui (qbq s0 end4))&&true) then bif (!((z87 (qbq s0 end4)).2)) then qAa ([]:LU) (3:Int) else bif ((tmod (s0.length:Int) (4:Int)) != (0:Int)) then qAa ([]:LU) (4:Int) else bif ((quj ((z87 (qbq s0 end4)).1))&&true) then bif (!((z88 ((z87 (qbq s0 end4)).1)).2)) then qAa ([]:LU) (3:Int) else qAa ((z88 ((z87 (qbq s0 end4)).1)).1) (0:Int) else none else none else none
def qAL (n:Nat) (s0:LU):OA :=
 qfS (qbH n) n s0 (s0.length:Int) (0:Int)
def qaL (s0:LU) (i6:Int):=([(s0.getD i6.toNat (0:UInt8))]:LU)
def qbN (s0:LU) (i6:Int):=((decide (0≤i6))&&(decide (i6 < s0.length)))
def qgW (ret:LU→Int→OA) (k0:LU→Int→OA) (next:LU→LU→Int→Int→OA) (_n:Nat) (s0:LU) (code4:LU) (long5:Int) (i6:Int):OA :=
 bif (decide (i6 < (s0.length:Int))) then bif (qbN s0 i6) then bif ((s0.getD i6.toNat (0:UInt8))==(13:UInt8)) then bif (decide ((wrap .i64 (i6+1)) < (s0.length:Int))) then bif ((decide (0≤(wrap .i64 (i6+1))))&&(decide ((wrap .i64 (i6+1)) < s0.length))) then bif ((s0.getD (wrap .i64 (i6+1)).toNat (0:UInt8))==(10:UInt8)) then bif (long5==(0:Int)) then ret ([]:LU) (3:Int) else next s0 code4 (0:Int) (wrap .i64 ((wrap .i64 (i6+1))+1)) else bif (qbN s0 i6) then bif (decide (code4.length+length (qaL s0 i6)≤room)) then bif (decide ((76:Int) < (wrap .i64 (long5+1)))) then ret ([]:LU) (12:Int) else next s0 (code4++(qaL s0 i6)) (wrap .i64 (long5+1)) (wrap .i64 (i6+1)) else none else none else none else bif (qbN s0 i6) then bif (decide (code4.length+length (qaL s0 i6)≤room)) then bif (decide ((76:Int) < (wrap .i64 (long5+1)))) then ret ([]:LU) (12:Int) else next s0 (code4++(qaL s0 i6)) (wrap .i64 (long5+1)) (wrap .i64 (i6+1)) else none else none else bif (qbN s0 i6) then bif (decide (code4.length+length (qaL s0 i6)≤room)) then bif (decide ((76:Int) < (wrap .i64 (long5+1)))) then ret ([]:LU) (12:Int) else next s0 (code4++(qaL s0 i6)) (wrap .i64 (long5+1)) (wrap .i64 (i6+1)) else none else none else none else k0 code4 long5
def qjy (ret:LU→Int→OA) (k0:LU→Int→OA):Nat→LU→LU→Int→Int→OA
 | 0=>fun _ _ _ _=>none
 | n+1=>qgW ret k0 (qjy ret k0 n) n
def qjz (_n:Nat) (code4:LU) (long5:Int):OA :=
 bif (decide ((0:Int) < long5)) then
 qAa ([]:LU) (4:Int)
 else
 bif ((qrT code4)&&true) then
 bif (((z104 code4).2) != (0:Int)) then
 qAa ([]:LU) ((z104 code4).2)
 else
 qAa code4 (0:Int)
 else none
def qLO (n:Nat) (s0:LU):OA :=
 qjy qAa (qjz n) n s0 ([]:LU) (0:Int) (0:Int)
def qRC (_n:Nat) (coding0:Int) (s1:LU):OA :=
 bif (coding0==(1:Int)) then
 bif ((qzA s1 (76:Int))&&true) then
 qHL (z35 s1 (76:Int))
 else none
 else
 bif (coding0==(2:Int)) then
 bif ((qFj s1)&&true) then
 qHL (z47 s1)
 else none
 else
 bif (coding0==(3:Int)) then
 bif ((qET s1)&&true) then
 qHL ((z48 s1).2)
 else none
 else
 qHL (11:Int)
def qdI (names2:List LU):=(names2.getD (0:Int).toNat ([]:LU))
def qdJ (names2:List LU):=(names2.getD (1:Int).toNat ([]:LU))
def qmf:=((decide (0≤(0:Int)))&&(decide ((0:Int) < (2:Nat))))
def qmg:=((decide (0≤(1:Int)))&&(decide ((1:Int) < (2:Nat))))
def z6_sh (_n:Nat) (h0:Int×(Int×Unit)) (s1:LU) (names2:List LU):OA :=
 bif (decide ((600:Int) < (s1.length:Int))) then qzM z7 else bif (qmf) then bif (decide ((100:Int) < ((qdI names2).length:Int))) then qzM z7 else bif (qmg) then bif (decide ((100:Int) < ((qdJ names2).length:Int))) then qzM z7 else bif ((qqq h0.1 h0.2.1 s1)&&true) then bif ((qqr h0.1 h0.2.1 s1)&&true) then bif ((qul (z12 h0.1 h0.2.1 s1) (z20 h0.1 h0.2.1 s1))&&true) then bif (z11 (z12 h0.1 h0.2.1 s1) (z20 h0.1 h0.2.1 s1)) then bif (qmf) then bif (qmg) then bif (qmf) then bif (qmg) then bif ((quC (qdI names2) (qdJ names2) s1)&&true) then bif ((qzB (qdI names2) (qdJ names2) s1)&&true) then bif ((qul (z21 (qdI names2) (qdJ names2) s1) (z22 (qdI names2) (qdJ names2) s1))&&true) then bif (z11 (z21 (qdI names2) (qdJ names2) s1) (z22 (qdI names2) (qdJ names2) s1)) then bif ((qEZ h0.1 s1)&&true) then bif ((qFa h0.1 s1)&&true) then bif ((z19 h0.1 s1)==(z23 h0.1 s1)) then qzM z7 else qzM false else none else none else qzM false else none else none else none else none else none else none else none else qzM false else none else none else none else none else none
end
end
end Go.Av
