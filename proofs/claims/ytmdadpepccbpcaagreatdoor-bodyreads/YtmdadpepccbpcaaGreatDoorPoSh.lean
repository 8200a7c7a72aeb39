import Derived.Test.YtmdadpepccbpcaaGreatDoorPoA
import Derived.Test.YtmdadpepccbpcaaGreatDoorAvE
namespace Go.Av
set_option linter.unusedSimpArgs false
set_option linter.unusedVariables false
section
open List (length drop take set)
open Int (tmod)
open UInt8 (ofNat toNat)
open IntKind (wrap)
abbrev OA:=Option AV
set_option linter.unusedSimpArgs false
set_option linter.unusedVariables false
noncomputable section
def qHP (s4:Int):OA:=some (dc s4)
def qTF (_n:Nat) (b0:LU) (c1:UInt8):OA :=
 qHP (z141 b0 c1)
def qzQ (s2:Bool):OA:=some (dg s2)
def qRd (_n:Nat) (bufLen0:Int):OA :=
 qzQ (decide ((8:Int) < bufLen0))
def qja (as2:List Bool) (ok3:Bool):OA:=some (.tup [(.dat (.arr 256 .bool) as2 none),(dg ok3)])
def qdU (ret:List Bool→Bool→OA) (k0:List Bool→OA) (next:LU→List Bool→Int→OA) (_n:Nat) (chars0:LU) (as2:List Bool) (i4:Int):OA :=
 bif (decide (i4 < (chars0.length:Int))) then
 bif ((decide (0≤i4))&&(decide (i4 < chars0.length))) then
 bif (decide ((128:UInt8)≤(chars0.getD i4.toNat (0:UInt8)))) then
 ret as2 false
 else
 bif ((decide (0≤((toNat (chars0.getD i4.toNat (0:UInt8)):Nat):Int)))&&(decide (((toNat (chars0.getD i4.toNat (0:UInt8)):Nat):Int) < (256:Nat)))) then
 next chars0 (set as2 ((toNat (chars0.getD i4.toNat (0:UInt8)):Nat):Int).toNat true) (wrap .i64 (i4+1))
 else none
 else none
 else
 k0 as2
def qhj (ret:List Bool→Bool→OA) (k0:List Bool→OA):Nat→LU→List Bool→Int→OA
 | 0=>fun _ _ _=>none
 | n+1=>qdU ret k0 (qhj ret k0 n) n
def qlD (_n:Nat) (as2:List Bool):OA :=
 qja as2 true
def qzR (n:Nat) (chars0:LU):OA :=
 qhj qja (qlD n) n chars0 (List.replicate 256 false) (0:Int)
def qHQ (_n:Nat) (as0:List Bool) (c1:UInt8):OA :=
 bif ((decide (0≤((toNat c1:Nat):Int)))&&(decide (((toNat c1:Nat):Int) < (256:Nat)))) then
 qzQ (as0.getD ((toNat c1:Nat):Int).toNat false)
 else none
def qdV (m0:Int) (ret:Int→OA) (k0:OA) (next:LU→Nat→OA) (_n:Nat) (s28:LU) (s28p:Nat):OA :=
 bif (decide (s28p < s28.length)) then
 bif (decide (s28p < s28.length)) then
 bif ((decL s28 s28p).1==(65533:Int)) then
 ret (0:Int)
 else
 next s28 (bif (decide (s28p < s28.length)) then s28p+(decL s28 s28p).2 else s28p)
 else none
 else
 k0
def qhk (m0:Int) (ret:Int→OA) (k0:OA):Nat→LU→Nat→OA
 | 0=>fun _ _=>none
 | n+1=>(qdV m0) ret k0 ((qhk m0) ret k0 n) n
def qsH (m0:Int) (_n:Nat):OA :=
 qHP (-1:Int)
def qcD (m0:Int) (ret:Int→OA) (k2:OA) (next:List Bool→LU→Int→Int→OA) (_n:Nat) (as7:List Bool) (s60:LU) (s61:Int) (s62:Int):OA :=
 bif (decide (s62 < s61)) then
 bif ((decide (0≤s62))&&(decide (s62 < s60.length))) then
 bif (z168 as7 (s60.getD s62.toNat (0:UInt8))) then
 ret s62
 else
 next as7 s60 s61 (wrap .i64 (s62+1))
 else none
 else
 k2
def qdx (m0:Int) (ret:Int→OA) (k2:OA):Nat→List Bool→LU→Int→Int→OA
 | 0=>fun _ _ _ _=>none
 | n+1=>(qcD m0) ret k2 ((qdx m0) ret k2 n) n
def qjb (m0:Int) (_n:Nat):OA :=
 qHP (-1:Int)
def qcE (m0:Int) (ret:Int→OA) (k6:LU→LU→Int→Int→OA) (next:LU→LU→Int→Int→Int→LU→Nat→OA) (_n:Nat) (s0:LU) (chars1:LU) (width11:Int) (i12:Int) (r13:Int) (s121:LU) (s121p:Nat):OA :=
 bif (decide (s121p < s121.length)) then
 bif (decide (s121p < s121.length)) then
 bif (r13==(decL s121 s121p).1) then
 ret i12
 else
 next s0 chars1 width11 i12 r13 s121 (bif (decide (s121p < s121.length)) then s121p+(decL s121 s121p).2 else s121p)
 else none
 else
 k6 s0 chars1 width11 i12
def qcu (m0:Int) (ret:Int→OA) (k6:LU→LU→Int→Int→OA):Nat→LU→LU→Int→Int→Int→LU→Nat→OA
 | 0=>fun _ _ _ _ _ _ _=>none
 | n+1=>(qcE m0) ret k6 ((qcu m0) ret k6 n) n
def qfD (m0:Int) (_ret:Int→OA) (_k4:OA) (next:LU→LU→Int→OA) (_n:Nat) (s0:LU) (chars1:LU) (width11:Int) (i12:Int):OA :=
 next s0 chars1 (wrap .i64 (i12+width11))
def qB (s0:LU) (i12:Int):=(z169 (drop i12.toNat (take (s0.length:Int).toNat s0)))
def qdy (m0:Int) (ret:Int→OA) (k4:OA) (next:LU→LU→Int→OA) (n:Nat) (s0:LU) (chars1:LU) (i12:Int):OA :=
 bif (decide (i12 < (s0.length:Int))) then bif ((decide (0≤i12))&&(decide (i12 < s0.length))) then bif (decide ((wrap .i32 ((toNat (s0.getD i12.toNat (0:UInt8)):Nat):Int)) < (128:Int))) then bif ((decide (0≤i12))&&(decide (i12 < s0.length))) then bif (decide (0≤(z164 chars1 (s0.getD i12.toNat (0:UInt8))))) then ret i12 else next s0 chars1 (wrap .i64 (i12+1)) else none else bif (((decide (0≤i12))&&(decide (i12≤(s0.length:Int))))&&(decide ((s0.length:Int)≤(s0.length:Int)))) then bif ((qng (drop i12.toNat (take (s0.length:Int).toNat s0)))&&true) then bif (((qB s0 i12).1) != (65533:Int)) then bif ((chars1.length:Int)==((qB s0 i12).2)) then bif (chars1==(Utf8.encode ((qB s0 i12).1)).data.toList) then ret i12 else next s0 chars1 (wrap .i64 (i12+((qB s0 i12).2))) else bif (decide (((qB s0 i12).2)≤m0)) then bif ((qnf m0 chars1 (Utf8.encode ((qB s0 i12).1)).data.toList)&&true) then bif (decide (0≤(z170 chars1 (Utf8.encode ((qB s0 i12).1)).data.toList))) then ret i12 else next s0 chars1 (wrap .i64 (i12+((qB s0 i12).2))) else none else (qcu m0) ret ((qfD m0) ret k4 next n) n s0 chars1 ((qB s0 i12).2) i12 ((qB s0 i12).1) chars1 0 else (qcu m0) ret ((qfD m0) ret k4 next n) n s0 chars1 ((qB s0 i12).2) i12 ((qB s0 i12).1) chars1 0 else none else none else none else k4
def qcv (m0:Int) (ret:Int→OA) (k4:OA):Nat→LU→LU→Int→OA
 | 0=>fun _ _ _=>none
 | n+1=>(qdy m0) ret k4 ((qcv m0) ret k4 n) n
def qfE (m0:Int) (_n:Nat):OA :=
 qHP (-1:Int)
def qdz (chars1:LU):=(wrap .i32 ((toNat (chars1.getD (0:Int).toNat (0:UInt8)):Nat):Int))
def qsI (m0:Int) (n:Nat) (s0:LU) (chars1:LU):OA :=
 bif (chars1==([]:LU)) then qHP (-1:Int) else bif ((s0.length:Int)==(1:Int)) then bif ((decide (0≤(0:Int)))&&(decide ((0:Int) < s0.length))) then bif (decide ((128:Int)≤(wrap .i32 ((toNat (s0.getD (0:Int).toNat (0:UInt8)):Nat):Int)))) then (qhk m0) qHP ((qsH m0) n) n chars1 0 else bif ((decide (0≤(0:Int)))&&(decide ((0:Int) < s0.length))) then bif (decide (0≤(z164 chars1 (s0.getD (0:Int).toNat (0:UInt8))))) then qHP (0:Int) else qHP (-1:Int) else none else none else bif ((chars1.length:Int)==(1:Int)) then bif ((decide (0≤(0:Int)))&&(decide ((0:Int) < chars1.length))) then bif (decide ((128:Int)≤(qdz chars1))) then bif ((qwH s0 (65533:Int))&&true) then qHP (z165 s0 (65533:Int)) else none else bif ((qwH s0 (qdz chars1))&&true) then qHP (z165 s0 (qdz chars1)) else none else none else bif (z166 (s0.length:Int)) then bif ((qco chars1)&&true) then bif ((z167 chars1).2) then (qdx m0) qHP ((qjb m0) n) n ((z167 chars1).1) s0 (s0.length:Int) (0:Int) else (qcv m0) qHP ((qfE m0) n) n s0 chars1 (0:Int) else none else (qcv m0) qHP ((qfE m0) n) n s0 chars1 (0:Int)
def qRe (_n:Nat) (a0:LU) (b1:LU):OA :=
 qzQ (a0==b1)
def qHR (_n:Nat) (s0:LU) (prefix1:LU):OA :=
 bif (decide ((prefix1.length:Int)≤(s0.length:Int))) then
 bif (((decide (0≤((0:Nat):Int)))&&(decide (((0:Nat):Int)≤(prefix1.length:Int))))&&(decide ((prefix1.length:Int)≤(s0.length:Int)))) then
 qzQ (z194 (drop ((0:Nat):Int).toNat (take (prefix1.length:Int).toNat s0)) prefix1)
 else none
 else
 qzQ false
def qHS (_n:Nat) (s0:LU):OA :=
 bif (z171 s0 ([(13:UInt8),(10:UInt8)]:LU)) then
 qHP (2:Int)
 else
 bif (decide ((0:Int) < (s0.length:Int))) then
 qHP (1:Int)
 else
 qHP (0:Int)
def qjd (V:Sigma Inv) (xv:Den V.1) (s36:LU):OA:=some (.tup [(.tup []),(.abs V.1 V.2 xv),(.pbox (.leaf (.sl .byte)) s36 none)])
def qaD (s36:LU):=(wrap .i64 ((z109 s36 ([13,10]:LU))+(z110 (drop (z109 s36 ([13,10]:LU)).toNat (take (s36.length:Int).toNat s36)))))
def qaE (s36:LU):=(wrap .i64 ((s36.length:Int)+(z110 (drop (s36.length:Int).toNat (take (s36.length:Int).toNat s36)))))
def qU (s36:LU):=(z109 s36 ([13,10]:LU))
def qaF (s36:LU):=(decide ((s36.length:Int)≤(s36.length:Int)))
def qbU (s36:LU):=(drop (s36.length:Int).toNat (take (qaE s36).toNat s36))
def qbV (s36:LU):=(drop (qU s36).toNat (take (qaD s36).toNat s36))
def qbW (s36:LU):=(drop ((0:Nat):Int).toNat (take (s36.length:Int).toNat s36))
def qbX (s36:LU):=(drop ((0:Nat):Int).toNat (take (qU s36).toNat s36))
def qhR (V:Sigma Inv) (ret:Den V.1→LU→OA) (k0:Den V.1→LU→OA) (next:Den V.1→LU→OA) (_n:Nat) (xv:Den V.1) (s36:LU):OA :=
 bif (decide ((0:Int) < (s36.length:Int))) then bif ((qeu s36 ([13,10]:LU))&&true) then bif (decide ((qU s36) < (0:Int))) then bif (((decide (0≤(s36.length:Int)))&&(qaF s36))&&(qaF s36)) then bif (((decide (0≤((0:Nat):Int)))&&(decide (((0:Nat):Int)≤(s36.length:Int))))&&(qaF s36)) then bif (((decide (0≤(s36.length:Int)))&&(decide ((s36.length:Int)≤(qaE s36))))&&(decide ((qaE s36)≤(s36.length:Int)))) then bif (V.2.spec xv [⟨(.sl .byte),(qbW s36)⟩,⟨(.sl .byte),(qbU s36)⟩]).1 then bif (!(V.2.spec xv [⟨(.sl .byte),(qbW s36)⟩,⟨(.sl .byte),(qbU s36)⟩]).2.1) then ret (V.2.spec xv [⟨(.sl .byte),(qbW s36)⟩,⟨(.sl .byte),(qbU s36)⟩]).2.2 s36 else bif (((decide (0≤(qaE s36)))&&(decide ((qaE s36)≤(s36.length:Int))))&&(qaF s36)) then next (V.2.spec xv [⟨(.sl .byte),(qbW s36)⟩,⟨(.sl .byte),(qbU s36)⟩]).2.2 (drop (qaE s36).toNat (take (s36.length:Int).toNat s36)) else none else none else none else none else none else bif (((decide (0≤(qU s36)))&&(decide ((qU s36)≤(s36.length:Int))))&&(qaF s36)) then bif (((decide (0≤((0:Nat):Int)))&&(decide (((0:Nat):Int)≤(qU s36))))&&(decide ((qU s36)≤(s36.length:Int)))) then bif (((decide (0≤(qU s36)))&&(decide ((qU s36)≤(qaD s36))))&&(decide ((qaD s36)≤(s36.length:Int)))) then bif (V.2.spec xv [⟨(.sl .byte),(qbX s36)⟩,⟨(.sl .byte),(qbV s36)⟩]).1 then bif (!(V.2.spec xv [⟨(.sl .byte),(qbX s36)⟩,⟨(.sl .byte),(qbV s36)⟩]).2.1) then ret (V.2.spec xv [⟨(.sl .byte),(qbX s36)⟩,⟨(.sl .byte),(qbV s36)⟩]).2.2 s36 else bif (((decide (0≤(qaD s36)))&&(decide ((qaD s36)≤(s36.length:Int))))&&(qaF s36)) then next (V.2.spec xv [⟨(.sl .byte),(qbX s36)⟩,⟨(.sl .byte),(qbV s36)⟩]).2.2 (drop (qaD s36).toNat (take (s36.length:Int).toNat s36)) else none else none else none else none else none else none else k0 xv s36
def qhl (V:Sigma Inv) (ret:Den V.1→LU→OA) (k0:Den V.1→LU→OA):Nat→Den V.1→LU→OA
 | 0=>fun _ _=>none
 | n+1=>(qhR V) ret k0 ((qhl V) ret k0 n) n
def qsJ (V:Sigma Inv) (_n:Nat) (xv:Den V.1) (s36:LU):OA :=
 (qjd V) xv s36
def qzU (V:Sigma Inv) (n:Nat) (x0:Den V.1) (x1:LU):OA :=
 (qhl V) (qjd V) ((qsJ V) n) n x0 x1
def qTG (_n:Nat) (s0:LU):OA :=
 some (.abs (qds [.leaf (.sl .byte)]) (clInv 108 [.leaf (.sl .byte)]) (s0,()))
def qzV (s4:LU):OA:=some (da s4)
def qbb (s0:LU):=(wrap .i64 ((s0.length:Int) - (1:Int)))
def qsK (k0:LU→OA) (next:LU→UInt8→OA) (_n:Nat) (s0:LU) (c1:UInt8):OA :=
 bif (decide ((0:Int) < (s0.length:Int))) then bif ((decide (0≤(qbb s0)))&&(decide ((qbb s0) < s0.length))) then bif ((s0.getD (qbb s0).toNat (0:UInt8))==c1) then bif (((decide (0≤((0:Nat):Int)))&&(decide (((0:Nat):Int)≤(qbb s0))))&&(decide ((qbb s0)≤(s0.length:Int)))) then next (drop ((0:Nat):Int).toNat (take (qbb s0).toNat s0)) c1 else none else k0 s0 else none else k0 s0
def qnS (k0:LU→OA):Nat→LU→UInt8→OA
 | 0=>fun _ _=>none
 | n+1=>qsK k0 (qnS k0 n) n
def qsL (_n:Nat) (s0:LU):OA :=
 qzV s0
def qzW (n:Nat) (s0:LU) (c1:UInt8):OA :=
 qnS (qsL n) n s0 c1
def qaG (s0:LU):=(wrap .i64 ((s0.length:Int) - (1:Int)))
def qhS (k0:LU→OA) (next:LU→List Bool→OA) (_n:Nat) (s0:LU) (as1:List Bool):OA :=
 bif (decide ((0:Int) < (s0.length:Int))) then bif ((decide (0≤(qaG s0)))&&(decide ((qaG s0) < s0.length))) then bif (!(z168 as1 (s0.getD (qaG s0).toNat (0:UInt8)))) then k0 s0 else bif (((decide (0≤((0:Nat):Int)))&&(decide (((0:Nat):Int)≤(qaG s0))))&&(decide ((qaG s0)≤(s0.length:Int)))) then next (drop ((0:Nat):Int).toNat (take (qaG s0).toNat s0)) as1 else none else none else k0 s0
def qje (k0:LU→OA):Nat→LU→List Bool→OA
 | 0=>fun _ _=>none
 | n+1=>qhS k0 (qje k0 n) n
def qsM (_n:Nat) (s0:LU):OA :=
 qzV s0
def qsN (n:Nat) (s0:LU) (as1:List Bool):OA :=
 qje (qsM n) n s0 as1
def qzY (_n:Nat) (s0:LU) (cutset1:LU):OA :=
 bif ((s0.length:Int)==(0:Int)) then
 qzV s0
 else
 bif (cutset1==([]:LU)) then
 qzV s0
 else
 bif ((cutset1.length:Int)==(1:Int)) then
 bif ((decide (0≤(0:Int)))&&(decide ((0:Int) < cutset1.length))) then
 bif (decide ((cutset1.getD (0:Int).toNat (0:UInt8)) < (128:UInt8))) then
 bif ((decide (0≤(0:Int)))&&(decide ((0:Int) < cutset1.length))) then
 bif ((qsa s0 (cutset1.getD (0:Int).toNat (0:UInt8)))&&true) then
 qzV (z206 s0 (cutset1.getD (0:Int).toNat (0:UInt8)))
 else none
 else none
 else
 bif ((qco cutset1)&&true) then
 bif ((z167 cutset1).2) then
 bif ((qhg s0 ((z167 cutset1).1))&&true) then
 qzV (z208 s0 ((z167 cutset1).1))
 else none
 else
 bif ((qni s0 cutset1)&&true) then
 qzV (z210 s0 cutset1)
 else none
 else none
 else none
 else
 bif ((qco cutset1)&&true) then
 bif ((z167 cutset1).2) then
 bif ((qhg s0 ((z167 cutset1).1))&&true) then
 qzV (z208 s0 ((z167 cutset1).1))
 else none
 else
 bif ((qni s0 cutset1)&&true) then
 qzV (z210 s0 cutset1)
 else none
 else none
def qHT (_n:Nat) (s0:LU) (suffix1:LU):OA :=
 bif (decide ((suffix1.length:Int)≤(s0.length:Int))) then
 bif (((decide (0≤(wrap .i64 ((s0.length:Int) - (suffix1.length:Int)))))&&(decide ((wrap .i64 ((s0.length:Int) - (suffix1.length:Int)))≤(s0.length:Int))))&&(decide ((s0.length:Int)≤(s0.length:Int)))) then
 qzQ (z194 (drop (wrap .i64 ((s0.length:Int) - (suffix1.length:Int))).toNat (take (s0.length:Int).toNat s0)) suffix1)
 else none
 else
 qzQ false
def qqA (before4:LU) (found5:Bool):OA:=some (.tup [(da before4),(dg found5)])
def qHU (_n:Nat) (s0:LU) (suffix1:LU):OA :=
 bif ((qkk s0 suffix1)&&true) then
 bif (!(z215 s0 suffix1)) then
 qqA s0 false
 else
 bif (((decide (0≤((0:Nat):Int)))&&(decide (((0:Nat):Int)≤(wrap .i64 ((s0.length:Int) - (suffix1.length:Int))))))&&(decide ((wrap .i64 ((s0.length:Int) - (suffix1.length:Int)))≤(s0.length:Int)))) then
 qqA (drop ((0:Nat):Int).toNat (take (wrap .i64 ((s0.length:Int) - (suffix1.length:Int))).toNat s0)) true
 else none
 else none
def qHV (_n:Nat) (l0:LU):OA :=
 bif ((qkq l0 ([32,9]:LU))&&true) then
 bif ((qsb (z172 l0 ([32,9]:LU)) ([(61:UInt8)]:LU))&&true) then
 qqA ((z173 (z172 l0 ([32,9]:LU)) ([(61:UInt8)]:LU)).1) ((z173 (z172 l0 ([32,9]:LU)) ([(61:UInt8)]:LU)).2)
 else none
 else none
def qZ:=(bits .or .i64 (bits .or .i64 (0:Int) (1:Int)) (656:Int))
def qdA:=(bits .or .i64 (bits .or .i64 (0:Int) (1:Int)) (2:Int))
def qHW (_n:Nat) (c0:UInt8):OA :=
 bif (decide (c0 < (32:UInt8))) then bif (c0==(32:UInt8)) then qHP (qdA) else bif (c0==(9:UInt8)) then qHP (qdA) else bif (decide ((48:UInt8)≤c0)) then bif (decide (c0≤(57:UInt8))) then qHP (bits .or .i64 (bits .or .i64 (0:Int) (1:Int)) (648:Int)) else bif (decide ((65:UInt8)≤c0)) then bif (decide (c0≤(90:UInt8))) then bif (decide (c0≤(90:UInt8))) then qHP (qZ) else qHP (bits .or .i64 (0:Int) (1:Int)) else bif (decide ((97:UInt8)≤c0)) then bif (decide (c0≤(122:UInt8))) then qHP (qZ) else qHP (bits .or .i64 (0:Int) (1:Int)) else qHP (bits .or .i64 (0:Int) (1:Int)) else bif (decide ((97:UInt8)≤c0)) then bif (decide (c0≤(122:UInt8))) then qHP (qZ) else qHP (bits .or .i64 (0:Int) (1:Int)) else qHP (bits .or .i64 (0:Int) (1:Int)) else bif (decide ((65:UInt8)≤c0)) then bif (decide (c0≤(90:UInt8))) then bif (decide (c0≤(90:UInt8))) then qHP (qZ) else qHP (bits .or .i64 (0:Int) (1:Int)) else bif (decide ((97:UInt8)≤c0)) then bif (decide (c0≤(122:UInt8))) then qHP (qZ) else qHP (bits .or .i64 (0:Int) (1:Int)) else qHP (bits .or .i64 (0:Int) (1:Int)) else bif (decide ((97:UInt8)≤c0)) then bif (decide (c0≤(122:UInt8))) then qHP (qZ) else qHP (bits .or .i64 (0:Int) (1:Int)) else qHP (bits .or .i64 (0:Int) (1:Int)) else bif (c0==(127:UInt8)) then bif (c0==(32:UInt8)) then qHP (qdA) else bif (c0==(9:UInt8)) then qHP (qdA) else bif (decide ((48:UInt8)≤c0)) then bif (decide (c0≤(57:UInt8))) then qHP (bits .or .i64 (bits .or .i64 (0:Int) (1:Int)) (648:Int)) else bif (decide ((65:UInt8)≤c0)) then bif (decide (c0≤(90:UInt8))) then bif (decide (c0≤(90:UInt8))) then qHP (qZ) else qHP (bits .or .i64 (0:Int) (1:Int)) else bif (decide ((97:UInt8)≤c0)) then bif (decide (c0≤(122:UInt8))) then qHP (qZ) else qHP (bits .or .i64 (0:Int) (1:Int)) else qHP (bits .or .i64 (0:Int) (1:Int)) else bif (decide ((97:UInt8)≤c0)) then bif (decide (c0≤(122:UInt8))) then qHP (qZ) else qHP (bits .or .i64 (0:Int) (1:Int)) else qHP (bits .or .i64 (0:Int) (1:Int)) else bif (decide ((65:UInt8)≤c0)) then bif (decide (c0≤(90:UInt8))) then bif (decide (c0≤(90:UInt8))) then qHP (qZ) else qHP (bits .or .i64 (0:Int) (1:Int)) else bif (decide ((97:UInt8)≤c0)) then bif (decide (c0≤(122:UInt8))) then qHP (qZ) else qHP (bits .or .i64 (0:Int) (1:Int)) else qHP (bits .or .i64 (0:Int) (1:Int)) else bif (decide ((97:UInt8)≤c0)) then bif (decide (c0≤(122:UInt8))) then qHP (qZ) else qHP (bits .or .i64 (0:Int) (1:Int)) else qHP (bits .or .i64 (0:Int) (1:Int)) else bif (c0==(32:UInt8)) then qHP (bits .or .i64 (0:Int) (2:Int)) else bif (c0==(9:UInt8)) then qHP (bits .or .i64 (0:Int) (2:Int)) else bif (decide ((48:UInt8)≤c0)) then bif (decide (c0≤(57:UInt8))) then qHP (bits .or .i64 (0:Int) (648:Int)) else bif (decide ((65:UInt8)≤c0)) then bif (decide (c0≤(90:UInt8))) then bif (decide (c0≤(90:UInt8))) then qHP (bits .or .i64 (0:Int) (656:Int)) else qHP (0:Int) else bif (decide ((97:UInt8)≤c0)) then bif (decide (c0≤(122:UInt8))) then qHP (bits .or .i64 (0:Int) (656:Int)) else qHP (0:Int) else qHP (0:Int) else bif (decide ((97:UInt8)≤c0)) then bif (decide (c0≤(122:UInt8))) then qHP (bits .or .i64 (0:Int) (656:Int)) else qHP (0:Int) else qHP (0:Int) else bif (decide ((65:UInt8)≤c0)) then bif (decide (c0≤(90:UInt8))) then bif (decide (c0≤(90:UInt8))) then qHP (bits .or .i64 (0:Int) (656:Int)) else qHP (0:Int) else bif (decide ((97:UInt8)≤c0)) then bif (decide (c0≤(122:UInt8))) then qHP (bits .or .i64 (0:Int) (656:Int)) else qHP (0:Int) else qHP (0:Int) else bif (decide ((97:UInt8)≤c0)) then bif (decide (c0≤(122:UInt8))) then qHP (bits .or .i64 (0:Int) (656:Int)) else qHP (0:Int) else qHP (0:Int)
def qRf (_n:Nat) (s0:LU) (c1:UInt8):OA :=
 qHP (z164 s0 c1)
def qRg (_n:Nat) (s0:LU) (c1:UInt8):OA :=
 qHP (z236 s0 c1)
def qRh (_n:Nat) (s0:LU) (c1:UInt8):OA :=
 qzQ (decide (0≤(z216 s0 c1)))
def qbx (c0:UInt8):=(bits .or .i64 (z228 c0) (4:Int))
def qdB (c0:UInt8):=(z229 ([40,41,60,62,64,44,59,58,92,34,47,91,93,63,61]:LU) c0)
def qbY (c0:UInt8):=(bits .or .i64 (qbx c0) (128:Int))
def qHX (_n:Nat) (c0:UInt8):OA :=
 bif (decide (c0 < (33:UInt8))) then qHP (z228 c0) else bif (decide ((126:UInt8) < c0)) then qHP (z228 c0) else bif (z229 ([33,42,43,45,47]:LU) c0) then bif (z229 ([43,47]:LU) c0) then bif (qdB c0) then qHP (bits .or .i64 (bits .or .i64 (qbY c0) (512:Int)) (32:Int)) else bif (!(z229 ([42,39,37]:LU) c0)) then qHP (bits .or .i64 (bits .or .i64 (bits .or .i64 (qbY c0) (512:Int)) (64:Int)) (256:Int)) else qHP (bits .or .i64 (bits .or .i64 (qbY c0) (512:Int)) (64:Int)) else bif (qdB c0) then qHP (bits .or .i64 (qbY c0) (32:Int)) else bif (!(z229 ([42,39,37]:LU) c0)) then qHP (bits .or .i64 (bits .or .i64 (qbY c0) (64:Int)) (256:Int)) else qHP (bits .or .i64 (qbY c0) (64:Int)) else bif (z229 ([43,47]:LU) c0) then bif (qdB c0) then qHP (bits .or .i64 (bits .or .i64 (qbx c0) (512:Int)) (32:Int)) else bif (!(z229 ([42,39,37]:LU) c0)) then qHP (bits .or .i64 (bits .or .i64 (bits .or .i64 (qbx c0) (512:Int)) (64:Int)) (256:Int)) else qHP (bits .or .i64 (bits .or .i64 (qbx c0) (512:Int)) (64:Int)) else bif (qdB c0) then qHP (bits .or .i64 (qbx c0) (32:Int)) else bif (!(z229 ([42,39,37]:LU) c0)) then qHP (bits .or .i64 (bits .or .i64 (qbx c0) (64:Int)) (256:Int)) else qHP (bits .or .i64 (qbx c0) (64:Int))
def qRi (_n:Nat) (c0:UInt8) (kinds1:Int):OA :=
 qzQ ((bits .and .i64 (z198 c0) kinds1) != (0:Int))
def qlE (s2:UInt8):OA:=some (dm s2)
def qHY (_n:Nat) (c0:UInt8):OA :=
 bif (decide ((65:UInt8)≤c0)) then
 bif (decide (c0≤(90:UInt8))) then
 qlE (c0 ||| (32:UInt8))
 else
 qlE c0
 else
 qlE c0
def qjf (s2:Int) (s3:Bool):OA:=some (.tup [(dc s2),(dg s3)])
def qHZ (_n:Nat) (c0:UInt8):OA :=
 bif (z144 (z154 c0) (8:Int)) then
 qjf (wrap .i64 ((toNat ((z154 c0) - (48:UInt8)):Nat):Int)) true
 else
 bif (decide ((97:UInt8)≤(z154 c0))) then
 bif (decide ((z154 c0)≤(102:UInt8))) then
 qjf (wrap .i64 ((wrap .i64 ((toNat ((z154 c0) - (97:UInt8)):Nat):Int))+(10:Int))) true
 else
 qjf (0:Int) false
 else
 qjf (0:Int) false
def qlF (s4:UInt8) (s5:Bool):OA:=some (.tup [(dm s4),(dg s5)])
def qIa (_n:Nat) (a0:UInt8) (b1:UInt8):OA :=
 bif (!((z230 a0).2)) then
 qlF (0:UInt8) false
 else
 bif (!((z230 b1).2)) then
 qlF (0:UInt8) false
 else
 qlF (ofNat (wrap .u8 (bits .or .i64 (wrap .i64 (((z230 a0).1)*2 ^ (min (4:Int).toNat (IntKind.bits .i64)))) ((z230 b1).1))).toNat) true
def qjh (s0:LU) (at1:Int):=(z199 (s0.getD (wrap .i64 (at1+1)).toNat (0:UInt8)) (s0.getD (wrap .i64 (at1+(2:Int))).toNat (0:UInt8)))
def qIb (_n:Nat) (s0:LU) (at1:Int) (sign2:UInt8):OA :=
 bif (decide (at1 < (0:Int))) then qlF (0:UInt8) false else bif (decide ((wrap .i64 ((s0.length:Int) - (3:Int))) < at1)) then qlF (0:UInt8) false else bif ((decide (0≤at1))&&(decide (at1 < s0.length))) then bif ((s0.getD at1.toNat (0:UInt8)) != sign2) then qlF (0:UInt8) false else bif ((decide (0≤(wrap .i64 (at1+1))))&&(decide ((wrap .i64 (at1+1)) < s0.length))) then bif ((decide (0≤(wrap .i64 (at1+(2:Int)))))&&(decide ((wrap .i64 (at1+(2:Int))) < s0.length))) then qlF ((qjh s0 at1).1) ((qjh s0 at1).2) else none else none else none
def qAe (s2:LU) (s3:Int):OA:=some (.tup [(da s2),(dc s3)])
def qbc (l0:LU) (at6:Int):=([(l0.getD at6.toNat (0:UInt8))]:LU)
def qdW (k0:LU→Int→OA) (next:LU→LU→Int→Int→OA) (_n:Nat) (l0:LU) (out4:LU) (strange5:Int) (at6:Int):OA :=
 bif (decide (at6 < (l0.length:Int))) then bif ((qki l0 at6 (61:UInt8))&&true) then bif ((z145 l0 at6 (61:UInt8)).2) then bif (decide (out4.length+length ([((z145 l0 at6 (61:UInt8)).1)]:LU)≤room)) then next l0 (out4++([((z145 l0 at6 (61:UInt8)).1)]:LU)) strange5 (wrap .i64 (at6+(3:Int))) else none else bif ((decide (0≤at6))&&(decide (at6 < l0.length))) then bif ((l0.getD at6.toNat (0:UInt8))==(61:UInt8)) then bif ((decide (0≤at6))&&(decide (at6 < l0.length))) then bif (decide (out4.length+length (qbc l0 at6)≤room)) then next l0 (out4++(qbc l0 at6)) (wrap .i64 (strange5+1)) (wrap .i64 (at6+1)) else none else none else bif ((decide (0≤at6))&&(decide (at6 < l0.length))) then bif (decide (out4.length+length (qbc l0 at6)≤room)) then next l0 (out4++(qbc l0 at6)) strange5 (wrap .i64 (at6+1)) else none else none else none else none else k0 out4 strange5
def qkr (k0:LU→Int→OA):Nat→LU→LU→Int→Int→OA
 | 0=>fun _ _ _ _=>none
 | n+1=>qdW k0 (qkr k0 n) n
def qlG (_n:Nat) (out4:LU) (strange5:Int):OA :=
 qAe out4 strange5
def qsO (n:Nat) (l0:LU):OA :=
 qkr (qlG n) n l0 ([]:LU) (0:Int) (0:Int)
def qRj (_n:Nat) (l0:LU):OA :=
 bif ((qsF l0)&&true) then
 bif ((qsG ((z111 l0).1))&&true) then
 qqA ((z112 ((z111 l0).1)).1) ((z111 l0).2)
 else none
 else none
def qqB (n:Nat) (x:Bool×LU×Unit) (y0:LU) (y1:LU):Bool×Bool×(Bool×LU×Unit) :=
 bif x.1 then (false,false,x) else yfin (.pair (.sl .byte) .unit) x (
 bif ((qFo y0)&&true) then
 bif (decide (length x.2.1+length ((z53 y0).1)≤room)) then
 bif (!((z53 y0).2)) then
 bif (decide (length (x.2.1++((z53 y0).1))+y1.length≤room)) then
 some (.dat (.pair .bool (.pair (.sl .byte) .unit)) (false,(((x.2.1++((z53 y0).1))++y1),())) none)
 else none
 else
 some (.dat (.pair .bool (.pair (.sl .byte) .unit)) (false,((x.2.1++((z53 y0).1)),())) none)
 else none
 else none)
def qLF (n:Nat) (s0:LU):OA :=
 bif (z108 (qqB n) (false,(([]:LU),())) s0).1 then
 bif (z108 (qqB n) (false,(([]:LU),())) s0).2.1.1 then
 qzV ([]:LU)
 else
 qzV (z108 (qqB n) (false,(([]:LU),())) s0).2.1.2.1
 else none
def qji (c0:UInt8):=(z216 ([65,66,67,68,69,70,71,72,73,74,75,76,77,78,79,80,81,82,83,84,85,86,87,88,89,90,97,98,99,100,101,102,103,104,105,106,107,108,109,110,111,112,113,114,115,116,117,118,119,120,121,122,48,49,50,51,52,53,54,55,56,57,43,47]:LU) c0)
def qRk (_n:Nat) (c0:UInt8):OA :=
 qjf (bif (decide ((0:Int) > (qji c0))) then (0:Int) else (qji c0)) (decide (0≤(qji c0)))
def qA (s7:LU) (s9:Int):=(s7.getD s9.toNat (0:UInt8))
def qdX (V:Sigma Inv) (ret:Den V.1→LU→OA) (k0:Den V.1→LU→OA) (next:LU→Int→Int→Den V.1→LU→OA) (_n:Nat) (s7:LU) (s8:Int) (s9:Int) (xv:Den V.1) (s29:LU):OA :=
 bif (decide (s9 < s8)) then bif ((decide (0≤s9))&&(decide (s9 < s7.length))) then bif ((qA s7 s9)==(61:UInt8)) then ret xv s29 else bif (!((z175 (qA s7 s9)).2)) then bif (V.2.spec xv [⟨.byte,(qA s7 s9)⟩,⟨(.int .i64),(-1:Int)⟩]).1 then bif (!(V.2.spec xv [⟨.byte,(qA s7 s9)⟩,⟨(.int .i64),(-1:Int)⟩]).2.1) then ret (V.2.spec xv [⟨.byte,(qA s7 s9)⟩,⟨(.int .i64),(-1:Int)⟩]).2.2 s29 else next s7 s8 (wrap .i64 (s9+1)) (V.2.spec xv [⟨.byte,(qA s7 s9)⟩,⟨(.int .i64),(-1:Int)⟩]).2.2 s29 else none else bif (V.2.spec xv [⟨.byte,(qA s7 s9)⟩,⟨(.int .i64),((z175 (qA s7 s9)).1)⟩]).1 then bif (!(V.2.spec xv [⟨.byte,(qA s7 s9)⟩,⟨(.int .i64),((z175 (qA s7 s9)).1)⟩]).2.1) then ret (V.2.spec xv [⟨.byte,(qA s7 s9)⟩,⟨(.int .i64),((z175 (qA s7 s9)).1)⟩]).2.2 s29 else next s7 s8 (wrap .i64 (s9+1)) (V.2.spec xv [⟨.byte,(qA s7 s9)⟩,⟨(.int .i64),((z175 (qA s7 s9)).1)⟩]).2.2 s29 else none else none else k0 xv s29
def qhm (V:Sigma Inv) (ret:Den V.1→LU→OA) (k0:Den V.1→LU→OA):Nat→LU→Int→Int→Den V.1→LU→OA
 | 0=>fun _ _ _ _ _=>none
 | n+1=>(qdX V) ret k0 ((qhm V) ret k0 n) n
def qfF (V:Sigma Inv) (_n:Nat) (xv:Den V.1) (s29:LU):OA :=
 (qjd V) xv s29
def qsP (V:Sigma Inv) (n:Nat) (x0:Den V.1) (x1:LU):OA :=
 (qhm V) (qjd V) ((qfF V) n) n x1 (x1.length:Int) (0:Int) x0 x1
def qRl (_n:Nat) (s0:LU):OA :=
 some (.abs (qds [.leaf (.sl .byte)]) (clInv 174 [.leaf (.sl .byte)]) (s0,()))
def qnT (n:Nat) (x:Bool×LU×Int×Int×Unit) (y0:UInt8) (y1:Int):Bool×Bool×(Bool×LU×Int×Int×Unit) :=
 bif x.1 then (false,false,x) else yfin (.pair (.sl .byte) (.pair (.int .i64) (.pair (.int .i64) .unit))) x (
 bif (decide (y1 < (0:Int))) then
 some (.dat (.pair .bool (.pair (.sl .byte) (.pair (.int .i64) (.pair (.int .i64) .unit)))) (false,(x.2.1,(x.2.2.1,(x.2.2.2.1,())))) none)
 else
 bif (decide ((8:Int)≤(wrap .i64 (x.2.2.2.1+(6:Int))))) then
 bif (decide (0≤(wrap .i64 ((wrap .i64 (x.2.2.2.1+(6:Int))) - (8:Int))))) then
 bif (decide (length x.2.1+length ([(ofNat (wrap .u8 (Int.fdiv (bits .or .i64 (wrap .i64 (x.2.2.1*2 ^ (min (6:Int).toNat (IntKind.bits .i64)))) y1) (2 ^ (min (wrap .i64 ((wrap .i64 (x.2.2.2.1+(6:Int))) - (8:Int))).toNat (IntKind.bits .i64))))).toNat)]:LU)≤room)) then
 bif (decide (0≤(wrap .i64 ((wrap .i64 (x.2.2.2.1+(6:Int))) - (8:Int))))) then
 some (.dat (.pair .bool (.pair (.sl .byte) (.pair (.int .i64) (.pair (.int .i64) .unit)))) (false,((x.2.1++([(ofNat (wrap .u8 (Int.fdiv (bits .or .i64 (wrap .i64 (x.2.2.1*2 ^ (min (6:Int).toNat (IntKind.bits .i64)))) y1) (2 ^ (min (wrap .i64 ((wrap .i64 (x.2.2.2.1+(6:Int))) - (8:Int))).toNat (IntKind.bits .i64))))).toNat)]:LU)),((bits .and .i64 (bits .or .i64 (wrap .i64 (x.2.2.1*2 ^ (min (6:Int).toNat (IntKind.bits .i64)))) y1) (wrap .i64 ((wrap .i64 ((1:Int)*2 ^ (min (wrap .i64 ((wrap .i64 (x.2.2.2.1+(6:Int))) - (8:Int))).toNat (IntKind.bits .i64)))) - (1:Int)))),((wrap .i64 ((wrap .i64 (x.2.2.2.1+(6:Int))) - (8:Int))),())))) none)
 else none
 else none
 else none
 else
 some (.dat (.pair .bool (.pair (.sl .byte) (.pair (.int .i64) (.pair (.int .i64) .unit)))) (false,(x.2.1,((bits .or .i64 (wrap .i64 (x.2.2.1*2 ^ (min (6:Int).toNat (IntKind.bits .i64)))) y1),((wrap .i64 (x.2.2.2.1+(6:Int))),())))) none))
def qfG (n:Nat) (s0:LU):=(z174 (qnT n) (false,(([]:LU),((0:Int),((0:Int),())))) s0)
def qhT (n:Nat) (s0:LU):=( qAe (qfG n s0).2.1.2.1 (qfG n s0).2.1.2.2.2.1)
def qLG (n:Nat) (s0:LU):OA :=
 bif (qfG n s0).1 then bif (qfG n s0).2.1.1 then qAe ([]:LU) (0:Int) else both ( both (qhT n s0) (qhT n s0)) (qhT n s0) else none
def qRm (_n:Nat) (s0:LU):OA :=
 bif ((qCC s0)&&true) then
 qzV ((z54 s0).1)
 else none
def qAh (s2:LI):OA:=some (.dat (.sl (.int .i32)) s2 (some (2,21)))
def qgu (k0:LI→OA) (next:LI→LU→Int→Int→OA) (_n:Nat) (t3:LI) (s9:LU) (s10:Int) (s11:Int):OA :=
 bif (decide (s11 < s10)) then
 bif ((decide (0≤s11))&&(decide (s11 < s9.length))) then
 bif ((decide (0≤s11))&&(decide (s11 < t3.length))) then
 next (set t3 s11.toNat (wrap .i32 ((toNat (s9.getD s11.toNat (0:UInt8)):Nat):Int))) s9 s10 (wrap .i64 (s11+1))
 else none
 else none
 else
 k0 t3
def quS (k0:LI→OA):Nat→LI→LU→Int→Int→OA
 | 0=>fun _ _ _ _=>none
 | n+1=>qgu k0 (quS k0 n) n
def qqD (_n:Nat) (t3:LI):OA :=
 qAh t3
def qFs (n:Nat) (s0:LU):OA :=
 bif (((decide (0≤(s0.length:Int)))&&(decide ((s0.length:Int)≤(s0.length:Int))))&&(decide ((s0.length:Int)≤(room:Int)))) then
 quS (qqD n) n (List.replicate (s0.length:Int).toNat 0) s0 (s0.length:Int) (0:Int)
 else none
def qqE (s2:Int):OA:=some (di s2 none)
def qIe (_n:Nat) (c0:Int):OA :=
 bif (decide ((128:Int)≤c0)) then
 qqE (65533:Int)
 else
 qqE c0
def qgv (k0:LI→OA) (next:LI→Int→Int→OA) (_n:Nat) (t3:LI) (s10:Int) (s11:Int):OA :=
 bif (decide (s11 < s10)) then
 bif ((decide (0≤s11))&&(decide (s11 < t3.length))) then
 bif ((decide (0≤s11))&&(decide (s11 < t3.length))) then
 next (set t3 s11.toNat (z114 (t3.getD s11.toNat 0))) s10 (wrap .i64 (s11+1))
 else none
 else none
 else
 k0 t3
def quT (k0:LI→OA):Nat→LI→Int→Int→OA
 | 0=>fun _ _ _=>none
 | n+1=>qgv k0 (quT k0 n) n
def qqF (_n:Nat) (t3:LI):OA :=
 qAh t3
def qFt (n:Nat) (s0:LU):OA :=
 bif ((qul s0)&&true) then
 quT (qqF n) n (z59 s0) ((z59 s0).length:Int) (0:Int)
 else none
def qAj (s0:List (UInt8×(Int×Unit))):OA:=some (.dat (.arr 8 (.pair .byte (.pair (.int .i32) .unit))) s0 none)
def qRn (_n:Nat):OA :=
 qAj ([((164:UInt8),((8364:Int),())),((166:UInt8),((352:Int),())),((168:UInt8),((353:Int),())),((180:UInt8),((381:Int),())),((184:UInt8),((382:Int),())),((188:UInt8),((338:Int),())),((189:UInt8),((339:Int),())),((190:UInt8),((376:Int),()))]:List (UInt8×(Int×Unit)))
def qsQ (ret:Int→OA) (k0:UInt8→OA) (next:UInt8→List (UInt8×(Int×Unit))→Int→OA) (_n:Nat) (x0:UInt8) (s5:List (UInt8×(Int×Unit))) (s6:Int):OA :=
 bif (decide (s6 < (8:Int))) then
 bif ((decide (0≤s6))&&(decide (s6 < (8:Nat)))) then
 bif ((s5.getD s6.toNat ((0:UInt8),((0:Int),()))).1==x0) then
 ret (s5.getD s6.toNat ((0:UInt8),((0:Int),()))).2.1
 else
 next x0 s5 (wrap .i64 (s6+1))
 else none
 else
 k0 x0
def qnU (ret:Int→OA) (k0:UInt8→OA):Nat→UInt8→List (UInt8×(Int×Unit))→Int→OA
 | 0=>fun _ _ _=>none
 | n+1=>qsQ ret k0 (qnU ret k0 n) n
def qsR (_n:Nat) (x0:UInt8):OA :=
 qqE (wrap .i32 ((toNat x0:Nat):Int))
def qsS (n:Nat) (x0:UInt8):OA :=
 qnU qqE (qsR n) n x0 z176 (0:Int)
def qgw (k0:LI→OA) (next:LI→LU→Int→Int→OA) (_n:Nat) (t3:LI) (s6:LU) (s7:Int) (s8:Int):OA :=
 bif (decide (s8 < s7)) then
 bif ((decide (0≤s8))&&(decide (s8 < s6.length))) then
 bif (decide (t3.length+length ([(z115 (s6.getD s8.toNat (0:UInt8)))]:LI)≤room)) then
 next (t3++([(z115 (s6.getD s8.toNat (0:UInt8)))]:LI)) s6 s7 (wrap .i64 (s8+1))
 else none
 else none
 else
 k0 t3
def quU (k0:LI→OA):Nat→LI→LU→Int→Int→OA
 | 0=>fun _ _ _ _=>none
 | n+1=>qgw k0 (quU k0 n) n
def qlH (_n:Nat) (t3:LI):OA :=
 qAh t3
def qFu (n:Nat) (s0:LU):OA :=
 quU (qlH n) n ([]:LI) s0 (s0.length:Int) (0:Int)
def qAk (s0:LI):OA:=some (.dat (.sl (.int .i32)) s0 none)
def qIg (_n:Nat):OA :=
 qAk (drop 0 (take 32 ([(8364:Int),(0:Int),(8218:Int),(402:Int),(8222:Int),(8230:Int),(8224:Int),(8225:Int),(710:Int),(8240:Int),(352:Int),(8249:Int),(338:Int),(0:Int),(381:Int),(0:Int),(0:Int),(8216:Int),(8217:Int),(8220:Int),(8221:Int),(8226:Int),(8211:Int),(8212:Int),(732:Int),(8482:Int),(353:Int),(8250:Int),(339:Int),(0:Int),(382:Int),(376:Int)]:LI)))
def qdC (x0:UInt8):=((toNat (x0 - (128:UInt8)):Nat):Int)
def qIh (_n:Nat) (x0:UInt8):OA :=
 bif (decide (x0 < (128:UInt8))) then qqE (wrap .i32 ((toNat x0:Nat):Int)) else bif (decide ((160:UInt8)≤x0)) then qqE (wrap .i32 ((toNat x0:Nat):Int)) else bif ((decide (0≤(qdC x0)))&&(decide ((qdC x0) < z177.length))) then bif ((z177.getD (qdC x0).toNat 0) != (0:Int)) then qqE (z177.getD (qdC x0).toNat 0) else qqE (65533:Int) else none
def qgx (k0:LI→OA) (next:LI→LU→Int→Int→OA) (_n:Nat) (t3:LI) (s9:LU) (s10:Int) (s11:Int):OA :=
 bif (decide (s11 < s10)) then
 bif ((decide (0≤s11))&&(decide (s11 < s9.length))) then
 bif (decide (t3.length+length ([(z116 (s9.getD s11.toNat (0:UInt8)))]:LI)≤room)) then
 next (t3++([(z116 (s9.getD s11.toNat (0:UInt8)))]:LI)) s9 s10 (wrap .i64 (s11+1))
 else none
 else none
 else
 k0 t3
def quV (k0:LI→OA):Nat→LI→LU→Int→Int→OA
 | 0=>fun _ _ _ _=>none
 | n+1=>qgx k0 (quV k0 n) n
def qlI (_n:Nat) (t3:LI):OA :=
 qAh t3
def qFv (n:Nat) (s0:LU):OA :=
 bif (((decide (0≤(0:Int)))&&(decide (0≤(s0.length:Int))))&&(decide ((s0.length:Int)≤(room:Int)))) then
 quV (qlI n) n (List.replicate (0:Int).toNat 0) s0 (s0.length:Int) (0:Int)
 else none
def qqG (s13:LI):OA:=some (.tup [(.tup []),.bad,.bad,(.pbox (.osl 21 (.int .i32)) s13 none)])
def qAl (_n:Nat) (c0:Int) (e1:Int) (x2:LI):OA :=
 bif (e1 != (0:Int)) then
 bif (decide (x2.length+length ([(65533:Int)]:LI)≤room)) then
 qqG (x2++([(65533:Int)]:LI))
 else none
 else
 bif (decide (x2.length+length ([c0]:LI)≤room)) then
 qqG (x2++([c0]:LI))
 else none
def qIj (_n:Nat) (n0:Int):OA :=
 bif (n0==(2:Int)) then
 qlE (192:UInt8)
 else
 bif (n0==(3:Int)) then
 qlE (224:UInt8)
 else
 bif (n0==(4:Int)) then
 qlE (240:UInt8)
 else
 qlE (0:UInt8)
def qIk (_n:Nat) (c0:UInt8):OA :=
 bif (decide (c0 < (128:UInt8))) then
 qHP (1:Int)
 else
 bif (decide (c0 < (194:UInt8))) then
 qHP (0:Int)
 else
 bif (decide ((244:UInt8) < c0)) then
 qHP (0:Int)
 else
 bif (decide (c0 < (224:UInt8))) then
 qHP (2:Int)
 else
 bif (decide (c0 < (240:UInt8))) then
 qHP (3:Int)
 else
 qHP (4:Int)
def qIl (_n:Nat) (c0:UInt8):OA :=
 qzQ ((c0 &&& ~~~ (63:UInt8))==(128:UInt8))
def qIm (_n:Nat) (first0:UInt8) (c1:UInt8):OA :=
 bif (first0==(224:UInt8)) then
 bif (decide ((160:UInt8)≤c1)) then
 qzQ (z237 c1)
 else
 qzQ false
 else
 bif (first0==(237:UInt8)) then
 bif (decide (c1 < (160:UInt8))) then
 qzQ (z237 c1)
 else
 qzQ false
 else
 bif (first0==(240:UInt8)) then
 bif (decide ((144:UInt8)≤c1)) then
 qzQ (z237 c1)
 else
 qzQ false
 else
 bif (first0==(244:UInt8)) then
 bif (decide (c1 < (144:UInt8))) then
 qzQ (z237 c1)
 else
 qzQ false
 else
 qzQ (z237 c1)
def qcq (ret:Int→OA) (k0:LU→Int→OA) (next:LU→Int→OA) (_n:Nat) (s0:LU) (n3:Int):OA :=
 bif ((decide (0≤(0:Int)))&&(decide ((0:Int) < s0.length))) then
 bif (decide (n3 < (z218 (s0.getD (0:Int).toNat (0:UInt8))))) then
 bif (decide (n3 < (s0.length:Int))) then
 bif ((decide (0≤n3))&&(decide (n3 < s0.length))) then
 bif (!(z237 (s0.getD n3.toNat (0:UInt8)))) then
 ret n3
 else
 bif (n3==(1:Int)) then
 bif ((decide (0≤(0:Int)))&&(decide ((0:Int) < s0.length))) then
 bif ((decide (0≤(1:Int)))&&(decide ((1:Int) < s0.length))) then
 bif (!(z238 (s0.getD (0:Int).toNat (0:UInt8)) (s0.getD (1:Int).toNat (0:UInt8)))) then
 ret n3
 else
 next s0 (wrap .i64 (n3+1))
 else none
 else none
 else
 next s0 (wrap .i64 (n3+1))
 else none
 else
 k0 s0 n3
 else
 k0 s0 n3
 else none
def qjl (ret:Int→OA) (k0:LU→Int→OA):Nat→LU→Int→OA
 | 0=>fun _ _=>none
 | n+1=>qcq ret k0 (qjl ret k0 n) n
def qaR (_n:Nat) (s0:LU) (n3:Int):OA :=
 bif ((decide (0≤(0:Int)))&&(decide ((0:Int) < s0.length))) then
 qHP (bif (decide ((z218 (s0.getD (0:Int).toNat (0:UInt8))) < n3)) then (z218 (s0.getD (0:Int).toNat (0:UInt8))) else n3)
 else none
def qsT (n:Nat) (s0:LU):OA :=
 qjl qHP (qaR n) n s0 (1:Int)
def qcT (s2:Int) (s3:Int) (s4:Int):OA:=some (.tup [(di s2 none),(dc s3),(dc s4)])
def qcF (k1:Int→Int→OA) (next:Int→Int→LU→Int→Int→OA) (_n:Nat) (n5:Int) (c6:Int) (s48:LU) (s49:Int) (s50:Int):OA :=
 bif (decide (s50 < s49)) then
 bif ((decide (0≤s50))&&(decide (s50 < s48.length))) then
 next n5 (bits .or .i32 (wrap .i32 (c6*2 ^ (min (6:Int).toNat (IntKind.bits .i32)))) (wrap .i32 ((toNat ((s48.getD s50.toNat (0:UInt8)) &&& (63:UInt8)):Nat):Int))) s48 s49 (wrap .i64 (s50+1))
 else none
 else
 k1 n5 c6
def qeN (k1:Int→Int→OA):Nat→Int→Int→LU→Int→Int→OA
 | 0=>fun _ _ _ _ _=>none
 | n+1=>qcF k1 (qeN k1 n) n
def qfH (_n:Nat) (n5:Int) (c6:Int):OA :=
 qcT c6 n5 (0:Int)
def qca (s0:LU):=((decide (0≤(0:Int)))&&(decide ((0:Int) < s0.length)))
def qcG (s0:LU):=(drop (1:Int).toNat (take (z217 s0).toNat s0))
def qdD (s0:LU):=(decide ((z217 s0) < (z218 (s0.getD (0:Int).toNat (0:UInt8)))))
def qfI (s0:LU):=(((decide (0≤(1:Int)))&&(decide ((1:Int)≤(z217 s0))))&&(decide ((z217 s0)≤(s0.length:Int))))
def qfJ (s0:LU):=(wrap .i32 ((toNat ((s0.getD (0:Int).toNat (0:UInt8)) &&& ~~~ (z185 (z217 s0))):Nat):Int))
def qsU (n:Nat) (s0:LU):OA :=
 bif ((s0.length:Int)==(0:Int)) then qcT (0:Int) (0:Int) (4:Int) else bif ((qkj s0)&&true) then bif ((z217 s0)==(0:Int)) then qcT (0:Int) (1:Int) (3:Int) else bif (qca s0) then bif (qdD s0) then bif ((z217 s0)==(s0.length:Int)) then qcT (0:Int) (z217 s0) (4:Int) else bif (qca s0) then bif (qdD s0) then qcT (0:Int) (z217 s0) (3:Int) else bif (qca s0) then bif (qfI s0) then qeN (qfH n) n (z217 s0) (qfJ s0) (qcG s0) ((qcG s0).length:Int) (0:Int) else none else none else none else bif (qca s0) then bif (qdD s0) then qcT (0:Int) (z217 s0) (3:Int) else bif (qca s0) then bif (qfI s0) then qeN (qfH n) n (z217 s0) (qfJ s0) (qcG s0) ((qcG s0).length:Int) (0:Int) else none else none else none else none else none
def qbf (s24:LI):OA:=some (.tup [(.tup []),.bad,(.pbox (.osl 21 (.int .i32)) s24 none)])
def qcU (k0:LI→OA) (next:LU→LI→OA) (_n:Nat) (s0:LU) (s24:LI):OA :=
 bif (decide ((0:Int) < (s0.length:Int))) then
 bif ((qrR s0)&&true) then
 bif (qrY ((z178 s0).1) ((z178 s0).2.2) s24) then
 bif (((decide (0≤((z178 s0).2.1)))&&(decide (((z178 s0).2.1)≤(s0.length:Int))))&&(decide ((s0.length:Int)≤(s0.length:Int)))) then
 next (drop ((z178 s0).2.1).toNat (take (s0.length:Int).toNat s0)) (z118 ((z178 s0).1) ((z178 s0).2.2) s24)
 else none
 else none
 else none
 else
 k0 s24
def qcb (k0:LI→OA):Nat→LU→LI→OA
 | 0=>fun _ _=>none
 | n+1=>qcU k0 (qcb k0 n) n
def qcV (_n:Nat) (s24:LI):OA :=
 qbf s24
def qjm (n:Nat) (s0:LU) (f1:LI):OA :=
 qcb (qcV n) n s0 f1
def qLH (_n:Nat) (s0:LU):OA :=
 bif (qcB s0 ([]:LI)) then
 qAk (qwG s0 ([]:LI))
 else none
def qRo (_n:Nat) (charset0:Int) (s1:LU):OA :=
 bif (charset0==(1:Int)) then
 bif ((qCx s1)&&true) then
 qAk (z55 s1)
 else none
 else
 bif (charset0==(3:Int)) then
 bif ((qCv s1)&&true) then
 qAk (z56 s1)
 else none
 else
 bif (charset0==(4:Int)) then
 bif ((qCw s1)&&true) then
 qAk (z57 s1)
 else none
 else
 bif (charset0==(5:Int)) then
 bif ((qCu s1)&&true) then
 qAk (z58 s1)
 else none
 else
 bif ((qul s1)&&true) then
 qAk (z59 s1)
 else none
def qRp (_n:Nat) (coding0:Int) (charset1:Int) (s2:LU):OA :=
 bif (coding0==(2:Int)) then
 bif ((qFp s2)&&true) then
 bif ((qnd charset1 (z27 s2))&&true) then
 qAk (z29 charset1 (z27 s2))
 else none
 else none
 else
 bif (coding0==(3:Int)) then
 bif ((qCD s2)&&true) then
 bif ((qnd charset1 (z28 s2))&&true) then
 qAk (z29 charset1 (z28 s2))
 else none
 else none
 else
 bif ((qnd charset1 s2)&&true) then
 qAk (z29 charset1 s2)
 else none
def qTH (_n:Nat) (c0:UInt8):OA :=
 qzQ (decide ((128:UInt8)≤c0))
def qhU (ret:Int→OA) (next:LU→LU→Int→OA) (_n:Nat) (s0:LU) (sep1:LU) (n5:Int):OA :=
 bif ((qiN s0 sep1)&&true) then
 bif ((z143 s0 sep1)==(-1:Int)) then
 ret n5
 else
 bif (((decide (0≤(wrap .i64 ((z143 s0 sep1)+(sep1.length:Int)))))&&(decide ((wrap .i64 ((z143 s0 sep1)+(sep1.length:Int)))≤(s0.length:Int))))&&(decide ((s0.length:Int)≤(s0.length:Int)))) then
 next (drop (wrap .i64 ((z143 s0 sep1)+(sep1.length:Int))).toNat (take (s0.length:Int).toNat s0)) sep1 (wrap .i64 (n5+1))
 else none
 else none
def qkt (ret:Int→OA):Nat→LU→LU→Int→OA
 | 0=>fun _ _ _=>none
 | n+1=>qhU ret (qkt ret n) n
def qsW (n:Nat) (s0:LU) (sep1:LU):OA :=
 bif ((sep1.length:Int)==(0:Int)) then
 bif ((qHF s0)&&true) then
 qHP (wrap .i64 ((z192 s0)+1))
 else none
 else
 bif ((sep1.length:Int)==(1:Int)) then
 bif ((decide (0≤(0:Int)))&&(decide ((0:Int) < sep1.length))) then
 qHP (z193 s0 (sep1.getD (0:Int).toNat (0:UInt8)))
 else none
 else
 qkt qHP n s0 sep1 (0:Int)
def qAn (s3:Int) (s9:LU):OA:=some (.tup [(dc s3),.bad,(.pbox (.leaf (.sl .byte)) s9 none)])
def qAo (_n:Nat) (c0:UInt8) (x1:LU):OA :=
 bif ((qfA x1 ([c0]:LU))&&true) then
 qAn (z139 x1 ([c0]:LU)) x1
 else none
def qLI (_n:Nat) (s0:LU):OA :=
 bif ((qfA s0 ([(13:UInt8),(10:UInt8)]:LU))&&true) then
 bif (qkp (13:UInt8) s0) then
 bif (qkp (10:UInt8) ((z140 (13:UInt8) s0).2)) then
 qHP (wrap .i64 ((wrap .i64 (((z140 (13:UInt8) s0).1)+((z140 (10:UInt8) ((z140 (13:UInt8) s0).2)).1))) - (wrap .i64 ((2:Int)*(z139 s0 ([(13:UInt8),(10:UInt8)]:LU))))))
 else none
 else none
 else none
def qAp (before4:LU) (after5:LU) (found6:Bool):OA:=some (.tup [(da before4),(da after5),(dg found6)])
def qRq (_n:Nat) (s0:LU) (sep1:LU):OA :=
 bif ((qiN s0 sep1)&&true) then
 bif (decide (0≤(z143 s0 sep1))) then
 bif (((decide (0≤((0:Nat):Int)))&&(decide (((0:Nat):Int)≤(z143 s0 sep1))))&&(decide ((z143 s0 sep1)≤(s0.length:Int)))) then
 bif (((decide (0≤(wrap .i64 ((z143 s0 sep1)+(sep1.length:Int)))))&&(decide ((wrap .i64 ((z143 s0 sep1)+(sep1.length:Int)))≤(s0.length:Int))))&&(decide ((s0.length:Int)≤(s0.length:Int)))) then
 qAp (drop ((0:Nat):Int).toNat (take (z143 s0 sep1).toNat s0)) (drop (wrap .i64 ((z143 s0 sep1)+(sep1.length:Int))).toNat (take (s0.length:Int).toNat s0)) true
 else none
 else none
 else
 qAp s0 ([]:LU) false
 else none
def qAq (s2:List LU):OA:=some (.dat (.sl (.sl .byte)) s2 (some (2,24)))
def qbg:=([(13:UInt8),(10:UInt8)]:LU)
def qhV (k0:List LU→OA) (next:LU→List LU→OA) (_n:Nat) (s0:LU) (out3:List LU):OA :=
 bif (decide ((0:Int) < (s0.length:Int))) then bif ((qjT s0 (qbg))&&true) then bif ((qev ((z82 s0 (qbg)).1))&&true) then bif (decide (out3.length+length ([(z153 ((z82 s0 (qbg)).1))]:List LU)≤room)) then next ((z82 s0 (qbg)).2.1) (out3++([(z153 ((z82 s0 (qbg)).1))]:List LU)) else none else none else none else k0 out3
def qhn (k0:List LU→OA):Nat→LU→List LU→OA
 | 0=>fun _ _=>none
 | n+1=>qhV k0 (qhn k0 n) n
def qsX (_n:Nat) (out3:List LU):OA :=
 qAq out3
def qsY (n:Nat) (s0:LU):OA :=
 qhn (qsX n) n s0 ([]:List LU)
def qgz (k0:Int→OA) (next:Int→List LU→Int→Int→OA) (_n:Nat) (n3:Int) (s7:List LU) (s8:Int) (s9:Int):OA :=
 bif (decide (s9 < s8)) then
 bif ((decide (0≤s9))&&(decide (s9 < s7.length))) then
 next (bif (decide (((s7.getD s9.toNat ([]:LU)).length:Int) > n3)) then ((s7.getD s9.toNat ([]:LU)).length:Int) else n3) s7 s8 (wrap .i64 (s9+1))
 else none
 else
 k0 n3
def qnV (k0:Int→OA):Nat→Int→List LU→Int→Int→OA
 | 0=>fun _ _ _ _=>none
 | n+1=>qgz k0 (qnV k0 n) n
def qqH (_n:Nat) (n3:Int):OA :=
 qHP n3
def qFw (n:Nat) (s0:LU):OA :=
 bif ((qsA s0)&&true) then
 qnV (qqH n) n (0:Int) (z142 s0) ((z142 s0).length:Int) (0:Int)
 else none
def qgA (k0:LU→Int→Bool→OA) (next:LU→Int→Bool→LU→Int→Int→OA) (_n:Nat) (s0:LU) (most1:Int) (above6:Bool) (s9:LU) (s10:Int) (s11:Int):OA :=
 bif (decide (s11 < s10)) then
 bif ((decide (0≤s11))&&(decide (s11 < s9.length))) then
 bif above6 then
 next s0 most1 true s9 s10 (wrap .i64 (s11+1))
 else
 next s0 most1 (z78 (s9.getD s11.toNat (0:UInt8))) s9 s10 (wrap .i64 (s11+1))
 else none
 else
 k0 s0 most1 above6
def qnW (k0:LU→Int→Bool→OA):Nat→LU→Int→Bool→LU→Int→Int→OA
 | 0=>fun _ _ _ _ _ _=>none
 | n+1=>qgA k0 (qnW k0 n) n
def qlJ (_n:Nat) (s0:LU) (most1:Int) (above6:Bool):OA :=
 bif ((qEY s0)&&true) then
 bif (decide ((0:Int) < (z79 s0))) then
 qHP (8:Int)
 else
 bif (decide (0≤(z80 s0 (0:UInt8)))) then
 qHP (8:Int)
 else
 bif above6 then
 qHP (9:Int)
 else
 bif (decide ((0:Int) < (s0.length:Int))) then
 bif ((qFa s0)&&true) then
 bif (decide (most1 < (z81 s0))) then
 qHP (12:Int)
 else
 qHP (0:Int)
 else none
 else
 qHP (0:Int)
 else none
def qLJ (n:Nat) (s0:LU) (most1:Int):OA :=
 qnW (qlJ n) n s0 most1 false s0 (s0.length:Int) (0:Int)
def qjo:=([65,66,67,68,69,70,71,72,73,74,75,76,77,78,79,80,81,82,83,84,85,86,87,88,89,90,97,98,99,100,101,102,103,104,105,106,107,108,109,110,111,112,113,114,115,116,117,118,119,120,121,122,48,49,50,51,52,53,54,55,56,57,43,47]:LU)
def qIr (_n:Nat) (n0:Int):OA :=
 bif ((decide (0≤(bits .and .i64 n0 (63:Int))))&&(decide ((bits .and .i64 n0 (63:Int)) < (qjo).length))) then qlE ((qjo).getD (bits .and .i64 n0 (63:Int)).toNat (0:UInt8)) else none
def qjp (s2:LU):OA:=some (db s2 (some (2,5)))
def qsZ (k2:LU→Int→Int→LU→Int→Int→OA) (next:LU→Int→Int→LU→Int→Int→OA) (_n:Nat) (out3:LU) (held4:Int) (many5:Int) (s8:LU) (s9:Int) (s10:Int):OA :=
 bif (decide ((6:Int)≤many5)) then
 bif (decide (0≤(wrap .i64 (many5 - (6:Int))))) then
 bif (decide (out3.length+length ([(z222 (Int.fdiv held4 (2 ^ (min (wrap .i64 (many5 - (6:Int))).toNat (IntKind.bits .i64)))))]:LU)≤room)) then
 next (out3++([(z222 (Int.fdiv held4 (2 ^ (min (wrap .i64 (many5 - (6:Int))).toNat (IntKind.bits .i64)))))]:LU)) held4 (wrap .i64 (many5 - (6:Int))) s8 s9 s10
 else none
 else none
 else
 k2 out3 held4 many5 s8 s9 s10
def qdf (k2:LU→Int→Int→LU→Int→Int→OA):Nat→LU→Int→Int→LU→Int→Int→OA
 | 0=>fun _ _ _ _ _ _=>none
 | n+1=>qsZ k2 (qdf k2 n) n
def qdY (_k0:LU→Int→Int→OA) (next:LU→Int→Int→LU→Int→Int→OA) (_n:Nat) (out3:LU) (held4:Int) (many5:Int) (s8:LU) (s9:Int) (s10:Int):OA :=
 bif (decide (0≤many5)) then
 next out3 (bits .and .i64 held4 (wrap .i64 ((wrap .i64 ((1:Int)*2 ^ (min many5.toNat (IntKind.bits .i64)))) - (1:Int)))) many5 s8 s9 (wrap .i64 (s10+1))
 else none
def qcW (k0:LU→Int→Int→OA) (next:LU→Int→Int→LU→Int→Int→OA) (n:Nat) (out3:LU) (held4:Int) (many5:Int) (s8:LU) (s9:Int) (s10:Int):OA :=
 bif (decide (s10 < s9)) then
 bif ((decide (0≤s10))&&(decide (s10 < s8.length))) then
 qdf (qdY k0 next n) n out3 (bits .or .i64 (wrap .i64 (held4*2 ^ (min (8:Int).toNat (IntKind.bits .i64)))) (wrap .i64 ((toNat (s8.getD s10.toNat (0:UInt8)):Nat):Int))) (wrap .i64 (many5+(8:Int))) s8 s9 s10
 else none
 else
 k0 out3 held4 many5
def qku (k0:LU→Int→Int→OA):Nat→LU→Int→Int→LU→Int→Int→OA
 | 0=>fun _ _ _ _ _ _=>none
 | n+1=>qcW k0 (qku k0 n) n
def qfK (_n:Nat) (out3:LU) (held4:Int) (many5:Int):OA :=
 bif (decide ((0:Int) < many5)) then
 bif (decide (0≤(wrap .i64 ((6:Int) - many5)))) then
 bif (decide (out3.length+length ([(z222 (wrap .i64 (held4*2 ^ (min (wrap .i64 ((6:Int) - many5)).toNat (IntKind.bits .i64)))))]:LU)≤room)) then
 qjp (out3++([(z222 (wrap .i64 (held4*2 ^ (min (wrap .i64 ((6:Int) - many5)).toNat (IntKind.bits .i64)))))]:LU))
 else none
 else none
 else
 qjp out3
def qta (n:Nat) (s0:LU):OA :=
 qku (qfK n) n ([]:LU) (0:Int) (0:Int) s0 (s0.length:Int) (0:Int)
def qgB (ret:Bool→OA) (k0:OA) (next:LI→LI→Int→OA) (_n:Nat) (a0:LI) (b1:LI) (i5:Int):OA :=
 bif (decide (i5 < (a0.length:Int))) then
 bif ((decide (0≤i5))&&(decide (i5 < a0.length))) then
 bif ((decide (0≤i5))&&(decide (i5 < b1.length))) then
 bif ((a0.getD i5.toNat 0) != (b1.getD i5.toNat 0)) then
 ret false
 else
 next a0 b1 (wrap .i64 (i5+1))
 else none
 else none
 else
 k0
def qnX (ret:Bool→OA) (k0:OA):Nat→LI→LI→Int→OA
 | 0=>fun _ _ _=>none
 | n+1=>qgB ret k0 (qnX ret k0 n) n
def qAs (_n:Nat):OA :=
 qzQ true
def qFx (n:Nat) (a0:LI) (b1:LI):OA :=
 bif ((a0.length:Int) != (b1.length:Int)) then
 qzQ false
 else
 qnX qzQ (qAs n) n a0 b1 (0:Int)
def qIs (_n:Nat) (b0:LU) (chars1:LU):OA :=
 bif ((qeu b0 chars1)&&true) then
 qzQ (decide (0≤(z109 b0 chars1)))
 else none
def qIt (_n:Nat) (s0:LU):OA :=
 bif ((qnh s0 ([97,98,99,100,101,102]:LU))&&true) then
 qzQ (!(z200 s0 ([97,98,99,100,101,102]:LU)))
 else none
def qgC (ret:Bool→OA) (k0:LU→OA) (next:LU→LU→Int→Int→OA) (_n:Nat) (l0:LU) (s7:LU) (s8:Int) (s9:Int):OA :=
 bif (decide (s9 < s8)) then
 bif ((decide (0≤s9))&&(decide (s9 < s7.length))) then
 bif (!(z144 (s7.getD s9.toNat (0:UInt8)) (6:Int))) then
 ret false
 else
 bif ((s7.getD s9.toNat (0:UInt8)) != (61:UInt8)) then
 next l0 s7 s8 (wrap .i64 (s9+1))
 else
 bif (s9==(wrap .i64 ((l0.length:Int) - (1:Int)))) then
 next l0 s7 s8 (wrap .i64 (s9+1))
 else
 bif ((qki l0 s9 (61:UInt8))&&true) then
 bif (!((z145 l0 s9 (61:UInt8)).2)) then
 ret false
 else
 bif (((decide (0≤(wrap .i64 (s9+1))))&&(decide ((wrap .i64 (s9+1))≤(wrap .i64 (s9+(3:Int))))))&&(decide ((wrap .i64 (s9+(3:Int)))≤(l0.length:Int)))) then
 bif ((qnc (drop (wrap .i64 (s9+1)).toNat (take (wrap .i64 (s9+(3:Int))).toNat l0)))&&true) then
 bif (!(z146 (drop (wrap .i64 (s9+1)).toNat (take (wrap .i64 (s9+(3:Int))).toNat l0)))) then
 ret false
 else
 next l0 s7 s8 (wrap .i64 (s9+1))
 else none
 else none
 else none
 else none
 else
 k0 l0
def quW (ret:Bool→OA) (k0:LU→OA):Nat→LU→LU→Int→Int→OA
 | 0=>fun _ _ _ _=>none
 | n+1=>qgC ret k0 (quW ret k0 n) n
def qjq (_n:Nat) (l0:LU):OA :=
 bif ((l0.length:Int)==(0:Int)) then
 qzQ true
 else
 bif ((decide (0≤(wrap .i64 ((l0.length:Int) - (1:Int)))))&&(decide ((wrap .i64 ((l0.length:Int) - (1:Int))) < l0.length))) then
 qzQ (!(z144 (l0.getD (wrap .i64 ((l0.length:Int) - (1:Int))).toNat (0:UInt8)) (2:Int)))
 else none
def qFy (n:Nat) (l0:LU):OA :=
 quW qzQ (qjq n) n l0 l0 (l0.length:Int) (0:Int)
def qbh:=([(13:UInt8),(10:UInt8)]:LU)
def qlK (ret:Int→OA) (k0:OA) (next:LU→OA) (_n:Nat) (s0:LU):OA :=
 bif (decide ((0:Int) < (s0.length:Int))) then bif ((qjT s0 (qbh))&&true) then bif (decide ((76:Int) < (((z82 s0 (qbh)).1).length:Int))) then ret (12:Int) else bif (!((z82 s0 (qbh)).2.2)) then ret (4:Int) else bif ((qzP ((z82 s0 (qbh)).1))&&true) then bif (!(z83 ((z82 s0 (qbh)).1))) then ret (3:Int) else next ((z82 s0 (qbh)).2.1) else none else none else k0
def qqI (ret:Int→OA) (k0:OA):Nat→LU→OA
 | 0=>fun _=>none
 | n+1=>qlK ret k0 (qqI ret k0 n) n
def qqJ (_n:Nat):OA :=
 qHP (0:Int)
def qFz (n:Nat) (s0:LU):OA :=
 qqI qHP (qqJ n) n s0
def qaI (s0:LU):=(z82 s0 ([(13:UInt8),(10:UInt8)]:LU))
def qhW (ret:LU→Int→OA) (k0:LU→OA) (next:LU→LU→OA) (_n:Nat) (s0:LU) (all4:LU):OA :=
 bif (decide ((0:Int) < (s0.length:Int))) then bif ((qjT s0 ([(13:UInt8),(10:UInt8)]:LU))&&true) then bif (decide ((76:Int) < (((qaI s0).1).length:Int))) then ret ([]:LU) (12:Int) else bif (!((qaI s0).2.2)) then ret ([]:LU) (4:Int) else bif (decide ((0:Int) < (((qaI s0).1).length:Int))) then bif (decide (all4.length+length ((qaI s0).1)≤room)) then next ((qaI s0).2.1) (all4++((qaI s0).1)) else none else ret ([]:LU) (3:Int) else none else k0 all4
def qjr (ret:LU→Int→OA) (k0:LU→OA):Nat→LU→LU→OA
 | 0=>fun _ _=>none
 | n+1=>qhW ret k0 (qjr ret k0 n) n
def qfL (_n:Nat) (all4:LU):OA :=
 qAe all4 (0:Int)
def qAv (n:Nat) (s0:LU):OA :=
 qjr qAe (qfL n) n s0 ([]:LU)
def qIu (_n:Nat) (s0:LU) (suffix1:LU):OA :=
 bif ((qkk s0 suffix1)&&true) then
 bif (z215 s0 suffix1) then
 bif (((decide (0≤((0:Nat):Int)))&&(decide (((0:Nat):Int)≤(wrap .i64 ((s0.length:Int) - (suffix1.length:Int))))))&&(decide ((wrap .i64 ((s0.length:Int) - (suffix1.length:Int)))≤(s0.length:Int)))) then
 qzV (drop ((0:Nat):Int).toNat (take (wrap .i64 ((s0.length:Int) - (suffix1.length:Int))).toNat s0))
 else none
 else
 qzV s0
 else none
def qtb (k0:LU→OA) (next:LU→Int→OA) (_n:Nat) (s0:LU) (s3:Int):OA :=
 bif (decide (s3 < (2:Int))) then
 bif ((qiM s0 ([(61:UInt8)]:LU))&&true) then
 next (z231 s0 ([(61:UInt8)]:LU)) (wrap .i64 (s3+1))
 else none
 else
 k0 s0
def qnZ (k0:LU→OA):Nat→LU→Int→OA
 | 0=>fun _ _=>none
 | n+1=>qtb k0 (qnZ k0 n) n
def qtc (_n:Nat) (s0:LU):OA :=
 qzV s0
def qtd (n:Nat) (s0:LU):OA :=
 qnZ (qtc n) n s0 (0:Int)
def qbi (held5:Int) (s12:LU) (s14:Int):=(bits .or .i64 (wrap .i64 (held5*2 ^ (min (6:Int).toNat (IntKind.bits .i64)))) ((z175 (s12.getD s14.toNat (0:UInt8))).1))
def qak (many6:Int):=(wrap .i64 ((wrap .i64 (many6+(6:Int))) - (8:Int)))
def qdZ (ret:LU→Int→OA) (k0:LU→LU→Int→OA) (next:LU→LU→Int→Int→LU→Int→Int→OA) (_n:Nat) (s0:LU) (out4:LU) (held5:Int) (many6:Int) (s12:LU) (s13:Int) (s14:Int):OA :=
 bif (decide (s14 < s13)) then bif ((decide (0≤s14))&&(decide (s14 < s12.length))) then bif (!((z175 (s12.getD s14.toNat (0:UInt8))).2)) then ret ([]:LU) (3:Int) else bif (decide ((8:Int)≤(wrap .i64 (many6+(6:Int))))) then bif (decide (0≤(qak many6))) then bif (decide (out4.length+length ([(ofNat (wrap .u8 (Int.fdiv (qbi held5 s12 s14) (2 ^ (min (qak many6).toNat (IntKind.bits .i64))))).toNat)]:LU)≤room)) then bif (decide (0≤(qak many6))) then next s0 (out4++([(ofNat (wrap .u8 (Int.fdiv (qbi held5 s12 s14) (2 ^ (min (qak many6).toNat (IntKind.bits .i64))))).toNat)]:LU)) (bits .and .i64 (qbi held5 s12 s14) (wrap .i64 ((wrap .i64 ((1:Int)*2 ^ (min (qak many6).toNat (IntKind.bits .i64)))) - (1:Int)))) (qak many6) s12 s13 (wrap .i64 (s14+1)) else none else none else none else next s0 out4 (qbi held5 s12 s14) (wrap .i64 (many6+(6:Int))) s12 s13 (wrap .i64 (s14+1)) else none else k0 s0 out4 held5
def qfM (ret:LU→Int→OA) (k0:LU→LU→Int→OA):Nat→LU→LU→Int→Int→LU→Int→Int→OA
 | 0=>fun _ _ _ _ _ _ _=>none
 | n+1=>qdZ ret k0 (qfM ret k0 n) n
def qcX (_n:Nat) (s0:LU) (out4:LU) (held5:Int):OA :=
 bif ((tmod (s0.length:Int) (4:Int)) != (0:Int)) then
 qAe ([]:LU) (4:Int)
 else
 bif (held5 != (0:Int)) then
 qAe ([]:LU) (3:Int)
 else
 qAe out4 (0:Int)
def qte (n:Nat) (s0:LU):OA :=
 bif ((qrV s0)&&true) then
 qfM qAe (qcX n) n s0 ([]:LU) (0:Int) (0:Int) (z201 s0) ((z201 s0).length:Int) (0:Int)
 else none
def qRr (_n:Nat) (s0:LU):OA :=
 bif ((qsz s0)&&true) then
 bif (((z147 s0).2) != (0:Int)) then
 qAe ([]:LU) ((z147 s0).2)
 else
 bif ((qrW ((z147 s0).1))&&true) then
 qAe ((z148 ((z147 s0).1)).1) ((z148 ((z147 s0).1)).2)
 else none
 else none
def qRs (_n:Nat) (s0:LU):OA :=
 bif ((qEV s0)&&true) then
 qHP ((z84 s0).2)
 else none
def qRt (_n:Nat) (coding0:Int) (s1:LU):OA :=
 bif (coding0==(1:Int)) then
 bif ((quF s1 (76:Int))&&true) then
 qHP (z37 s1 (76:Int))
 else none
 else
 bif (coding0==(2:Int)) then
 bif ((qFm s1)&&true) then
 qHP (z38 s1)
 else none
 else
 bif (coding0==(3:Int)) then
 bif ((qEW s1)&&true) then
 qHP (z39 s1)
 else none
 else
 qHP (11:Int)
def qea (ret:Bool→OA) (k0:OA) (next:LU→UInt8→Int→OA) (_n:Nat) (s0:LU) (c1:UInt8) (i5:Int):OA :=
 bif (decide (i5 < (s0.length:Int))) then
 bif ((decide (0≤i5))&&(decide (i5 < s0.length))) then
 bif ((s0.getD i5.toNat (0:UInt8))==c1) then
 ret true
 else
 next s0 c1 (wrap .i64 (i5+1))
 else none
 else
 k0
def qho (ret:Bool→OA) (k0:OA):Nat→LU→UInt8→Int→OA
 | 0=>fun _ _ _=>none
 | n+1=>qea ret k0 (qho ret k0 n) n
def qlL (_n:Nat):OA :=
 qzQ false
def qob (n:Nat) (s0:LU) (c1:UInt8):OA :=
 qho qzQ (qlL n) n s0 c1 (0:Int)
def qRu (_n:Nat) (c0:UInt8) (kinds1:Int):OA :=
 qzQ ((bits .and .i64 (z188 c0) kinds1) != (0:Int))
def qfN (n0:Int):=(tmod (wrap .i64 ((tmod n0 (16:Int))+(16:Int))) (16:Int))
def qIw (_n:Nat) (n0:Int):OA :=
 bif (decide ((qfN n0) < (10:Int))) then qlE (ofNat (wrap .u8 (wrap .i64 ((48:Int)+(qfN n0)))).toNat) else qlE (ofNat (wrap .u8 (wrap .i64 ((wrap .i64 ((65:Int)+(qfN n0))) - (10:Int)))).toNat)
def qeb (ret:Int→Bool→OA) (k0:OA) (next:UInt8→Int→OA) (_n:Nat) (c0:UInt8) (n4:Int):OA :=
 bif (decide (n4 < (16:Int))) then
 bif ((qcm n4)&&true) then
 bif ((z189 n4)==c0) then
 ret n4 true
 else
 bif (decide ((10:Int)≤n4)) then
 bif ((qcm n4)&&true) then
 bif (((z189 n4)+(32:UInt8))==c0) then
 ret n4 true
 else
 next c0 (wrap .i64 (n4+1))
 else none
 else
 next c0 (wrap .i64 (n4+1))
 else none
 else
 k0
def qhp (ret:Int→Bool→OA) (k0:OA):Nat→UInt8→Int→OA
 | 0=>fun _ _=>none
 | n+1=>qeb ret k0 (qhp ret k0 n) n
def qlM (_n:Nat):OA :=
 qjf (0:Int) false
def qAy (n:Nat) (c0:UInt8):OA :=
 qhp qjf (qlM n) n c0 (0:Int)
def qIx (_n:Nat) (s0:LU) (at1:Int) (sign2:UInt8):OA :=
 bif (decide (at1 < (0:Int))) then
 qlF (0:UInt8) false
 else
 bif (decide ((wrap .i64 ((s0.length:Int) - (3:Int))) < at1)) then
 qlF (0:UInt8) false
 else
 bif ((decide (0≤at1))&&(decide (at1 < s0.length))) then
 bif ((s0.getD at1.toNat (0:UInt8)) != sign2) then
 qlF (0:UInt8) false
 else
 bif ((decide (0≤(wrap .i64 (at1+1))))&&(decide ((wrap .i64 (at1+1)) < s0.length))) then
 bif ((decide (0≤(wrap .i64 (at1+(2:Int)))))&&(decide ((wrap .i64 (at1+(2:Int))) < s0.length))) then
 bif (!((z202 (s0.getD (wrap .i64 (at1+1)).toNat (0:UInt8))).2)) then
 qlF (0:UInt8) false
 else
 bif (!((z202 (s0.getD (wrap .i64 (at1+(2:Int))).toNat (0:UInt8))).2)) then
 qlF (0:UInt8) false
 else
 qlF (ofNat (wrap .u8 (wrap .i64 ((wrap .i64 ((16:Int)*((z202 (s0.getD (wrap .i64 (at1+1)).toNat (0:UInt8))).1)))+((z202 (s0.getD (wrap .i64 (at1+(2:Int))).toNat (0:UInt8))).1)))).toNat) true
 else none
 else none
 else none
def qAz (s2:LU) (s3:Bool) (s4:Int):OA:=some (.tup [(da s2),(dg s3),(dc s4)])
def qbj (l0:LU):=(wrap .i64 ((l0.length:Int) - (1:Int)))
def qlN (k0:LU→OA) (next:LU→OA) (_n:Nat) (l0:LU):OA :=
 bif (decide ((0:Int) < (l0.length:Int))) then bif ((decide (0≤(qbj l0)))&&(decide ((qbj l0) < l0.length))) then bif (z136 (l0.getD (qbj l0).toNat (0:UInt8)) (2:Int)) then bif (((decide (0≤((0:Nat):Int)))&&(decide (((0:Nat):Int)≤(qbj l0))))&&(decide ((qbj l0)≤(l0.length:Int)))) then next (drop ((0:Nat):Int).toNat (take (qbj l0).toNat l0)) else none else k0 l0 else none else k0 l0
def qqN (k0:LU→OA):Nat→LU→OA
 | 0=>fun _=>none
 | n+1=>qlN k0 (qqN k0 n) n
def qbL (l0:LU) (i8:Int):=([(l0.getD i8.toNat (0:UInt8))]:LU)
def qgE (k2:Bool→LU→Int→OA) (next:LU→Bool→LU→Int→Int→OA) (_n:Nat) (l0:LU) (soft5:Bool) (out6:LU) (strange7:Int) (i8:Int):OA :=
 bif (decide (i8 < (l0.length:Int))) then bif ((qiL l0 i8 (61:UInt8))&&true) then bif ((z149 l0 i8 (61:UInt8)).2) then bif (decide (out6.length+length ([((z149 l0 i8 (61:UInt8)).1)]:LU)≤room)) then next l0 soft5 (out6++([((z149 l0 i8 (61:UInt8)).1)]:LU)) strange7 (wrap .i64 ((wrap .i64 (i8+(2:Int)))+1)) else none else bif ((decide (0≤i8))&&(decide (i8 < l0.length))) then bif ((l0.getD i8.toNat (0:UInt8))==(61:UInt8)) then bif ((decide (0≤i8))&&(decide (i8 < l0.length))) then bif (decide (out6.length+length (qbL l0 i8)≤room)) then next l0 soft5 (out6++(qbL l0 i8)) (wrap .i64 (strange7+1)) (wrap .i64 (i8+1)) else none else none else bif ((decide (0≤i8))&&(decide (i8 < l0.length))) then bif (decide (out6.length+length (qbL l0 i8)≤room)) then next l0 soft5 (out6++(qbL l0 i8)) strange7 (wrap .i64 (i8+1)) else none else none else none else none else k2 soft5 out6 strange7
def qlO (k2:Bool→LU→Int→OA):Nat→LU→Bool→LU→Int→Int→OA
 | 0=>fun _ _ _ _ _=>none
 | n+1=>qgE k2 (qlO k2 n) n
def qgF (_n:Nat) (soft5:Bool) (out6:LU) (strange7:Int):OA :=
 qAz out6 soft5 strange7
def qaL (l0:LU):=(wrap .i64 ((l0.length:Int) - (1:Int)))
def qcH (l0:LU):=((l0.getD (qaL l0).toNat (0:UInt8))==(61:UInt8))
def qgG (n:Nat) (l0:LU):OA :=
 bif (decide ((0:Int) < (l0.length:Int))) then bif ((decide (0≤(qaL l0)))&&(decide ((qaL l0) < l0.length))) then bif (qcH l0) then bif (((decide (0≤((0:Nat):Int)))&&(decide (((0:Nat):Int)≤(qaL l0))))&&(decide ((qaL l0)≤(l0.length:Int)))) then qlO (qgF n) n (drop ((0:Nat):Int).toNat (take (qaL l0).toNat l0)) (qcH l0) ([]:LU) (0:Int) (0:Int) else none else qlO (qgF n) n l0 (qcH l0) ([]:LU) (0:Int) (0:Int) else none else qlO (qgF n) n l0 false ([]:LU) (0:Int) (0:Int)
def qFA (n:Nat) (l0:LU):OA :=
 qqN (qgG n) n l0
def qcI (s0:LU) (i7:Int):=([(s0.getD i7.toNat (0:UInt8))]:LU)
def qg (line5:LU) (strange6:Int):=(wrap .i64 (strange6+((z85 line5).2.2)))
def qL (s0:LU) (i7:Int):=((s0.getD (wrap .i64 (i7+1)).toNat (0:UInt8))==(10:UInt8))
def qE (s0:LU) (i7:Int):=((decide (0≤i7))&&(decide (i7 < s0.length)))
def qC (s0:LU) (out4:LU) (line5:LU) (i7:Int):=((out4++((z85 line5).1))++(qcI s0 i7))
def qaf (s0:LU) (out4:LU) (line5:LU) (i7:Int):=(decide (length (out4++((z85 line5).1))+length (qcI s0 i7)≤room))
def qag (i7:Int):=(wrap .i64 ((wrap .i64 (i7+1))+1))
def qec (s0:LU) (i7:Int):=((decide (0≤(wrap .i64 (i7+1))))&&(decide ((wrap .i64 (i7+1)) < s0.length)))
def qbk (s0:LU) (out4:LU) (line5:LU) (i7:Int):=((qC s0 out4 line5 i7)++([(10:UInt8)]:LU))
def qed (s0:LU) (i7:Int):=(decide ((wrap .i64 (i7+1)) < (s0.length:Int)))
def qlP (k0:LU→Int→OA) (next:LU→LU→LU→Int→Int→OA) (_n:Nat) (s0:LU) (out4:LU) (line5:LU) (strange6:Int) (i7:Int):OA :=
 bif (decide (i7≤(s0.length:Int))) then bif (decide (i7 < (s0.length:Int))) then bif (qE s0 i7) then bif ((s0.getD i7.toNat (0:UInt8)) != (13:UInt8)) then bif (qE s0 i7) then bif ((s0.getD i7.toNat (0:UInt8)) != (10:UInt8)) then bif (qE s0 i7) then bif (decide (line5.length+length (qcI s0 i7)≤room)) then next s0 out4 (line5++(qcI s0 i7)) strange6 (wrap .i64 (i7+1)) else none else none else bif ((quP line5)&&true) then bif (decide (out4.length+length ((z85 line5).1)≤room)) then bif (i7==(s0.length:Int)) then k0 (out4++((z85 line5).1)) (qg line5 strange6) else bif (qE s0 i7) then bif ((s0.getD i7.toNat (0:UInt8))==(13:UInt8)) then bif (qed s0 i7) then bif (qec s0 i7) then bif (!((z85 line5).2.1)) then bif (qE s0 i7) then bif (qaf s0 out4 line5 i7) then bif (qL s0 i7) then bif (decide (length (qC s0 out4 line5 i7)+length ([(10:UInt8)]:LU)≤room)) then bif (qL s0 i7) then next s0 (qbk s0 out4 line5 i7) ([]:LU) (qg line5 strange6) (qag i7) else next s0 (qbk s0 out4 line5 i7) ([]:LU) (qg line5 strange6) (wrap .i64 (i7+1)) else none else bif (qL s0 i7) then next s0 (qC s0 out4 line5 i7) ([]:LU) (qg line5 strange6) (qag i7) else next s0 (qC s0 out4 line5 i7) ([]:LU) (qg line5 strange6) (wrap .i64 (i7+1)) else none else none else bif (qL s0 i7) then next s0 (out4++((z85 line5).1)) ([]:LU) (qg line5 strange6) (qag i7) else next s0 (out4++((z85 line5).1)) ([]:LU) (qg line5 strange6) (wrap .i64 (i7+1)) else none else bif (!((z85 line5).2.1)) then bif (qE s0 i7) then bif (qaf s0 out4 line5 i7) then next s0 (qC s0 out4 line5 i7) ([]:LU) (qg line5 strange6) (wrap .i64 (i7+1)) else none else none else next s0 (out4++((z85 line5).1)) ([]:LU) (qg line5 strange6) (wrap .i64 (i7+1)) else bif (!((z85 line5).2.1)) then bif (qE s0 i7) then bif (qaf s0 out4 line5 i7) then next s0 (qC s0 out4 line5 i7) ([]:LU) (qg line5 strange6) (wrap .i64 (i7+1)) else none else none else next s0 (out4++((z85 line5).1)) ([]:LU) (qg line5 strange6) (wrap .i64 (i7+1)) else none else none else none else none else bif ((quP line5)&&true) then bif (decide (out4.length+length ((z85 line5).1)≤room)) then bif (i7==(s0.length:Int)) then k0 (out4++((z85 line5).1)) (qg line5 strange6) else bif (qE s0 i7) then bif ((s0.getD i7.toNat (0:UInt8))==(13:UInt8)) then bif (qed s0 i7) then bif (qec s0 i7) then bif (!((z85 line5).2.1)) then bif (qE s0 i7) then bif (qaf s0 out4 line5 i7) then bif (qL s0 i7) then bif (decide (length (qC s0 out4 line5 i7)+length ([(10:UInt8)]:LU)≤room)) then bif (qL s0 i7) then next s0 (qbk s0 out4 line5 i7) ([]:LU) (qg line5 strange6) (qag i7) else next s0 (qbk s0 out4 line5 i7) ([]:LU) (qg line5 strange6) (wrap .i64 (i7+1)) else none else bif (qL s0 i7) then next s0 (qC s0 out4 line5 i7) ([]:LU) (qg line5 strange6) (qag i7) else next s0 (qC s0 out4 line5 i7) ([]:LU) (qg line5 strange6) (wrap .i64 (i7+1)) else none else none else bif (qL s0 i7) then next s0 (out4++((z85 line5).1)) ([]:LU) (qg line5 strange6) (qag i7) else next s0 (out4++((z85 line5).1)) ([]:LU) (qg line5 strange6) (wrap .i64 (i7+1)) else none else bif (!((z85 line5).2.1)) then bif (qE s0 i7) then bif (qaf s0 out4 line5 i7) then next s0 (qC s0 out4 line5 i7) ([]:LU) (qg line5 strange6) (wrap .i64 (i7+1)) else none else none else next s0 (out4++((z85 line5).1)) ([]:LU) (qg line5 strange6) (wrap .i64 (i7+1)) else bif (!((z85 line5).2.1)) then bif (qE s0 i7) then bif (qaf s0 out4 line5 i7) then next s0 (qC s0 out4 line5 i7) ([]:LU) (qg line5 strange6) (wrap .i64 (i7+1)) else none else none else next s0 (out4++((z85 line5).1)) ([]:LU) (qg line5 strange6) (wrap .i64 (i7+1)) else none else none else none else none else bif ((quP line5)&&true) then bif (decide (out4.length+length ((z85 line5).1)≤room)) then bif (i7==(s0.length:Int)) then k0 (out4++((z85 line5).1)) (qg line5 strange6) else bif (qE s0 i7) then bif ((s0.getD i7.toNat (0:UInt8))==(13:UInt8)) then bif (qed s0 i7) then bif (qec s0 i7) then bif (!((z85 line5).2.1)) then bif (qE s0 i7) then bif (qaf s0 out4 line5 i7) then bif (qL s0 i7) then bif (decide (length (qC s0 out4 line5 i7)+length ([(10:UInt8)]:LU)≤room)) then bif (qL s0 i7) then next s0 (qbk s0 out4 line5 i7) ([]:LU) (qg line5 strange6) (qag i7) else next s0 (qbk s0 out4 line5 i7) ([]:LU) (qg line5 strange6) (wrap .i64 (i7+1)) else none else bif (qL s0 i7) then next s0 (qC s0 out4 line5 i7) ([]:LU) (qg line5 strange6) (qag i7) else next s0 (qC s0 out4 line5 i7) ([]:LU) (qg line5 strange6) (wrap .i64 (i7+1)) else none else none else bif (qL s0 i7) then next s0 (out4++((z85 line5).1)) ([]:LU) (qg line5 strange6) (qag i7) else next s0 (out4++((z85 line5).1)) ([]:LU) (qg line5 strange6) (wrap .i64 (i7+1)) else none else bif (!((z85 line5).2.1)) then bif (qE s0 i7) then bif (qaf s0 out4 line5 i7) then next s0 (qC s0 out4 line5 i7) ([]:LU) (qg line5 strange6) (wrap .i64 (i7+1)) else none else none else next s0 (out4++((z85 line5).1)) ([]:LU) (qg line5 strange6) (wrap .i64 (i7+1)) else bif (!((z85 line5).2.1)) then bif (qE s0 i7) then bif (qaf s0 out4 line5 i7) then next s0 (qC s0 out4 line5 i7) ([]:LU) (qg line5 strange6) (wrap .i64 (i7+1)) else none else none else next s0 (out4++((z85 line5).1)) ([]:LU) (qg line5 strange6) (wrap .i64 (i7+1)) else none else none else none else k0 out4 strange6
def qjV (k0:LU→Int→OA):Nat→LU→LU→LU→Int→Int→OA
 | 0=>fun _ _ _ _ _=>none
 | n+1=>qlP k0 (qjV k0 n) n
def qqO (_n:Nat) (out4:LU) (strange6:Int):OA :=
 qAe out4 strange6
def qFB (n:Nat) (s0:LU):OA :=
 qjV (qqO n) n s0 ([]:LU) ([]:LU) (0:Int) (0:Int)
def qby (n0:Int):=(tmod (wrap .i64 ((tmod n0 (64:Int))+(64:Int))) (64:Int))
def qIz (_n:Nat) (n0:Int):OA :=
 bif (decide ((qby n0) < (26:Int))) then qlE (ofNat (wrap .u8 (wrap .i64 ((65:Int)+(qby n0)))).toNat) else bif (decide ((qby n0) < (52:Int))) then qlE (ofNat (wrap .u8 (wrap .i64 ((wrap .i64 ((97:Int)+(qby n0))) - (26:Int)))).toNat) else bif (decide ((qby n0) < (62:Int))) then qlE (ofNat (wrap .u8 (wrap .i64 ((wrap .i64 ((48:Int)+(qby n0))) - (52:Int)))).toNat) else bif ((qby n0)==(62:Int)) then qlE (43:UInt8) else qlE (47:UInt8)
def qee (ret:Int→Bool→OA) (k0:OA) (next:UInt8→Int→OA) (_n:Nat) (c0:UInt8) (n4:Int):OA :=
 bif (decide (n4 < (64:Int))) then
 bif ((z191 n4)==c0) then
 ret n4 true
 else
 next c0 (wrap .i64 (n4+1))
 else
 k0
def qkx (ret:Int→Bool→OA) (k0:OA):Nat→UInt8→Int→OA
 | 0=>fun _ _=>none
 | n+1=>qee ret k0 (qkx ret k0 n) n
def qlQ (_n:Nat):OA :=
 qjf (0:Int) false
def qtf (n:Nat) (c0:UInt8):OA :=
 qkx qjf (qlQ n) n c0 (0:Int)
def qgH (k0:LU→Int→OA) (next:LU→LU→Int→Int→OA) (_n:Nat) (s0:LU) (out4:LU) (strange5:Int) (i6:Int):OA :=
 bif (decide (i6 < (s0.length:Int))) then
 bif ((decide (0≤i6))&&(decide (i6 < s0.length))) then
 bif ((s0.getD i6.toNat (0:UInt8)) != (61:UInt8)) then
 bif ((decide (0≤i6))&&(decide (i6 < s0.length))) then
 bif ((z150 (s0.getD i6.toNat (0:UInt8))).2) then
 bif ((decide (0≤i6))&&(decide (i6 < s0.length))) then
 bif (decide (out4.length+length ([(s0.getD i6.toNat (0:UInt8))]:LU)≤room)) then
 next s0 (out4++([(s0.getD i6.toNat (0:UInt8))]:LU)) strange5 (wrap .i64 (i6+1))
 else none
 else none
 else
 next s0 out4 (wrap .i64 (strange5+1)) (wrap .i64 (i6+1))
 else none
 else
 k0 out4 strange5
 else none
 else
 k0 out4 strange5
def quX (k0:LU→Int→OA):Nat→LU→LU→Int→Int→OA
 | 0=>fun _ _ _ _=>none
 | n+1=>qgH k0 (quX k0 n) n
def qqP (_n:Nat) (out4:LU) (strange5:Int):OA :=
 qAe out4 strange5
def qLK (n:Nat) (s0:LU):OA :=
 quX (qqP n) n s0 ([]:LU) (0:Int) (0:Int)
def qdF (s2:LI) (s3:Bool):OA:=some (.tup [(.dat (.sl (.int .i64)) s2 none),(dg s3)])
def qlR (k2:LU→LI→Int→OA) (next:LU→LI→Int→Int→Int→OA) (_n:Nat) (s0:LU) (out4:LI) (i5:Int) (n6:Int) (k8:Int):OA :=
 bif (decide (0≤k8)) then
 bif (decide (0≤k8)) then
 bif (decide (out4.length+length ([(tmod (Int.fdiv n6 (2 ^ (min k8.toNat (IntKind.bits .i64)))) (2:Int))]:LI)≤room)) then
 next s0 (out4++([(tmod (Int.fdiv n6 (2 ^ (min k8.toNat (IntKind.bits .i64)))) (2:Int))]:LI)) i5 n6 (wrap .i64 (k8 - (1:Int)))
 else none
 else none
 else
 k2 s0 out4 i5
def qlS (k2:LU→LI→Int→OA):Nat→LU→LI→Int→Int→Int→OA
 | 0=>fun _ _ _ _ _=>none
 | n+1=>qlR k2 (qlS k2 n) n
def qAA (_ret:LI→Bool→OA) (_k0:LI→OA) (next:LU→LI→Int→OA) (_n:Nat) (s0:LU) (out4:LI) (i5:Int):OA :=
 next s0 out4 (wrap .i64 (i5+1))
def qeR (ret:LI→Bool→OA) (k0:LI→OA) (next:LU→LI→Int→OA) (n:Nat) (s0:LU) (out4:LI) (i5:Int):OA :=
 bif (decide (i5 < (s0.length:Int))) then
 bif ((decide (0≤i5))&&(decide (i5 < s0.length))) then
 bif (!((z150 (s0.getD i5.toNat (0:UInt8))).2)) then
 ret ([]:LI) false
 else
 qlS (qAA ret k0 next n) n s0 out4 i5 ((z150 (s0.getD i5.toNat (0:UInt8))).1) (5:Int)
 else none
 else
 k0 out4
def qoc (ret:LI→Bool→OA) (k0:LI→OA):Nat→LU→LI→Int→OA
 | 0=>fun _ _ _=>none
 | n+1=>qeR ret k0 (qoc ret k0 n) n
def qju (_n:Nat) (out4:LI):OA :=
 qdF out4 true
def qLL (n:Nat) (s0:LU):OA :=
 qoc qdF (qju n) n s0 ([]:LI) (0:Int)
def qef (k0:Int→OA) (next:LI→Int→Int→OA) (_n:Nat) (l0:LI) (n3:Int) (i4:Int):OA :=
 bif (decide (i4 < (l0.length:Int))) then
 bif ((decide (0≤i4))&&(decide (i4 < l0.length))) then
 next l0 (wrap .i64 ((wrap .i64 ((2:Int)*n3))+(l0.getD i4.toNat 0))) (wrap .i64 (i4+1))
 else none
 else
 k0 n3
def qky (k0:Int→OA):Nat→LI→Int→Int→OA
 | 0=>fun _ _ _=>none
 | n+1=>qef k0 (qky k0 n) n
def qlT (_n:Nat) (n3:Int):OA :=
 qHP n3
def qtg (n:Nat) (l0:LI):OA :=
 qky (qlT n) n l0 (0:Int) (0:Int)
def qcJ (l0:LI) (i5:Int):=(drop i5.toNat (take (wrap .i64 (i5+(8:Int))).toNat l0))
def qgI (k0:LI→LU→Int→OA) (next:LI→LU→Int→OA) (_n:Nat) (l0:LI) (out4:LU) (i5:Int):OA :=
 bif (decide ((wrap .i64 (i5+(8:Int)))≤(l0.length:Int))) then bif (((decide (0≤i5))&&(decide (i5≤(wrap .i64 (i5+(8:Int))))))&&(decide ((wrap .i64 (i5+(8:Int)))≤(l0.length:Int)))) then bif ((qfy (qcJ l0 i5))&&true) then bif (decide (out4.length+length ([(ofNat (wrap .u8 (z151 (qcJ l0 i5))).toNat)]:LU)≤room)) then next l0 (out4++([(ofNat (wrap .u8 (z151 (qcJ l0 i5))).toNat)]:LU)) (wrap .i64 (i5+(8:Int))) else none else none else none else k0 l0 out4 i5
def quY (k0:LI→LU→Int→OA):Nat→LI→LU→Int→OA
 | 0=>fun _ _ _=>none
 | n+1=>qgI k0 (quY k0 n) n
def qlU (_n:Nat) (l0:LI) (out4:LU) (i5:Int):OA :=
 bif (((decide (0≤i5))&&(decide (i5≤(l0.length:Int))))&&(decide ((l0.length:Int)≤(l0.length:Int)))) then
 bif ((qfy (drop i5.toNat (take (l0.length:Int).toNat l0)))&&true) then
 qqA out4 ((z151 (drop i5.toNat (take (l0.length:Int).toNat l0)))==(0:Int))
 else none
 else none
def qLM (n:Nat) (l0:LI):OA :=
 quY (qlU n) n l0 ([]:LU) (0:Int)
def qRv (_n:Nat) (s0:LU):OA :=
 bif ((qCE s0)&&true) then
 bif ((qum ((z86 s0).1))&&true) then
 bif ((qun ((z87 ((z86 s0).1)).1))&&true) then
 qAe ((z88 ((z87 ((z86 s0).1)).1)).1) (tmod (((z87 ((z86 s0).1)).1).length:Int) (8:Int))
 else none
 else none
 else none
def qIB (_n:Nat) (c0:UInt8):OA :=
 bif (decide (c0 < (128:UInt8))) then
 qHP (1:Int)
 else
 bif (decide ((194:UInt8)≤c0)) then
 bif (decide (c0≤(223:UInt8))) then
 qHP (2:Int)
 else
 bif (decide ((224:UInt8)≤c0)) then
 bif (decide (c0≤(239:UInt8))) then
 qHP (3:Int)
 else
 bif (decide ((240:UInt8)≤c0)) then
 bif (decide (c0≤(244:UInt8))) then
 qHP (4:Int)
 else
 qHP (0:Int)
 else
 qHP (0:Int)
 else
 bif (decide ((240:UInt8)≤c0)) then
 bif (decide (c0≤(244:UInt8))) then
 qHP (4:Int)
 else
 qHP (0:Int)
 else
 qHP (0:Int)
 else
 bif (decide ((224:UInt8)≤c0)) then
 bif (decide (c0≤(239:UInt8))) then
 qHP (3:Int)
 else
 bif (decide ((240:UInt8)≤c0)) then
 bif (decide (c0≤(244:UInt8))) then
 qHP (4:Int)
 else
 qHP (0:Int)
 else
 qHP (0:Int)
 else
 bif (decide ((240:UInt8)≤c0)) then
 bif (decide (c0≤(244:UInt8))) then
 qHP (4:Int)
 else
 qHP (0:Int)
 else
 qHP (0:Int)
def qgJ (s2:UInt8) (s3:UInt8):OA:=some (.tup [(dm s2),(dm s3)])
def qIC (_n:Nat) (c0:UInt8):OA :=
 bif (c0==(224:UInt8)) then
 qgJ (160:UInt8) (191:UInt8)
 else
 bif (c0==(237:UInt8)) then
 qgJ (128:UInt8) (159:UInt8)
 else
 bif (c0==(240:UInt8)) then
 qgJ (144:UInt8) (191:UInt8)
 else
 bif (c0==(244:UInt8)) then
 qgJ (128:UInt8) (143:UInt8)
 else
 qgJ (128:UInt8) (191:UInt8)
def qbl (s0:LU) (n3:Int):=((decide (0≤n3))&&(decide (n3 < s0.length)))
def qeg (ret:Int→OA) (k0:Int→OA) (next:LU→Int→OA) (_n:Nat) (s0:LU) (n3:Int):OA :=
 bif ((decide (0≤(0:Int)))&&(decide ((0:Int) < s0.length))) then bif (decide (n3 < (z204 (s0.getD (0:Int).toNat (0:UInt8))))) then bif (decide (n3 < (s0.length:Int))) then bif (n3==(1:Int)) then bif ((decide (0≤(0:Int)))&&(decide ((0:Int) < s0.length))) then bif (qbl s0 n3) then bif (decide ((s0.getD n3.toNat (0:UInt8)) < ((z232 (s0.getD (0:Int).toNat (0:UInt8))).1))) then ret n3 else bif (qbl s0 n3) then bif (decide (((z232 (s0.getD (0:Int).toNat (0:UInt8))).2) < (s0.getD n3.toNat (0:UInt8)))) then ret n3 else next s0 (wrap .i64 (n3+1)) else none else none else none else bif (qbl s0 n3) then bif (decide ((s0.getD n3.toNat (0:UInt8)) < (128:UInt8))) then ret n3 else bif (qbl s0 n3) then bif (decide ((191:UInt8) < (s0.getD n3.toNat (0:UInt8)))) then ret n3 else next s0 (wrap .i64 (n3+1)) else none else none else k0 n3 else k0 n3 else none
def qjv (ret:Int→OA) (k0:Int→OA):Nat→LU→Int→OA
 | 0=>fun _ _=>none
 | n+1=>qeg ret k0 (qjv ret k0 n) n
def qhX (_n:Nat) (n3:Int):OA :=
 qHP n3
def qth (n:Nat) (s0:LU):OA :=
 bif ((s0.length:Int)==(0:Int)) then
 qHP (0:Int)
 else
 bif ((decide (0≤(0:Int)))&&(decide ((0:Int) < s0.length))) then
 bif ((z204 (s0.getD (0:Int).toNat (0:UInt8)))==(0:Int)) then
 qHP (0:Int)
 else
 qjv qHP (qhX n) n s0 (1:Int)
 else none
def qeh (k0:Int→Int→OA) (next:LU→Int→Int→Int→OA) (_n:Nat) (s0:LU) (n5:Int) (c7:Int) (i8:Int):OA :=
 bif (decide (i8 < n5)) then
 bif ((decide (0≤i8))&&(decide (i8 < s0.length))) then
 next s0 n5 (wrap .i64 ((wrap .i64 ((wrap .i64 ((64:Int)*c7))+(wrap .i64 ((toNat (s0.getD i8.toNat (0:UInt8)):Nat):Int)))) - (128:Int))) (wrap .i64 (i8+1))
 else none
 else
 k0 n5 c7
def qkz (k0:Int→Int→OA):Nat→LU→Int→Int→Int→OA
 | 0=>fun _ _ _ _=>none
 | n+1=>qeh k0 (qkz k0 n) n
def qlV (_n:Nat) (n5:Int) (c7:Int):OA :=
 qcT (wrap .i32 c7) n5 (0:Int)
def qti (n:Nat) (s0:LU):OA :=
 bif ((s0.length:Int)==(0:Int)) then
 qcT (0:Int) (0:Int) (4:Int)
 else
 bif ((qrS s0)&&true) then
 bif (decide ((0:Int) < (z203 s0))) then
 bif ((decide (0≤(0:Int)))&&(decide ((0:Int) < s0.length))) then
 bif ((z203 s0)==(z204 (s0.getD (0:Int).toNat (0:UInt8)))) then
 bif ((decide (0≤(0:Int)))&&(decide ((0:Int) < s0.length))) then
 bif ((decide (0≤(z203 s0)))&&(decide ((z203 s0) < ([(0:Int),(0:Int),(192:Int),(224:Int),(240:Int)]:LI).length))) then
 qkz (qlV n) n s0 (z203 s0) (wrap .i64 ((wrap .i64 ((toNat (s0.getD (0:Int).toNat (0:UInt8)):Nat):Int)) - (([(0:Int),(0:Int),(192:Int),(224:Int),(240:Int)]:LI).getD (z203 s0).toNat 0))) (1:Int)
 else none
 else none
 else
 bif ((z203 s0)==(s0.length:Int)) then
 qcT (0:Int) (z203 s0) (4:Int)
 else
 qcT (0:Int) (bif (decide ((1:Int) > (z203 s0))) then (1:Int) else (z203 s0)) (3:Int)
 else none
 else
 bif ((z203 s0)==(s0.length:Int)) then
 qcT (0:Int) (z203 s0) (4:Int)
 else
 qcT (0:Int) (bif (decide ((1:Int) > (z203 s0))) then (1:Int) else (z203 s0)) (3:Int)
 else none
def qod (s2:LI) (s3:Int) (s4:Int):OA:=some (.tup [(.dat (.sl (.int .i32)) s2 none),(dc s3),(dc s4)])
def qbm (s0:LU) (at8:Int):=(z152 (drop at8.toNat (take (s0.length:Int).toNat s0)))
def qei (s0:LU) (at8:Int):=(wrap .i64 (at8+(bif (decide ((1:Int) > ((qbm s0 at8).2.1))) then (1:Int) else ((qbm s0 at8).2.1))))
def qlW (k0:LI→Int→Int→OA) (next:LU→LI→Int→Int→Int→OA) (_n:Nat) (s0:LU) (out5:LI) (broken6:Int) (first7:Int) (at8:Int):OA :=
 bif (decide (at8 < (s0.length:Int))) then bif (((decide (0≤at8))&&(decide (at8≤(s0.length:Int))))&&(decide ((s0.length:Int)≤(s0.length:Int)))) then bif ((qrT (drop at8.toNat (take (s0.length:Int).toNat s0)))&&true) then bif (((qbm s0 at8).2.2) != (0:Int)) then bif (first7==(0:Int)) then bif (decide (out5.length+length ([(65533:Int)]:LI)≤room)) then next s0 (out5++([(65533:Int)]:LI)) (wrap .i64 (broken6+1)) ((qbm s0 at8).2.2) (qei s0 at8) else none else bif (decide (out5.length+length ([(65533:Int)]:LI)≤room)) then next s0 (out5++([(65533:Int)]:LI)) (wrap .i64 (broken6+1)) first7 (qei s0 at8) else none else bif (decide (out5.length+length ([((qbm s0 at8).1)]:LI)≤room)) then next s0 (out5++([((qbm s0 at8).1)]:LI)) broken6 first7 (qei s0 at8) else none else none else none else k0 out5 broken6 first7
def qqQ (k0:LI→Int→Int→OA):Nat→LU→LI→Int→Int→Int→OA
 | 0=>fun _ _ _ _ _=>none
 | n+1=>qlW k0 (qqQ k0 n) n
def qlX (_n:Nat) (out5:LI) (broken6:Int) (first7:Int):OA :=
 qod out5 broken6 first7
def qLN (n:Nat) (s0:LU):OA :=
 qqQ (qlX n) n s0 ([]:LI) (0:Int) (0:Int) (0:Int)
def qRw (_n:Nat) (x0:UInt8):OA :=
 bif (x0==(164:UInt8)) then
 qqE (8364:Int)
 else
 bif (x0==(166:UInt8)) then
 qqE (352:Int)
 else
 bif (x0==(168:UInt8)) then
 qqE (353:Int)
 else
 bif (x0==(180:UInt8)) then
 qqE (381:Int)
 else
 bif (x0==(184:UInt8)) then
 qqE (382:Int)
 else
 bif (x0==(188:UInt8)) then
 qqE (338:Int)
 else
 bif (x0==(189:UInt8)) then
 qqE (339:Int)
 else
 bif (x0==(190:UInt8)) then
 qqE (376:Int)
 else
 qqE (wrap .i32 ((toNat x0:Nat):Int))
def qlY:=([(8364:Int),(65533:Int),(8218:Int),(402:Int),(8222:Int),(8230:Int),(8224:Int),(8225:Int),(710:Int),(8240:Int),(352:Int),(8249:Int),(338:Int),(65533:Int),(381:Int),(65533:Int),(65533:Int),(8216:Int),(8217:Int),(8220:Int),(8221:Int),(8226:Int),(8211:Int),(8212:Int),(732:Int),(8482:Int),(353:Int),(8250:Int),(339:Int),(65533:Int),(382:Int),(376:Int)]:LI)
def qRx (_n:Nat) (x0:UInt8):OA :=
 bif (decide (x0 < (128:UInt8))) then qqE (wrap .i32 ((toNat x0:Nat):Int)) else bif (decide ((159:UInt8) < x0)) then qqE (wrap .i32 ((toNat x0:Nat):Int)) else bif ((decide (0≤((toNat (x0 - (128:UInt8)):Nat):Int)))&&(decide (((toNat (x0 - (128:UInt8)):Nat):Int) < (qlY).length))) then qqE ((qlY).getD ((toNat (x0 - (128:UInt8)):Nat):Int).toNat 0) else none
def qaq (s1:LU) (i9:Int):=((decide (0≤i9))&&(decide (i9 < s1.length)))
def qR (s1:LU) (i9:Int):=(s1.getD i9.toNat (0:UInt8))
def qbM (s1:LU) (i9:Int):=([(wrap .i32 ((toNat (qR s1 i9):Nat):Int))]:LI)
def qgK (k0:LI→OA) (next:Int→LU→LI→Int→OA) (_n:Nat) (charset0:Int) (s1:LU) (out8:LI) (i9:Int):OA :=
 bif (decide (i9 < (s1.length:Int))) then bif (charset0==(1:Int)) then bif (qaq s1 i9) then bif (decide ((127:UInt8) < (qR s1 i9))) then bif (decide (out8.length+length ([(65533:Int)]:LI)≤room)) then next charset0 s1 (out8++([(65533:Int)]:LI)) (wrap .i64 (i9+1)) else none else bif (charset0==(3:Int)) then bif (qaq s1 i9) then bif (decide (out8.length+length ([(z90 (qR s1 i9))]:LI)≤room)) then next charset0 s1 (out8++([(z90 (qR s1 i9))]:LI)) (wrap .i64 (i9+1)) else none else none else bif (charset0==(4:Int)) then bif (qaq s1 i9) then bif (decide (out8.length+length ([(z91 (qR s1 i9))]:LI)≤room)) then next charset0 s1 (out8++([(z91 (qR s1 i9))]:LI)) (wrap .i64 (i9+1)) else none else none else bif (qaq s1 i9) then bif (decide (out8.length+length (qbM s1 i9)≤room)) then next charset0 s1 (out8++(qbM s1 i9)) (wrap .i64 (i9+1)) else none else none else none else bif (charset0==(3:Int)) then bif (qaq s1 i9) then bif (decide (out8.length+length ([(z90 (qR s1 i9))]:LI)≤room)) then next charset0 s1 (out8++([(z90 (qR s1 i9))]:LI)) (wrap .i64 (i9+1)) else none else none else bif (charset0==(4:Int)) then bif (qaq s1 i9) then bif (decide (out8.length+length ([(z91 (qR s1 i9))]:LI)≤room)) then next charset0 s1 (out8++([(z91 (qR s1 i9))]:LI)) (wrap .i64 (i9+1)) else none else none else bif (qaq s1 i9) then bif (decide (out8.length+length (qbM s1 i9)≤room)) then next charset0 s1 (out8++(qbM s1 i9)) (wrap .i64 (i9+1)) else none else none else k0 out8
def quZ (k0:LI→OA):Nat→Int→LU→LI→Int→OA
 | 0=>fun _ _ _ _=>none
 | n+1=>qgK k0 (quZ k0 n) n
def qlZ (_n:Nat) (out8:LI):OA :=
 qAk out8
def qFC (n:Nat) (charset0:Int) (s1:LU):OA :=
 bif (charset0==(5:Int)) then
 bif ((qCy s1)&&true) then
 qAk ((z89 s1).1)
 else none
 else
 quZ (qlZ n) n charset0 s1 ([]:LI) (0:Int)
def qRy (_n:Nat) (coding0:Int) (charset1:Int) (s2:LU):OA :=
 bif (coding0==(2:Int)) then
 bif ((qFq s2)&&true) then
 bif ((qne charset1 ((z40 s2).1))&&true) then
 qAk (z42 charset1 ((z40 s2).1))
 else none
 else none
 else
 bif (coding0==(3:Int)) then
 bif ((qCF s2)&&true) then
 bif ((qne charset1 ((z41 s2).1))&&true) then
 qAk (z42 charset1 ((z41 s2).1))
 else none
 else none
 else
 bif ((qne charset1 s2)&&true) then
 qAk (z42 charset1 s2)
 else none
def qgL (k0:LU→OA) (next:LU→Int→Int→OA) (_n:Nat) (out3:LU) (s9:Int) (s10:Int):OA :=
 bif (decide (s10 < s9)) then
 bif ((decide (0≤s10))&&(decide (s10 < out3.length))) then
 bif ((decide (0≤s10))&&(decide (s10 < out3.length))) then
 next (set out3 s10.toNat (z154 (out3.getD s10.toNat (0:UInt8)))) s9 (wrap .i64 (s10+1))
 else none
 else none
 else
 k0 out3
def qof (k0:LU→OA):Nat→LU→Int→Int→OA
 | 0=>fun _ _ _=>none
 | n+1=>qgL k0 (qof k0 n) n
def qqR (_n:Nat) (out3:LU):OA :=
 qjp out3
def qFD (n:Nat) (s0:LU):OA :=
 bif ((qev s0)&&true) then
 qof (qqR n) n (z153 s0) ((z153 s0).length:Int) (0:Int)
 else none
def qtl (k0:LU→OA) (next:LU→UInt8→OA) (_n:Nat) (s0:LU) (c1:UInt8):OA :=
 bif (decide ((0:Int) < (s0.length:Int))) then
 bif ((decide (0≤(0:Int)))&&(decide ((0:Int) < s0.length))) then
 bif ((s0.getD (0:Int).toNat (0:UInt8))==c1) then
 bif (((decide (0≤(1:Int)))&&(decide ((1:Int)≤(s0.length:Int))))&&(decide ((s0.length:Int)≤(s0.length:Int)))) then
 next (drop (1:Int).toNat (take (s0.length:Int).toNat s0)) c1
 else none
 else
 k0 s0
 else none
 else
 k0 s0
def qog (k0:LU→OA):Nat→LU→UInt8→OA
 | 0=>fun _ _=>none
 | n+1=>qtl k0 (qog k0 n) n
def qtm (_n:Nat) (s0:LU):OA :=
 bif ((s0.length:Int)==(0:Int)) then
 qzV ([]:LU)
 else
 qzV s0
def qAD (n:Nat) (s0:LU) (c1:UInt8):OA :=
 qog (qtm n) n s0 c1
def qhY (k0:LU→OA) (next:LU→List Bool→OA) (_n:Nat) (s0:LU) (as1:List Bool):OA :=
 bif (decide ((0:Int) < (s0.length:Int))) then
 bif ((decide (0≤(0:Int)))&&(decide ((0:Int) < s0.length))) then
 bif (!(z168 as1 (s0.getD (0:Int).toNat (0:UInt8)))) then
 k0 s0
 else
 bif (((decide (0≤(1:Int)))&&(decide ((1:Int)≤(s0.length:Int))))&&(decide ((s0.length:Int)≤(s0.length:Int)))) then
 next (drop (1:Int).toNat (take (s0.length:Int).toNat s0)) as1
 else none
 else none
 else
 k0 s0
def qjw (k0:LU→OA):Nat→LU→List Bool→OA
 | 0=>fun _ _=>none
 | n+1=>qhY k0 (qjw k0 n) n
def qma (_n:Nat) (s0:LU):OA :=
 bif ((s0.length:Int)==(0:Int)) then
 qzV ([]:LU)
 else
 qzV s0
def qtn (n:Nat) (s0:LU) (as1:List Bool):OA :=
 qjw (qma n) n s0 as1
def qcc (cutset1:LU):=(cutset1.getD (0:Int).toNat (0:UInt8))
def qfO (cutset1:LU):=((decide (0≤(0:Int)))&&(decide ((0:Int) < cutset1.length)))
def qAE (_n:Nat) (s0:LU) (cutset1:LU):OA :=
 bif ((s0.length:Int)==(0:Int)) then qzV ([]:LU) else bif (cutset1==([]:LU)) then qzV s0 else bif ((cutset1.length:Int)==(1:Int)) then bif (qfO cutset1) then bif (decide ((qcc cutset1) < (128:UInt8))) then bif (qfO cutset1) then bif (qfO cutset1) then bif ((qsa s0 (qcc cutset1))&&true) then bif ((qwJ (z206 s0 (qcc cutset1)) (qcc cutset1))&&true) then qzV (z205 (z206 s0 (qcc cutset1)) (qcc cutset1)) else none else none else none else none else bif ((qco cutset1)&&true) then bif ((z167 cutset1).2) then bif ((qhg s0 ((z167 cutset1).1))&&true) then bif ((qnj (z208 s0 ((z167 cutset1).1)) ((z167 cutset1).1))&&true) then qzV (z207 (z208 s0 ((z167 cutset1).1)) ((z167 cutset1).1)) else none else none else bif ((qni s0 cutset1)&&true) then bif ((qwK (z210 s0 cutset1) cutset1)&&true) then qzV (z209 (z210 s0 cutset1) cutset1) else none else none else none else none else bif ((qco cutset1)&&true) then bif ((z167 cutset1).2) then bif ((qhg s0 ((z167 cutset1).1))&&true) then bif ((qnj (z208 s0 ((z167 cutset1).1)) ((z167 cutset1).1))&&true) then qzV (z207 (z208 s0 ((z167 cutset1).1)) ((z167 cutset1).1)) else none else none else bif ((qni s0 cutset1)&&true) then bif ((qwK (z210 s0 cutset1) cutset1)&&true) then qzV (z209 (z210 s0 cutset1) cutset1) else none else none else none
def qRz (_n:Nat) (s0:LU):OA :=
 bif ((qkl s0 ([32,9]:LU))&&true) then
 bif ((qev (z155 s0 ([32,9]:LU)))&&true) then
 qjp (z153 (z155 s0 ([32,9]:LU)))
 else none
 else none
def qoh (s2:LU):OA:=some (df s2 none)
def qRA (_n:Nat) (coding0:Int):OA :=
 bif (coding0==(1:Int)) then
 qoh ([55,98,105,116]:LU)
 else
 bif (coding0==(2:Int)) then
 qoh ([113,117,111,116,101,100,45,112,114,105,110,116,97,98,108,101]:LU)
 else
 bif (coding0==(3:Int)) then
 qoh ([98,97,115,101,54,52]:LU)
 else
 qoh ([]:LU)
def qfP (s2:Int) (s3:Int):OA:=some (.tup [(dc s2),(dc s3)])
def qeS (ret:Int→Int→OA) (k0:OA) (next:LU→Int→OA) (_n:Nat) (name4:LU) (n5:Int):OA :=
 bif (decide (n5≤(3:Int))) then
 bif ((z94 n5)==name4) then
 ret n5 (0:Int)
 else
 next name4 (wrap .i64 (n5+1))
 else
 k0
def qva (ret:Int→Int→OA) (k0:OA):Nat→LU→Int→OA
 | 0=>fun _ _=>none
 | n+1=>qeS ret k0 (qva ret k0 n) n
def qeT (_n:Nat):OA :=
 qfP (0:Int) (11:Int)
def qFE (n:Nat) (s0:LU):OA :=
 bif ((qnk s0)&&true) then
 bif ((qur (z93 s0))&&true) then
 qva qfP (qeT n) n (z92 (z93 s0)) (1:Int)
 else none
 else none
def qeU (s2:List LU):OA:=some (.dat (.sl .str) s2 (some (2,9)))
def qIF (_n:Nat) (charset0:Int):OA :=
 bif (charset0==(1:Int)) then
 qeU ([([117,115,45,97,115,99,105,105]:LU),([97,115,99,105,105]:LU),([97,110,115,105,95,120,51,46,52,45,49,57,54,56]:LU),([105,115,111,54,52,54,45,117,115]:LU)]:List LU)
 else
 bif (charset0==(2:Int)) then
 qeU ([([105,115,111,45,56,56,53,57,45,49]:LU),([105,115,111,95,56,56,53,57,45,49]:LU),([108,97,116,105,110,49]:LU),([108,49]:LU)]:List LU)
 else
 bif (charset0==(3:Int)) then
 qeU ([([105,115,111,45,56,56,53,57,45,49,53]:LU),([105,115,111,95,56,56,53,57,45,49,53]:LU),([108,97,116,105,110,45,57]:LU)]:List LU)
 else
 bif (charset0==(4:Int)) then
 qeU ([([119,105,110,100,111,119,115,45,49,50,53,50]:LU),([99,112,49,50,53,50]:LU)]:List LU)
 else
 bif (charset0==(5:Int)) then
 qeU ([([117,116,102,45,56]:LU),([117,116,102,56]:LU)]:List LU)
 else
 qeU ([]:List LU)
def qIG (s0:List (LU×Int)):OA:=some (.abs (.sl (.pair .str (.int .i64))) (qpa .str (.int .i64)) s0)
def qAF (k2:List (LU×Int)→Int→OA) (next:List (LU×Int)→Int→List LU→Int→Int→OA) (_n:Nat) (m1:List (LU×Int)) (n2:Int) (s11:List LU) (s12:Int) (s13:Int):OA :=
 bif (decide (s13 < s12)) then
 bif ((decide (0≤s13))&&(decide (s13 < s11.length))) then
 next (@putM .str (.int .i64) (s11.getD s13.toNat ([]:LU)) n2 m1) n2 s11 s12 (wrap .i64 (s13+1))
 else none
 else
 k2 m1 n2
def qAG (k2:List (LU×Int)→Int→OA):Nat→List (LU×Int)→Int→List LU→Int→Int→OA
 | 0=>fun _ _ _ _ _=>none
 | n+1=>qAF k2 (qAG k2 n) n
def qAH (_k0:List (LU×Int)→OA) (next:List (LU×Int)→Int→OA) (_n:Nat) (m1:List (LU×Int)) (n2:Int):OA :=
 next m1 (wrap .i64 (n2+1))
def qqU (k0:List (LU×Int)→OA) (next:List (LU×Int)→Int→OA) (n:Nat) (m1:List (LU×Int)) (n2:Int):OA :=
 bif (decide (n2≤(5:Int))) then
 qAG (qAH k0 next n) n m1 n2 (z156 n2) ((z156 n2).length:Int) (0:Int)
 else
 k0 m1
def qAI (k0:List (LU×Int)→OA):Nat→List (LU×Int)→Int→OA
 | 0=>fun _ _=>none
 | n+1=>qqU k0 (qAI k0 n) n
def qAJ (_n:Nat) (m1:List (LU×Int)):OA :=
 qIG m1
def qLO (n:Nat):OA :=
 qAI (qAJ n) n ([]:List (LU×Int)) (1:Int)
def qRB (_n:Nat) (s0:LU):OA :=
 bif (decide (0≤(z80 s0 (42:UInt8)))) then
 bif (((decide (0≤((0:Nat):Int)))&&(decide (((0:Nat):Int)≤(z80 s0 (42:UInt8)))))&&(decide ((z80 s0 (42:UInt8))≤(s0.length:Int)))) then
 bif ((qnk (drop ((0:Nat):Int).toNat (take (z80 s0 (42:UInt8)).toNat s0)))&&true) then
 qjp (z93 (drop ((0:Nat):Int).toNat (take (z80 s0 (42:UInt8)).toNat s0)))
 else none
 else none
 else
 bif ((qnk s0)&&true) then
 qjp (z93 s0)
 else none
def qLP (_n:Nat) (s0:LU):OA :=
 bif ((qCz s0)&&true) then
 bif ((qur (z96 s0))&&true) then
 bif (!(Option.isSome (@findM .str (.int .i64) (z92 (z96 s0)) z95))) then
 qfP (0:Int) (10:Int)
 else
 qfP (Option.getD (@findM .str (.int .i64) (z92 (z96 s0)) z95) (0:Int)) (0:Int)
 else none
 else none
def qRC (_n:Nat) (coding0:LU) (charset1:LU) (s2:LU):OA :=
 bif ((qFb coding0)&&true) then
 bif ((qCA charset1)&&true) then
 bif ((qqt ((z43 coding0).1) ((z44 charset1).1) s2)&&true) then
 qAk (z12 ((z43 coding0).1) ((z44 charset1).1) s2)
 else none
 else none
 else none
def qII (_n:Nat) (c0:UInt8):OA :=
 bif (decide ((65:UInt8)≤c0)) then
 bif (decide (c0≤(90:UInt8))) then
 qlE (c0+(32:UInt8))
 else
 qlE c0
 else
 qlE c0
def qgM (k0:LU→OA) (next:LU→LU→Int→OA) (_n:Nat) (s0:LU) (out3:LU) (i4:Int):OA :=
 bif (decide (i4 < (s0.length:Int))) then
 bif ((decide (0≤i4))&&(decide (i4 < s0.length))) then
 bif (decide (out3.length+length ([(z157 (s0.getD i4.toNat (0:UInt8)))]:LU)≤room)) then
 next s0 (out3++([(z157 (s0.getD i4.toNat (0:UInt8)))]:LU)) (wrap .i64 (i4+1))
 else none
 else none
 else
 k0 out3
def qvb (k0:LU→OA):Nat→LU→LU→Int→OA
 | 0=>fun _ _ _=>none
 | n+1=>qgM k0 (qvb k0 n) n
def qmc (_n:Nat) (out3:LU):OA :=
 qjp out3
def qFF (n:Nat) (s0:LU):OA :=
 qvb (qmc n) n s0 ([]:LU) (0:Int)
def qgN (k0:LU→Int→Int→OA) (next:LU→Int→Int→OA) (_n:Nat) (s0:LU) (a3:Int) (b4:Int):OA :=
 bif (decide (a3 < b4)) then
 bif ((decide (0≤a3))&&(decide (a3 < s0.length))) then
 bif (z136 (s0.getD a3.toNat (0:UInt8)) (2:Int)) then
 next s0 (wrap .i64 (a3+1)) b4
 else
 k0 s0 a3 b4
 else none
 else
 k0 s0 a3 b4
def qoi (k0:LU→Int→Int→OA):Nat→LU→Int→Int→OA
 | 0=>fun _ _ _=>none
 | n+1=>qgN k0 (qoi k0 n) n
def qgO (k2:LU→Int→Int→OA) (next:LU→Int→Int→OA) (_n:Nat) (s0:LU) (a3:Int) (b4:Int):OA :=
 bif (decide (a3 < b4)) then
 bif ((decide (0≤(wrap .i64 (b4 - (1:Int)))))&&(decide ((wrap .i64 (b4 - (1:Int))) < s0.length))) then
 bif (z136 (s0.getD (wrap .i64 (b4 - (1:Int))).toNat (0:UInt8)) (2:Int)) then
 next s0 a3 (wrap .i64 (b4 - (1:Int)))
 else
 k2 s0 a3 b4
 else none
 else
 k2 s0 a3 b4
def qoj (k2:LU→Int→Int→OA):Nat→LU→Int→Int→OA
 | 0=>fun _ _ _=>none
 | n+1=>qgO k2 (qoj k2 n) n
def qmd (_n:Nat) (s0:LU) (a3:Int) (b4:Int):OA :=
 bif (((decide (0≤a3))&&(decide (a3≤b4)))&&(decide (b4≤(s0.length:Int)))) then
 qzV (drop a3.toNat (take b4.toNat s0))
 else none
def qeV (n:Nat) (s0:LU) (a3:Int) (b4:Int):OA :=
 qoj (qmd n) n s0 a3 b4
def qFG (n:Nat) (s0:LU):OA :=
 qoi (qeV n) n s0 (0:Int) (s0.length:Int)
def qme:=([([55,98,105,116]:LU),([113,117,111,116,101,100,45,112,114,105,110,116,97,98,108,101]:LU),([98,97,115,101,54,52]:LU)]:List LU)
def qRD (_n:Nat) (n0:Int):OA :=
 bif (decide (n0 < (1:Int))) then qoh ([]:LU) else bif (decide ((3:Int) < n0)) then qoh ([]:LU) else bif ((decide (0≤(wrap .i64 (n0 - (1:Int)))))&&(decide ((wrap .i64 (n0 - (1:Int))) < (qme).length))) then qoh ((qme).getD (wrap .i64 (n0 - (1:Int))).toNat ([]:LU)) else none
def qeW (ret:Int→Int→OA) (k0:OA) (next:LU→Int→OA) (_n:Nat) (b4:LU) (n5:Int):OA :=
 bif (decide (n5≤(3:Int))) then
 bif ((z99 n5)==b4) then
 ret n5 (0:Int)
 else
 next b4 (wrap .i64 (n5+1))
 else
 k0
def qvc (ret:Int→Int→OA) (k0:OA):Nat→LU→Int→OA
 | 0=>fun _ _=>none
 | n+1=>qeW ret k0 (qvc ret k0 n) n
def qeX (_n:Nat):OA :=
 qfP (0:Int) (11:Int)
def qFH (n:Nat) (s0:LU):OA :=
 bif ((qus s0)&&true) then
 bif ((qup (z98 s0))&&true) then
 qvc qfP (qeX n) n (z97 (z98 s0)) (1:Int)
 else none
 else none
def qej (k0:LU→Int→OA) (next:LU→Int→Int→OA) (_n:Nat) (s0:LU) (end3:Int) (i4:Int):OA :=
 bif (decide (0≤i4)) then
 bif ((decide (0≤i4))&&(decide (i4 < s0.length))) then
 bif ((s0.getD i4.toNat (0:UInt8))==(42:UInt8)) then
 next s0 i4 (wrap .i64 (i4 - (1:Int)))
 else
 next s0 end3 (wrap .i64 (i4 - (1:Int)))
 else none
 else
 k0 s0 end3
def qkA (k0:LU→Int→OA):Nat→LU→Int→Int→OA
 | 0=>fun _ _ _=>none
 | n+1=>qej k0 (qkA k0 n) n
def qfR (_n:Nat) (s0:LU) (end3:Int):OA :=
 bif (((decide (0≤((0:Nat):Int)))&&(decide (((0:Nat):Int)≤end3)))&&(decide (end3≤(s0.length:Int)))) then
 bif ((qus (drop ((0:Nat):Int).toNat (take end3.toNat s0)))&&true) then
 qzV (z98 (drop ((0:Nat):Int).toNat (take end3.toNat s0)))
 else none
 else none
def qtp (n:Nat) (s0:LU):OA :=
 qkA (qfR n) n s0 (s0.length:Int) (wrap .i64 ((s0.length:Int) - (1:Int)))
def qIL (_n:Nat) (n0:Int):OA :=
 bif (n0==(1:Int)) then
 qeU ([([117,115,45,97,115,99,105,105]:LU),([97,115,99,105,105]:LU),([97,110,115,105,95,120,51,46,52,45,49,57,54,56]:LU),([105,115,111,54,52,54,45,117,115]:LU)]:List LU)
 else
 bif (n0==(2:Int)) then
 qeU ([([105,115,111,45,56,56,53,57,45,49]:LU),([105,115,111,95,56,56,53,57,45,49]:LU),([108,97,116,105,110,49]:LU),([108,49]:LU)]:List LU)
 else
 bif (n0==(3:Int)) then
 qeU ([([105,115,111,45,56,56,53,57,45,49,53]:LU),([105,115,111,95,56,56,53,57,45,49,53]:LU),([108,97,116,105,110,45,57]:LU)]:List LU)
 else
 bif (n0==(4:Int)) then
 qeU ([([119,105,110,100,111,119,115,45,49,50,53,50]:LU),([99,112,49,50,53,50]:LU)]:List LU)
 else
 bif (n0==(5:Int)) then
 qeU ([([117,116,102,45,56]:LU),([117,116,102,56]:LU)]:List LU)
 else
 qeU ([]:List LU)
def qgP (ret:Int→Int→OA) (k2:LU→Int→OA) (next:LU→Int→List LU→Int→OA) (_n:Nat) (b4:LU) (n5:Int) (l6:List LU) (i7:Int):OA :=
 bif (decide (i7 < (l6.length:Int))) then
 bif ((decide (0≤i7))&&(decide (i7 < l6.length))) then
 bif ((l6.getD i7.toNat ([]:LU))==b4) then
 ret n5 (0:Int)
 else
 next b4 n5 l6 (wrap .i64 (i7+1))
 else none
 else
 k2 b4 n5
def qvd (ret:Int→Int→OA) (k2:LU→Int→OA):Nat→LU→Int→List LU→Int→OA
 | 0=>fun _ _ _ _=>none
 | n+1=>qgP ret k2 (qvd ret k2 n) n
def qqV (_ret:Int→Int→OA) (_k0:OA) (next:LU→Int→OA) (_n:Nat) (b4:LU) (n5:Int):OA :=
 next b4 (wrap .i64 (n5+1))
def qjx (ret:Int→Int→OA) (k0:OA) (next:LU→Int→OA) (n:Nat) (b4:LU) (n5:Int):OA :=
 bif (decide (n5≤(5:Int))) then
 qvd ret (qqV ret k0 next n) n b4 n5 (z101 n5) (0:Int)
 else
 k0
def qjW (ret:Int→Int→OA) (k0:OA):Nat→LU→Int→OA
 | 0=>fun _ _=>none
 | n+1=>qjx ret k0 (qjW ret k0 n) n
def qeZ (_n:Nat):OA :=
 qfP (0:Int) (10:Int)
def qFI (n:Nat) (s0:LU):OA :=
 bif ((qrU s0)&&true) then
 bif ((qup (z100 s0))&&true) then
 qjW qfP (qeZ n) n (z97 (z100 s0)) (1:Int)
 else none
 else none
def qRE (_n:Nat) (coding0:LU) (charset1:LU) (s2:LU):OA :=
 bif ((qFc coding0)&&true) then
 bif ((qCB charset1)&&true) then
 bif ((qqu ((z45 coding0).1) ((z46 charset1).1) s2)&&true) then
 qAk (z20 ((z45 coding0).1) ((z46 charset1).1) s2)
 else none
 else none
 else none
def qgQ (k0:Int→OA) (next:LU→Int→Int→OA) (_n:Nat) (s0:LU) (n3:Int) (i4:Int):OA :=
 bif (decide (i4 < (s0.length:Int))) then
 bif ((decide (0≤i4))&&(decide (i4 < s0.length))) then
 bif ((s0.getD i4.toNat (0:UInt8))==(13:UInt8)) then
 bif ((wrap .i64 (i4+1))==(s0.length:Int)) then
 next s0 (wrap .i64 (n3+1)) (wrap .i64 (i4+1))
 else
 bif ((decide (0≤(wrap .i64 (i4+1))))&&(decide ((wrap .i64 (i4+1)) < s0.length))) then
 bif ((s0.getD (wrap .i64 (i4+1)).toNat (0:UInt8)) != (10:UInt8)) then
 next s0 (wrap .i64 (n3+1)) (wrap .i64 (i4+1))
 else
 bif ((decide (0≤i4))&&(decide (i4 < s0.length))) then
 bif ((s0.getD i4.toNat (0:UInt8))==(10:UInt8)) then
 bif (i4==(0:Int)) then
 next s0 (wrap .i64 (n3+1)) (wrap .i64 (i4+1))
 else
 bif ((decide (0≤(wrap .i64 (i4 - (1:Int)))))&&(decide ((wrap .i64 (i4 - (1:Int))) < s0.length))) then
 bif ((s0.getD (wrap .i64 (i4 - (1:Int))).toNat (0:UInt8)) != (13:UInt8)) then
 next s0 (wrap .i64 (n3+1)) (wrap .i64 (i4+1))
 else
 next s0 n3 (wrap .i64 (i4+1))
 else none
 else
 next s0 n3 (wrap .i64 (i4+1))
 else none
 else none
 else
 bif ((decide (0≤i4))&&(decide (i4 < s0.length))) then
 bif ((s0.getD i4.toNat (0:UInt8))==(10:UInt8)) then
 bif (i4==(0:Int)) then
 next s0 (wrap .i64 (n3+1)) (wrap .i64 (i4+1))
 else
 bif ((decide (0≤(wrap .i64 (i4 - (1:Int)))))&&(decide ((wrap .i64 (i4 - (1:Int))) < s0.length))) then
 bif ((s0.getD (wrap .i64 (i4 - (1:Int))).toNat (0:UInt8)) != (13:UInt8)) then
 next s0 (wrap .i64 (n3+1)) (wrap .i64 (i4+1))
 else
 next s0 n3 (wrap .i64 (i4+1))
 else none
 else
 next s0 n3 (wrap .i64 (i4+1))
 else none
 else none
 else
 k0 n3
def qjX (k0:Int→OA):Nat→LU→Int→Int→OA
 | 0=>fun _ _ _=>none
 | n+1=>qgQ k0 (qjX k0 n) n
def qqW (_n:Nat) (n3:Int):OA :=
 qHP n3
def qLQ (n:Nat) (s0:LU):OA :=
 qjX (qqW n) n s0 (0:Int) (0:Int)
def qqX (s2:List LU) (s3:Bool):OA:=some (.tup [(.dat (.sl (.sl .byte)) s2 none),(dg s3)])
def qam (out4:List LU):=(wrap .i64 ((out4.length:Int) - (1:Int)))
def qaJ (out4:List LU):=((decide (0≤(qam out4)))&&(decide ((qam out4) < out4.length)))
def qcY (s0:LU) (out4:List LU) (i5:Int):=(set out4 (qam out4).toNat ((out4.getD (qam out4).toNat ([]:LU))++([(s0.getD i5.toNat (0:UInt8))]:LU)))
def qcZ (s0:LU) (out4:List LU) (i5:Int):=(decide (length (out4.getD (qam out4).toNat ([]:LU))+length ([(s0.getD i5.toNat (0:UInt8))]:LU)≤room))
def qcd (s0:LU) (i5:Int):=((decide (0≤i5))&&(decide (i5 < s0.length)))
def qda (out4:List LU):=(((qam out4).toNat==(qam out4).toNat)&&true)
def qhZ (k0:List LU→OA) (next:LU→List LU→Int→OA) (_n:Nat) (s0:LU) (out4:List LU) (i5:Int):OA :=
 bif (decide (i5 < (s0.length:Int))) then bif (qcd s0 i5) then bif ((s0.getD i5.toNat (0:UInt8))==(13:UInt8)) then bif (decide ((wrap .i64 (i5+1)) < (s0.length:Int))) then bif ((decide (0≤(wrap .i64 (i5+1))))&&(decide ((wrap .i64 (i5+1)) < s0.length))) then bif ((s0.getD (wrap .i64 (i5+1)).toNat (0:UInt8))==(10:UInt8)) then bif (decide (out4.length+length ([([]:LU)]:List LU)≤room)) then next s0 (out4++([([]:LU)]:List LU)) (wrap .i64 ((wrap .i64 (i5+1))+1)) else none else bif (qaJ out4) then bif (qcd s0 i5) then bif (qcZ s0 out4 i5) then bif (qaJ out4) then bif (qda out4) then next s0 (qcY s0 out4 i5) (wrap .i64 (i5+1)) else none else none else none else none else none else none else bif (qaJ out4) then bif (qcd s0 i5) then bif (qcZ s0 out4 i5) then bif (qaJ out4) then bif (qda out4) then next s0 (qcY s0 out4 i5) (wrap .i64 (i5+1)) else none else none else none else none else none else bif (qaJ out4) then bif (qcd s0 i5) then bif (qcZ s0 out4 i5) then bif (qaJ out4) then bif (qda out4) then next s0 (qcY s0 out4 i5) (wrap .i64 (i5+1)) else none else none else none else none else none else none else k0 out4
def qhq (k0:List LU→OA):Nat→LU→List LU→Int→OA
 | 0=>fun _ _ _=>none
 | n+1=>qhZ k0 (qhq k0 n) n
def qaK (out4:List LU):=(wrap .i64 ((out4.length:Int) - (1:Int)))
def qia (_n:Nat) (out4:List LU):OA :=
 bif ((decide (0≤(qaK out4)))&&(decide ((qaK out4) < out4.length))) then bif (((out4.getD (qaK out4).toNat ([]:LU)).length:Int)==(0:Int)) then bif (((decide (0≤((0:Nat):Int)))&&(decide (((0:Nat):Int)≤(qaK out4))))&&(decide ((qaK out4)≤(out4.length:Int)))) then qqX (drop ((0:Nat):Int).toNat (take (qaK out4).toNat out4)) true else none else qqX out4 false else none
def qtq (n:Nat) (s0:LU):OA :=
 qhq (qia n) n s0 ([([]:LU)]:List LU) (0:Int)
def qIO (s2:List LU):OA:=some (.dat (.sl (.sl .byte)) s2 none)
def qRF (_n:Nat) (s0:LU):OA :=
 bif ((qkm s0)&&true) then
 qIO ((z102 s0).1)
 else none
def qgR (ret:Int→OA) (k0:LU→Int→Bool→OA) (next:LU→Int→Bool→Int→OA) (_n:Nat) (s0:LU) (most1:Int) (high5:Bool) (i6:Int):OA :=
 bif (decide (i6 < (s0.length:Int))) then
 bif ((decide (0≤i6))&&(decide (i6 < s0.length))) then
 bif ((s0.getD i6.toNat (0:UInt8))==(0:UInt8)) then
 ret (8:Int)
 else
 bif high5 then
 next s0 most1 true (wrap .i64 (i6+1))
 else
 bif ((decide (0≤i6))&&(decide (i6 < s0.length))) then
 next s0 most1 (decide ((127:UInt8) < (s0.getD i6.toNat (0:UInt8)))) (wrap .i64 (i6+1))
 else none
 else none
 else
 k0 s0 most1 high5
def qok (ret:Int→OA) (k0:LU→Int→Bool→OA):Nat→LU→Int→Bool→Int→OA
 | 0=>fun _ _ _ _=>none
 | n+1=>qgR ret k0 (qok ret k0 n) n
def qek (ret:Int→OA) (k2:OA) (next:Int→List LU→Int→OA) (_n:Nat) (most1:Int) (l7:List LU) (i8:Int):OA :=
 bif (decide (i8 < (l7.length:Int))) then
 bif ((decide (0≤i8))&&(decide (i8 < l7.length))) then
 bif (decide (most1 < ((l7.getD i8.toNat ([]:LU)).length:Int))) then
 ret (12:Int)
 else
 next most1 l7 (wrap .i64 (i8+1))
 else none
 else
 k2
def qhr (ret:Int→OA) (k2:OA):Nat→Int→List LU→Int→OA
 | 0=>fun _ _ _=>none
 | n+1=>qek ret k2 (qhr ret k2 n) n
def qmf (_n:Nat):OA :=
 qHP (0:Int)
def qfa (n:Nat) (s0:LU) (most1:Int) (high5:Bool):OA :=
 bif ((qEZ s0)&&true) then
 bif (decide ((0:Int) < (z75 s0))) then
 qHP (8:Int)
 else
 bif high5 then
 qHP (9:Int)
 else
 bif ((qCH s0)&&true) then
 qhr qHP (qmf n) n most1 (z76 s0) (0:Int)
 else none
 else none
def qLR (n:Nat) (s0:LU) (most1:Int):OA :=
 qok qHP (qfa n) n s0 most1 false (0:Int)
def qgS (ret:Bool→OA) (k0:OA) (next:LU→LU→Int→OA) (_n:Nat) (a0:LU) (b1:LU) (i5:Int):OA :=
 bif (decide (i5 < (a0.length:Int))) then
 bif ((decide (0≤i5))&&(decide (i5 < a0.length))) then
 bif ((decide (0≤i5))&&(decide (i5 < b1.length))) then
 bif ((a0.getD i5.toNat (0:UInt8)) != (b1.getD i5.toNat (0:UInt8))) then
 ret false
 else
 next a0 b1 (wrap .i64 (i5+1))
 else none
 else none
 else
 k0
def qol (ret:Bool→OA) (k0:OA):Nat→LU→LU→Int→OA
 | 0=>fun _ _ _=>none
 | n+1=>qgS ret k0 (qol ret k0 n) n
def qAN (_n:Nat):OA :=
 qzQ true
def qFJ (n:Nat) (a0:LU) (b1:LU):OA :=
 bif ((a0.length:Int) != (b1.length:Int)) then
 qzQ false
 else
 qol qzQ (qAN n) n a0 b1 (0:Int)
def qAO (s6:LU):OA:=some (db s6 (some (6,5)))
def qdH (c2:UInt8):=(wrap .i64 ((toNat c2:Nat):Int))
def qjy (sign1:UInt8) (c2:UInt8):=([sign1,(z189 (wrap .i64 (Int.tdiv (qdH c2) (16:Int)))),(z189 (tmod (qdH c2) (16:Int)))]:LU)
def qIP (_n:Nat) (b0:LU) (sign1:UInt8) (c2:UInt8):OA :=
 bif (decide (length ([]:LU)+b0.length≤room)) then bif ((qcm (wrap .i64 (Int.tdiv (qdH c2) (16:Int))))&&true) then bif ((qcm (tmod (qdH c2) (16:Int)))&&true) then bif (decide (length (([]:LU)++b0)+length (qjy sign1 c2)≤room)) then qAO ((([]:LU)++b0)++(qjy sign1 c2)) else none else none else none else none
def qbn (l0:LU) (i3:Int):=(drop i3.toNat (take (wrap .i64 (i3+(3:Int))).toNat l0))
def qbo (l0:LU) (i3:Int):=(z137 ([]:LU) (61:UInt8) ((z149 l0 i3 (61:UInt8)).1))
def qbp (l0:LU) (i3:Int):=((decide (0≤i3))&&(decide (i3 < l0.length)))
def qdb (l0:LU) (i3:Int):=(((decide (0≤i3))&&(decide (i3≤(wrap .i64 (i3+(3:Int))))))&&(decide ((wrap .i64 (i3+(3:Int)))≤(l0.length:Int))))
def qel (ret:Bool→OA) (k0:LU→OA) (next:LU→Int→OA) (_n:Nat) (l0:LU) (i3:Int):OA :=
 bif (decide (i3 < (l0.length:Int))) then bif (qbp l0 i3) then bif (!(z136 (l0.getD i3.toNat (0:UInt8)) (2:Int))) then bif (qbp l0 i3) then bif (!(z136 (l0.getD i3.toNat (0:UInt8)) (4:Int))) then ret false else bif (qbp l0 i3) then bif ((l0.getD i3.toNat (0:UInt8))==(61:UInt8)) then bif (decide (i3 < (wrap .i64 ((l0.length:Int) - (1:Int))))) then bif ((qiL l0 i3 (61:UInt8))&&true) then bif (!((z149 l0 i3 (61:UInt8)).2)) then ret false else bif (qdb l0 i3) then bif ((qnb ([]:LU) (61:UInt8) ((z149 l0 i3 (61:UInt8)).1))&&true) then bif ((qwI (qbo l0 i3) (qbn l0 i3))&&true) then bif (!(z10 (qbo l0 i3) (qbn l0 i3))) then ret false else next l0 (wrap .i64 (i3+1)) else none else none else none else none else next l0 (wrap .i64 (i3+1)) else next l0 (wrap .i64 (i3+1)) else none else none else bif (qbp l0 i3) then bif ((l0.getD i3.toNat (0:UInt8))==(61:UInt8)) then bif (decide (i3 < (wrap .i64 ((l0.length:Int) - (1:Int))))) then bif ((qiL l0 i3 (61:UInt8))&&true) then bif (!((z149 l0 i3 (61:UInt8)).2)) then ret false else bif (qdb l0 i3) then bif ((qnb ([]:LU) (61:UInt8) ((z149 l0 i3 (61:UInt8)).1))&&true) then bif ((qwI (qbo l0 i3) (qbn l0 i3))&&true) then bif (!(z10 (qbo l0 i3) (qbn l0 i3))) then ret false else next l0 (wrap .i64 (i3+1)) else none else none else none else none else next l0 (wrap .i64 (i3+1)) else next l0 (wrap .i64 (i3+1)) else none else none else k0 l0
def qkC (ret:Bool→OA) (k0:LU→OA):Nat→LU→Int→OA
 | 0=>fun _ _=>none
 | n+1=>qel ret k0 (qkC ret k0 n) n
def qfS (_n:Nat) (l0:LU):OA :=
 bif ((l0.length:Int)==(0:Int)) then
 qzQ true
 else
 bif ((decide (0≤(wrap .i64 ((l0.length:Int) - (1:Int)))))&&(decide ((wrap .i64 ((l0.length:Int) - (1:Int))) < l0.length))) then
 qzQ (!(z136 (l0.getD (wrap .i64 ((l0.length:Int) - (1:Int))).toNat (0:UInt8)) (2:Int)))
 else none
def qtr (n:Nat) (l0:LU):OA :=
 qkC qzQ (qfS n) n l0 (0:Int)
def qgU (ret:Int→OA) (k0:OA) (next:List LU→Bool→Int→OA) (_n:Nat) (l3:List LU) (ends4:Bool) (i5:Int):OA :=
 bif (decide (i5 < (l3.length:Int))) then
 bif ((decide (0≤i5))&&(decide (i5 < l3.length))) then
 bif (decide ((76:Int) < ((l3.getD i5.toNat ([]:LU)).length:Int))) then
 ret (12:Int)
 else
 bif (i5==(wrap .i64 ((l3.length:Int) - (1:Int)))) then
 bif (!ends4) then
 ret (4:Int)
 else
 bif ((decide (0≤i5))&&(decide (i5 < l3.length))) then
 bif ((qnQ (l3.getD i5.toNat ([]:LU)))&&true) then
 bif (!(z103 (l3.getD i5.toNat ([]:LU)))) then
 ret (3:Int)
 else
 next l3 ends4 (wrap .i64 (i5+1))
 else none
 else none
 else
 bif ((decide (0≤i5))&&(decide (i5 < l3.length))) then
 bif ((qnQ (l3.getD i5.toNat ([]:LU)))&&true) then
 bif (!(z103 (l3.getD i5.toNat ([]:LU)))) then
 ret (3:Int)
 else
 next l3 ends4 (wrap .i64 (i5+1))
 else none
 else none
 else none
 else
 k0
def qve (ret:Int→OA) (k0:OA):Nat→List LU→Bool→Int→OA
 | 0=>fun _ _ _=>none
 | n+1=>qgU ret k0 (qve ret k0 n) n
def qqY (_n:Nat):OA :=
 qHP (0:Int)
def qFK (n:Nat) (s0:LU):OA :=
 bif ((qkm s0)&&true) then
 qve qHP (qqY n) n ((z102 s0).1) ((z102 s0).2) (0:Int)
 else none
def qem (k0:LU→Int→OA) (next:LU→Int→Int→OA) (_n:Nat) (s0:LU) (end4:Int) (k5:Int):OA :=
 bif (decide (k5 < (2:Int))) then
 bif (decide ((0:Int) < end4)) then
 bif ((decide (0≤(wrap .i64 (end4 - (1:Int)))))&&(decide ((wrap .i64 (end4 - (1:Int))) < s0.length))) then
 bif ((s0.getD (wrap .i64 (end4 - (1:Int))).toNat (0:UInt8))==(61:UInt8)) then
 next s0 (wrap .i64 (end4 - (1:Int))) (wrap .i64 (k5+1))
 else
 k0 s0 end4
 else none
 else
 k0 s0 end4
 else
 k0 s0 end4
def qfT (k0:LU→Int→OA):Nat→LU→Int→Int→OA
 | 0=>fun _ _ _=>none
 | n+1=>qem k0 (qfT k0 n) n
def qbq (s0:LU) (end4:Int):=(drop ((0:Nat):Int).toNat (take end4.toNat s0))
def qbH (_n:Nat) (s0:LU) (end4:Int):OA :=
 bif (((decide (0≤((0:Nat):Int)))&&(decide (((0:Nat):Int)≤end4)))&&(decide (end4≤(s0.length:Int)))) then bif ((qum (qbq s0 end4))&&true) then bif (!((z87 (qbq s0 end4)).2)) then qAe ([]:LU) (3:Int) else bif ((tmod (s0.length:Int) (4:Int)) != (0:Int)) then qAe ([]:LU) (4:Int) else bif ((qun ((z87 (qbq s0 end4)).1))&&true) then bif (!((z88 ((z87 (qbq s0 end4)).1)).2)) then qAe ([]:LU) (3:Int) else qAe ((z88 ((z87 (qbq s0 end4)).1)).1) (0:Int) else none else none else none
def qAP (n:Nat) (s0:LU):OA :=
 qfT (qbH n) n s0 (s0.length:Int) (0:Int)
def qaM (s0:LU) (i6:Int):=([(s0.getD i6.toNat (0:UInt8))]:LU)
def qbN (s0:LU) (i6:Int):=((decide (0≤i6))&&(decide (i6 < s0.length)))
def qgW (ret:LU→Int→OA) (k0:LU→Int→OA) (next:LU→LU→Int→Int→OA) (_n:Nat) (s0:LU) (code4:LU) (long5:Int) (i6:Int):OA :=
 bif (decide (i6 < (s0.length:Int))) then bif (qbN s0 i6) then bif ((s0.getD i6.toNat (0:UInt8))==(13:UInt8)) then bif (decide ((wrap .i64 (i6+1)) < (s0.length:Int))) then bif ((decide (0≤(wrap .i64 (i6+1))))&&(decide ((wrap .i64 (i6+1)) < s0.length))) then bif ((s0.getD (wrap .i64 (i6+1)).toNat (0:UInt8))==(10:UInt8)) then bif (long5==(0:Int)) then ret ([]:LU) (3:Int) else next s0 code4 (0:Int) (wrap .i64 ((wrap .i64 (i6+1))+1)) else bif (qbN s0 i6) then bif (decide (code4.length+length (qaM s0 i6)≤room)) then bif (decide ((76:Int) < (wrap .i64 (long5+1)))) then ret ([]:LU) (12:Int) else next s0 (code4++(qaM s0 i6)) (wrap .i64 (long5+1)) (wrap .i64 (i6+1)) else none else none else none else bif (qbN s0 i6) then bif (decide (code4.length+length (qaM s0 i6)≤room)) then bif (decide ((76:Int) < (wrap .i64 (long5+1)))) then ret ([]:LU) (12:Int) else next s0 (code4++(qaM s0 i6)) (wrap .i64 (long5+1)) (wrap .i64 (i6+1)) else none else none else bif (qbN s0 i6) then bif (decide (code4.length+length (qaM s0 i6)≤room)) then bif (decide ((76:Int) < (wrap .i64 (long5+1)))) then ret ([]:LU) (12:Int) else next s0 (code4++(qaM s0 i6)) (wrap .i64 (long5+1)) (wrap .i64 (i6+1)) else none else none else none else k0 code4 long5
def qjz (ret:LU→Int→OA) (k0:LU→Int→OA):Nat→LU→LU→Int→Int→OA
 | 0=>fun _ _ _ _=>none
 | n+1=>qgW ret k0 (qjz ret k0 n) n
def qjA (_n:Nat) (code4:LU) (long5:Int):OA :=
 bif (decide ((0:Int) < long5)) then
 qAe ([]:LU) (4:Int)
 else
 bif ((qrX code4)&&true) then
 bif (((z104 code4).2) != (0:Int)) then
 qAe ([]:LU) ((z104 code4).2)
 else
 qAe code4 (0:Int)
 else none
def qLS (n:Nat) (s0:LU):OA :=
 qjz qAe (qjA n) n s0 ([]:LU) (0:Int) (0:Int)
def qRG (_n:Nat) (coding0:Int) (s1:LU):OA :=
 bif (coding0==(1:Int)) then
 bif ((qzE s1 (76:Int))&&true) then
 qHP (z35 s1 (76:Int))
 else none
 else
 bif (coding0==(2:Int)) then
 bif ((qFn s1)&&true) then
 qHP (z47 s1)
 else none
 else
 bif (coding0==(3:Int)) then
 bif ((qEX s1)&&true) then
 qHP ((z48 s1).2)
 else none
 else
 qHP (11:Int)
def qdI (names2:List LU):=(names2.getD (0:Int).toNat ([]:LU))
def qdJ (names2:List LU):=(names2.getD (1:Int).toNat ([]:LU))
def qmg:=((decide (0≤(0:Int)))&&(decide ((0:Int) < (2:Nat))))
def qmh:=((decide (0≤(1:Int)))&&(decide ((1:Int) < (2:Nat))))
def z6_sh (_n:Nat) (h0:Int×(Int×Unit)) (s1:LU) (names2:List LU):OA :=
 bif (decide ((600:Int) < (s1.length:Int))) then qzQ z7 else bif (qmg) then bif (decide ((100:Int) < ((qdI names2).length:Int))) then qzQ z7 else bif (qmh) then bif (decide ((100:Int) < ((qdJ names2).length:Int))) then qzQ z7 else bif ((qqt h0.1 h0.2.1 s1)&&true) then bif ((qqu h0.1 h0.2.1 s1)&&true) then bif ((quq (z12 h0.1 h0.2.1 s1) (z20 h0.1 h0.2.1 s1))&&true) then bif (z11 (z12 h0.1 h0.2.1 s1) (z20 h0.1 h0.2.1 s1)) then bif (qmg) then bif (qmh) then bif (qmg) then bif (qmh) then bif ((quG (qdI names2) (qdJ names2) s1)&&true) then bif ((qzF (qdI names2) (qdJ names2) s1)&&true) then bif ((quq (z21 (qdI names2) (qdJ names2) s1) (z22 (qdI names2) (qdJ names2) s1))&&true) then bif (z11 (z21 (qdI names2) (qdJ names2) s1) (z22 (qdI names2) (qdJ names2) s1)) then bif ((qFd h0.1 s1)&&true) then bif ((qFe h0.1 s1)&&true) then bif ((z19 h0.1 s1)==(z23 h0.1 s1)) then qzQ z7 else qzQ false else none else none else qzQ false else none else none else none else none else none else none else none else qzQ false else none else none else none else none else none
end
end
end Go.Av
