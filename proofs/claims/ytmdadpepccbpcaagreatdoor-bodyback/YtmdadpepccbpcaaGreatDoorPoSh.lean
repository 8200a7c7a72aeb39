import Derived.Test.YtmdadpepccbpcaaGreatDoorPoA
import Derived.Test.YtmdadpepccbpcaaGreatDoorAvE
namespace Go.Av
set_option linter.unusedSimpArgs false
set_option linter.unusedVariables false
section
open List (length drop take replicate set)
open UInt8 (ofNat toNat)
open IntKind (wrap)
abbrev OA:=Option AV
set_option linter.unusedSimpArgs false
set_option linter.unusedVariables false
noncomputable section
def qEt (s4:Int):OA:=some (dc s4)
def qNN (_n:Nat) (b0:LU) (c1:UInt8):OA :=
 qEt (z141 b0 c1)
def qwM (s2:Bool):OA:=some (dg s2)
def qLM (_n:Nat) (bufLen0:Int):OA :=
 qwM (decide ((8:Int) < bufLen0))
def qhB (as2:List Bool) (ok3:Bool):OA:=some (.tup [(.dat (.arr 256 .bool) as2 none),(dg ok3)])
def qdq (ret:List Bool→Bool→OA) (k0:List Bool→OA) (next:LU→List Bool→Int→OA) (_n:Nat) (chars0:LU) (as2:List Bool) (i4:Int):OA :=
 bif (decide (i4 < (chars0.length:Int))) then
 bif ((decide (0≤i4))&&(decide (i4 < chars0.length))) then
 bif (decide ((128:UInt8)≤(chars0.getD i4.toNat (0:UInt8)))) then
 ret as2 false
 else
 bif ((decide (0≤((toNat (chars0.getD i4.toNat (0:UInt8)):Nat):Int)))&&(decide (((toNat (chars0.getD i4.toNat (0:UInt8)):Nat):Int) < (256:Nat)))) then
 next chars0 (set as2 ((toNat (chars0.getD i4.toNat (0:UInt8)):Nat):Int).toNat true) (wrap .i64 (i4+1))
 else none
 else none
 else
 k0 as2
def qfV (ret:List Bool→Bool→OA) (k0:List Bool→OA):Nat→LU→List Bool→Int→OA
 | 0=>fun _ _ _=>none
 | n+1=>qdq ret k0 (qfV ret k0 n) n
def qjW (_n:Nat) (as2:List Bool):OA :=
 qhB as2 true
def qwN (n:Nat) (chars0:LU):OA :=
 qfV qhB (qjW n) n chars0 (replicate 256 false) (0:Int)
def qEu (_n:Nat) (as0:List Bool) (c1:UInt8):OA :=
 bif ((decide (0≤((toNat c1:Nat):Int)))&&(decide (((toNat c1:Nat):Int) < (256:Nat)))) then
 qwM (as0.getD ((toNat c1:Nat):Int).toNat false)
 else none
def qdr (m0:Int) (ret:Int→OA) (k0:OA) (next:LU→Nat→OA) (_n:Nat) (s28:LU) (s28p:Nat):OA :=
 bif (decide (s28p < s28.length)) then
 bif (decide (s28p < s28.length)) then
 bif ((decL s28 s28p).1==(65533:Int)) then
 ret (0:Int)
 else
 next s28 (bif (decide (s28p < s28.length)) then s28p+(decL s28 s28p).2 else s28p)
 else none
 else
 k0
def qfW (m0:Int) (ret:Int→OA) (k0:OA):Nat→LU→Nat→OA
 | 0=>fun _ _=>none
 | n+1=>(qdr m0) ret k0 ((qfW m0) ret k0 n) n
def qqo (m0:Int) (_n:Nat):OA :=
 qEt (-1:Int)
def qbW (m0:Int) (ret:Int→OA) (k2:OA) (next:List Bool→LU→Int→Int→OA) (_n:Nat) (as7:List Bool) (s60:LU) (s61:Int) (s62:Int):OA :=
 bif (decide (s62 < s61)) then
 bif ((decide (0≤s62))&&(decide (s62 < s60.length))) then
 bif (z168 as7 (s60.getD s62.toNat (0:UInt8))) then
 ret s62
 else
 next as7 s60 s61 (wrap .i64 (s62+1))
 else none
 else
 k2
def qcP (m0:Int) (ret:Int→OA) (k2:OA):Nat→List Bool→LU→Int→Int→OA
 | 0=>fun _ _ _ _=>none
 | n+1=>(qbW m0) ret k2 ((qcP m0) ret k2 n) n
def qhC (m0:Int) (_n:Nat):OA :=
 qEt (-1:Int)
def qbX (m0:Int) (ret:Int→OA) (k6:LU→LU→Int→Int→OA) (next:LU→LU→Int→Int→Int→LU→Nat→OA) (_n:Nat) (s0:LU) (chars1:LU) (width11:Int) (i12:Int) (r13:Int) (s121:LU) (s121p:Nat):OA :=
 bif (decide (s121p < s121.length)) then
 bif (decide (s121p < s121.length)) then
 bif (r13==(decL s121 s121p).1) then
 ret i12
 else
 next s0 chars1 width11 i12 r13 s121 (bif (decide (s121p < s121.length)) then s121p+(decL s121 s121p).2 else s121p)
 else none
 else
 k6 s0 chars1 width11 i12
def qbP (m0:Int) (ret:Int→OA) (k6:LU→LU→Int→Int→OA):Nat→LU→LU→Int→Int→Int→LU→Nat→OA
 | 0=>fun _ _ _ _ _ _ _=>none
 | n+1=>(qbX m0) ret k6 ((qbP m0) ret k6 n) n
def qeH (m0:Int) (_ret:Int→OA) (_k4:OA) (next:LU→LU→Int→OA) (_n:Nat) (s0:LU) (chars1:LU) (width11:Int) (i12:Int):OA :=
 next s0 chars1 (wrap .i64 (i12+width11))
def qp (s0:LU) (i12:Int):=(z169 (drop i12.toNat (take (s0.length:Int).toNat s0)))
def qcQ (m0:Int) (ret:Int→OA) (k4:OA) (next:LU→LU→Int→OA) (n:Nat) (s0:LU) (chars1:LU) (i12:Int):OA :=
 bif (decide (i12 < (s0.length:Int))) then bif ((decide (0≤i12))&&(decide (i12 < s0.length))) then bif (decide ((wrap .i32 ((toNat (s0.getD i12.toNat (0:UInt8)):Nat):Int)) < (128:Int))) then bif ((decide (0≤i12))&&(decide (i12 < s0.length))) then bif (decide (0≤(z164 chars1 (s0.getD i12.toNat (0:UInt8))))) then ret i12 else next s0 chars1 (wrap .i64 (i12+1)) else none else bif (((decide (0≤i12))&&(decide (i12≤(s0.length:Int))))&&(decide ((s0.length:Int)≤(s0.length:Int)))) then bif ((qlu (drop i12.toNat (take (s0.length:Int).toNat s0)))&&true) then bif (((qp s0 i12).1) != (65533:Int)) then bif ((chars1.length:Int)==((qp s0 i12).2)) then bif (chars1==(Utf8.encode ((qp s0 i12).1)).data.toList) then ret i12 else next s0 chars1 (wrap .i64 (i12+((qp s0 i12).2))) else bif (decide (((qp s0 i12).2)≤m0)) then bif ((qlt m0 chars1 (Utf8.encode ((qp s0 i12).1)).data.toList)&&true) then bif (decide (0≤(z170 chars1 (Utf8.encode ((qp s0 i12).1)).data.toList))) then ret i12 else next s0 chars1 (wrap .i64 (i12+((qp s0 i12).2))) else none else (qbP m0) ret ((qeH m0) ret k4 next n) n s0 chars1 ((qp s0 i12).2) i12 ((qp s0 i12).1) chars1 0 else (qbP m0) ret ((qeH m0) ret k4 next n) n s0 chars1 ((qp s0 i12).2) i12 ((qp s0 i12).1) chars1 0 else none else none else none else k4
def qbQ (m0:Int) (ret:Int→OA) (k4:OA):Nat→LU→LU→Int→OA
 | 0=>fun _ _ _=>none
 | n+1=>(qcQ m0) ret k4 ((qbQ m0) ret k4 n) n
def qeI (m0:Int) (_n:Nat):OA :=
 qEt (-1:Int)
def qcR (chars1:LU):=(wrap .i32 ((toNat (chars1.getD (0:Int).toNat (0:UInt8)):Nat):Int))
def qqp (m0:Int) (n:Nat) (s0:LU) (chars1:LU):OA :=
 bif (chars1==([]:LU)) then qEt (-1:Int) else bif ((s0.length:Int)==(1:Int)) then bif ((decide (0≤(0:Int)))&&(decide ((0:Int) < s0.length))) then bif (decide ((128:Int)≤(wrap .i32 ((toNat (s0.getD (0:Int).toNat (0:UInt8)):Nat):Int)))) then (qfW m0) qEt ((qqo m0) n) n chars1 0 else bif ((decide (0≤(0:Int)))&&(decide ((0:Int) < s0.length))) then bif (decide (0≤(z164 chars1 (s0.getD (0:Int).toNat (0:UInt8))))) then qEt (0:Int) else qEt (-1:Int) else none else none else bif ((chars1.length:Int)==(1:Int)) then bif ((decide (0≤(0:Int)))&&(decide ((0:Int) < chars1.length))) then bif (decide ((128:Int)≤(qcR chars1))) then bif ((que s0 (65533:Int))&&true) then qEt (z165 s0 (65533:Int)) else none else bif ((que s0 (qcR chars1))&&true) then qEt (z165 s0 (qcR chars1)) else none else none else bif (z166 (s0.length:Int)) then bif ((qdK chars1)&&true) then bif ((z167 chars1).2) then (qcP m0) qEt ((qhC m0) n) n ((z167 chars1).1) s0 (s0.length:Int) (0:Int) else (qbQ m0) qEt ((qeI m0) n) n s0 chars1 (0:Int) else none else (qbQ m0) qEt ((qeI m0) n) n s0 chars1 (0:Int)
def qLN (_n:Nat) (a0:LU) (b1:LU):OA :=
 qwM (a0==b1)
def qEv (_n:Nat) (s0:LU) (prefix1:LU):OA :=
 bif (decide ((prefix1.length:Int)≤(s0.length:Int))) then
 bif (((decide (0≤((0:Nat):Int)))&&(decide (((0:Nat):Int)≤(prefix1.length:Int))))&&(decide ((prefix1.length:Int)≤(s0.length:Int)))) then
 qwM (z194 (drop ((0:Nat):Int).toNat (take (prefix1.length:Int).toNat s0)) prefix1)
 else none
 else
 qwM false
def qEw (_n:Nat) (s0:LU):OA :=
 bif (z171 s0 ([(13:UInt8),(10:UInt8)]:LU)) then
 qEt (2:Int)
 else
 bif (decide ((0:Int) < (s0.length:Int))) then
 qEt (1:Int)
 else
 qEt (0:Int)
def qhE (V:Sigma Inv) (xv:Den V.1) (s36:LU):OA:=some (.tup [(.tup []),(.abs V.1 V.2 xv),(.pbox (.leaf (.sl .byte)) s36 none)])
def qau (s36:LU):=(wrap .i64 ((z109 s36 ([13,10]:LU))+(z110 (drop (z109 s36 ([13,10]:LU)).toNat (take (s36.length:Int).toNat s36)))))
def qav (s36:LU):=(wrap .i64 ((s36.length:Int)+(z110 (drop (s36.length:Int).toNat (take (s36.length:Int).toNat s36)))))
def qG (s36:LU):=(z109 s36 ([13,10]:LU))
def qaw (s36:LU):=(decide ((s36.length:Int)≤(s36.length:Int)))
def qbu (s36:LU):=(drop (s36.length:Int).toNat (take (qav s36).toNat s36))
def qbv (s36:LU):=(drop (qG s36).toNat (take (qau s36).toNat s36))
def qbw (s36:LU):=(drop ((0:Nat):Int).toNat (take (s36.length:Int).toNat s36))
def qbx (s36:LU):=(drop ((0:Nat):Int).toNat (take (qG s36).toNat s36))
def qgz (V:Sigma Inv) (ret:Den V.1→LU→OA) (k0:Den V.1→LU→OA) (next:Den V.1→LU→OA) (_n:Nat) (xv:Den V.1) (s36:LU):OA :=
 bif (decide ((0:Int) < (s36.length:Int))) then bif ((qdL s36 ([13,10]:LU))&&true) then bif (decide ((qG s36) < (0:Int))) then bif (((decide (0≤(s36.length:Int)))&&(qaw s36))&&(qaw s36)) then bif (((decide (0≤((0:Nat):Int)))&&(decide (((0:Nat):Int)≤(s36.length:Int))))&&(qaw s36)) then bif (((decide (0≤(s36.length:Int)))&&(decide ((s36.length:Int)≤(qav s36))))&&(decide ((qav s36)≤(s36.length:Int)))) then bif (V.2.spec xv [⟨(.sl .byte),(qbw s36)⟩,⟨(.sl .byte),(qbu s36)⟩]).1 then bif (!(V.2.spec xv [⟨(.sl .byte),(qbw s36)⟩,⟨(.sl .byte),(qbu s36)⟩]).2.1) then ret (V.2.spec xv [⟨(.sl .byte),(qbw s36)⟩,⟨(.sl .byte),(qbu s36)⟩]).2.2 s36 else bif (((decide (0≤(qav s36)))&&(decide ((qav s36)≤(s36.length:Int))))&&(qaw s36)) then next (V.2.spec xv [⟨(.sl .byte),(qbw s36)⟩,⟨(.sl .byte),(qbu s36)⟩]).2.2 (drop (qav s36).toNat (take (s36.length:Int).toNat s36)) else none else none else none else none else none else bif (((decide (0≤(qG s36)))&&(decide ((qG s36)≤(s36.length:Int))))&&(qaw s36)) then bif (((decide (0≤((0:Nat):Int)))&&(decide (((0:Nat):Int)≤(qG s36))))&&(decide ((qG s36)≤(s36.length:Int)))) then bif (((decide (0≤(qG s36)))&&(decide ((qG s36)≤(qau s36))))&&(decide ((qau s36)≤(s36.length:Int)))) then bif (V.2.spec xv [⟨(.sl .byte),(qbx s36)⟩,⟨(.sl .byte),(qbv s36)⟩]).1 then bif (!(V.2.spec xv [⟨(.sl .byte),(qbx s36)⟩,⟨(.sl .byte),(qbv s36)⟩]).2.1) then ret (V.2.spec xv [⟨(.sl .byte),(qbx s36)⟩,⟨(.sl .byte),(qbv s36)⟩]).2.2 s36 else bif (((decide (0≤(qau s36)))&&(decide ((qau s36)≤(s36.length:Int))))&&(qaw s36)) then next (V.2.spec xv [⟨(.sl .byte),(qbx s36)⟩,⟨(.sl .byte),(qbv s36)⟩]).2.2 (drop (qau s36).toNat (take (s36.length:Int).toNat s36)) else none else none else none else none else none else none else k0 xv s36
def qfX (V:Sigma Inv) (ret:Den V.1→LU→OA) (k0:Den V.1→LU→OA):Nat→Den V.1→LU→OA
 | 0=>fun _ _=>none
 | n+1=>(qgz V) ret k0 ((qfX V) ret k0 n) n
def qqq (V:Sigma Inv) (_n:Nat) (xv:Den V.1) (s36:LU):OA :=
 (qhE V) xv s36
def qwQ (V:Sigma Inv) (n:Nat) (x0:Den V.1) (x1:LU):OA :=
 (qfX V) (qhE V) ((qqq V) n) n x0 x1
def qNO (_n:Nat) (s0:LU):OA :=
 some (.abs (qcI [.leaf (.sl .byte)]) (clInv 108 [.leaf (.sl .byte)]) (s0,()))
def qwR (s4:LU):OA:=some (da s4)
def qaO (s0:LU):=(wrap .i64 ((s0.length:Int) - (1:Int)))
def qqr (k0:LU→OA) (next:LU→UInt8→OA) (_n:Nat) (s0:LU) (c1:UInt8):OA :=
 bif (decide ((0:Int) < (s0.length:Int))) then bif ((decide (0≤(qaO s0)))&&(decide ((qaO s0) < s0.length))) then bif ((s0.getD (qaO s0).toNat (0:UInt8))==c1) then bif (((decide (0≤((0:Nat):Int)))&&(decide (((0:Nat):Int)≤(qaO s0))))&&(decide ((qaO s0)≤(s0.length:Int)))) then next (drop ((0:Nat):Int).toNat (take (qaO s0).toNat s0)) c1 else none else k0 s0 else none else k0 s0
def qmb (k0:LU→OA):Nat→LU→UInt8→OA
 | 0=>fun _ _=>none
 | n+1=>qqr k0 (qmb k0 n) n
def qqs (_n:Nat) (s0:LU):OA :=
 qwR s0
def qwS (n:Nat) (s0:LU) (c1:UInt8):OA :=
 qmb (qqs n) n s0 c1
def qax (s0:LU):=(wrap .i64 ((s0.length:Int) - (1:Int)))
def qgA (k0:LU→OA) (next:LU→List Bool→OA) (_n:Nat) (s0:LU) (as1:List Bool):OA :=
 bif (decide ((0:Int) < (s0.length:Int))) then bif ((decide (0≤(qax s0)))&&(decide ((qax s0) < s0.length))) then bif (!(z168 as1 (s0.getD (qax s0).toNat (0:UInt8)))) then k0 s0 else bif (((decide (0≤((0:Nat):Int)))&&(decide (((0:Nat):Int)≤(qax s0))))&&(decide ((qax s0)≤(s0.length:Int)))) then next (drop ((0:Nat):Int).toNat (take (qax s0).toNat s0)) as1 else none else none else k0 s0
def qhF (k0:LU→OA):Nat→LU→List Bool→OA
 | 0=>fun _ _=>none
 | n+1=>qgA k0 (qhF k0 n) n
def qqt (_n:Nat) (s0:LU):OA :=
 qwR s0
def qqu (n:Nat) (s0:LU) (as1:List Bool):OA :=
 qhF (qqt n) n s0 as1
def qwU (_n:Nat) (s0:LU) (cutset1:LU):OA :=
 bif ((s0.length:Int)==(0:Int)) then
 qwR s0
 else
 bif (cutset1==([]:LU)) then
 qwR s0
 else
 bif ((cutset1.length:Int)==(1:Int)) then
 bif ((decide (0≤(0:Int)))&&(decide ((0:Int) < cutset1.length))) then
 bif (decide ((cutset1.getD (0:Int).toNat (0:UInt8)) < (128:UInt8))) then
 bif ((decide (0≤(0:Int)))&&(decide ((0:Int) < cutset1.length))) then
 bif ((quf s0 (cutset1.getD (0:Int).toNat (0:UInt8)))&&true) then
 qwR (z206 s0 (cutset1.getD (0:Int).toNat (0:UInt8)))
 else none
 else none
 else
 bif ((qdK cutset1)&&true) then
 bif ((z167 cutset1).2) then
 bif ((qlw s0 ((z167 cutset1).1))&&true) then
 qwR (z208 s0 ((z167 cutset1).1))
 else none
 else
 bif ((qug s0 cutset1)&&true) then
 qwR (z210 s0 cutset1)
 else none
 else none
 else none
 else
 bif ((qdK cutset1)&&true) then
 bif ((z167 cutset1).2) then
 bif ((qlw s0 ((z167 cutset1).1))&&true) then
 qwR (z208 s0 ((z167 cutset1).1))
 else none
 else
 bif ((qug s0 cutset1)&&true) then
 qwR (z210 s0 cutset1)
 else none
 else none
def qEx (_n:Nat) (s0:LU) (suffix1:LU):OA :=
 bif (decide ((suffix1.length:Int)≤(s0.length:Int))) then
 bif (((decide (0≤(wrap .i64 ((s0.length:Int) - (suffix1.length:Int)))))&&(decide ((wrap .i64 ((s0.length:Int) - (suffix1.length:Int)))≤(s0.length:Int))))&&(decide ((s0.length:Int)≤(s0.length:Int)))) then
 qwM (z194 (drop (wrap .i64 ((s0.length:Int) - (suffix1.length:Int))).toNat (take (s0.length:Int).toNat s0)) suffix1)
 else none
 else
 qwM false
def qor (before4:LU) (found5:Bool):OA:=some (.tup [(da before4),(dg found5)])
def qEy (_n:Nat) (s0:LU) (suffix1:LU):OA :=
 bif ((qiE s0 suffix1)&&true) then
 bif (!(z215 s0 suffix1)) then
 qor s0 false
 else
 bif (((decide (0≤((0:Nat):Int)))&&(decide (((0:Nat):Int)≤(wrap .i64 ((s0.length:Int) - (suffix1.length:Int))))))&&(decide ((wrap .i64 ((s0.length:Int) - (suffix1.length:Int)))≤(s0.length:Int)))) then
 qor (drop ((0:Nat):Int).toNat (take (wrap .i64 ((s0.length:Int) - (suffix1.length:Int))).toNat s0)) true
 else none
 else none
def qEz (_n:Nat) (l0:LU):OA :=
 bif ((qiI l0 ([32,9]:LU))&&true) then
 bif ((qpZ (z172 l0 ([32,9]:LU)) ([(61:UInt8)]:LU))&&true) then
 qor ((z173 (z172 l0 ([32,9]:LU)) ([(61:UInt8)]:LU)).1) ((z173 (z172 l0 ([32,9]:LU)) ([(61:UInt8)]:LU)).2)
 else none
 else none
def qN:=(bits .or .i64 (bits .or .i64 (0:Int) (1:Int)) (656:Int))
def qcS:=(bits .or .i64 (bits .or .i64 (0:Int) (1:Int)) (2:Int))
def qEA (_n:Nat) (c0:UInt8):OA :=
 bif (decide (c0 < (32:UInt8))) then bif (c0==(32:UInt8)) then qEt (qcS) else bif (c0==(9:UInt8)) then qEt (qcS) else bif (decide ((48:UInt8)≤c0)) then bif (decide (c0≤(57:UInt8))) then qEt (bits .or .i64 (bits .or .i64 (0:Int) (1:Int)) (648:Int)) else bif (decide ((65:UInt8)≤c0)) then bif (decide (c0≤(90:UInt8))) then bif (decide (c0≤(90:UInt8))) then qEt (qN) else qEt (bits .or .i64 (0:Int) (1:Int)) else bif (decide ((97:UInt8)≤c0)) then bif (decide (c0≤(122:UInt8))) then qEt (qN) else qEt (bits .or .i64 (0:Int) (1:Int)) else qEt (bits .or .i64 (0:Int) (1:Int)) else bif (decide ((97:UInt8)≤c0)) then bif (decide (c0≤(122:UInt8))) then qEt (qN) else qEt (bits .or .i64 (0:Int) (1:Int)) else qEt (bits .or .i64 (0:Int) (1:Int)) else bif (decide ((65:UInt8)≤c0)) then bif (decide (c0≤(90:UInt8))) then bif (decide (c0≤(90:UInt8))) then qEt (qN) else qEt (bits .or .i64 (0:Int) (1:Int)) else bif (decide ((97:UInt8)≤c0)) then bif (decide (c0≤(122:UInt8))) then qEt (qN) else qEt (bits .or .i64 (0:Int) (1:Int)) else qEt (bits .or .i64 (0:Int) (1:Int)) else bif (decide ((97:UInt8)≤c0)) then bif (decide (c0≤(122:UInt8))) then qEt (qN) else qEt (bits .or .i64 (0:Int) (1:Int)) else qEt (bits .or .i64 (0:Int) (1:Int)) else bif (c0==(127:UInt8)) then bif (c0==(32:UInt8)) then qEt (qcS) else bif (c0==(9:UInt8)) then qEt (qcS) else bif (decide ((48:UInt8)≤c0)) then bif (decide (c0≤(57:UInt8))) then qEt (bits .or .i64 (bits .or .i64 (0:Int) (1:Int)) (648:Int)) else bif (decide ((65:UInt8)≤c0)) then bif (decide (c0≤(90:UInt8))) then bif (decide (c0≤(90:UInt8))) then qEt (qN) else qEt (bits .or .i64 (0:Int) (1:Int)) else bif (decide ((97:UInt8)≤c0)) then bif (decide (c0≤(122:UInt8))) then qEt (qN) else qEt (bits .or .i64 (0:Int) (1:Int)) else qEt (bits .or .i64 (0:Int) (1:Int)) else bif (decide ((97:UInt8)≤c0)) then bif (decide (c0≤(122:UInt8))) then qEt (qN) else qEt (bits .or .i64 (0:Int) (1:Int)) else qEt (bits .or .i64 (0:Int) (1:Int)) else bif (decide ((65:UInt8)≤c0)) then bif (decide (c0≤(90:UInt8))) then bif (decide (c0≤(90:UInt8))) then qEt (qN) else qEt (bits .or .i64 (0:Int) (1:Int)) else bif (decide ((97:UInt8)≤c0)) then bif (decide (c0≤(122:UInt8))) then qEt (qN) else qEt (bits .or .i64 (0:Int) (1:Int)) else qEt (bits .or .i64 (0:Int) (1:Int)) else bif (decide ((97:UInt8)≤c0)) then bif (decide (c0≤(122:UInt8))) then qEt (qN) else qEt (bits .or .i64 (0:Int) (1:Int)) else qEt (bits .or .i64 (0:Int) (1:Int)) else bif (c0==(32:UInt8)) then qEt (bits .or .i64 (0:Int) (2:Int)) else bif (c0==(9:UInt8)) then qEt (bits .or .i64 (0:Int) (2:Int)) else bif (decide ((48:UInt8)≤c0)) then bif (decide (c0≤(57:UInt8))) then qEt (bits .or .i64 (0:Int) (648:Int)) else bif (decide ((65:UInt8)≤c0)) then bif (decide (c0≤(90:UInt8))) then bif (decide (c0≤(90:UInt8))) then qEt (bits .or .i64 (0:Int) (656:Int)) else qEt (0:Int) else bif (decide ((97:UInt8)≤c0)) then bif (decide (c0≤(122:UInt8))) then qEt (bits .or .i64 (0:Int) (656:Int)) else qEt (0:Int) else qEt (0:Int) else bif (decide ((97:UInt8)≤c0)) then bif (decide (c0≤(122:UInt8))) then qEt (bits .or .i64 (0:Int) (656:Int)) else qEt (0:Int) else qEt (0:Int) else bif (decide ((65:UInt8)≤c0)) then bif (decide (c0≤(90:UInt8))) then bif (decide (c0≤(90:UInt8))) then qEt (bits .or .i64 (0:Int) (656:Int)) else qEt (0:Int) else bif (decide ((97:UInt8)≤c0)) then bif (decide (c0≤(122:UInt8))) then qEt (bits .or .i64 (0:Int) (656:Int)) else qEt (0:Int) else qEt (0:Int) else bif (decide ((97:UInt8)≤c0)) then bif (decide (c0≤(122:UInt8))) then qEt (bits .or .i64 (0:Int) (656:Int)) else qEt (0:Int) else qEt (0:Int)
def qLO (_n:Nat) (s0:LU) (c1:UInt8):OA :=
 qEt (z164 s0 c1)
def qLP (_n:Nat) (s0:LU) (c1:UInt8):OA :=
 qEt (z236 s0 c1)
def qLQ (_n:Nat) (s0:LU) (c1:UInt8):OA :=
 qwM (decide (0≤(z216 s0 c1)))
def qbd (c0:UInt8):=(bits .or .i64 (z228 c0) (4:Int))
def qcT (c0:UInt8):=(z229 ([40,41,60,62,64,44,59,58,92,34,47,91,93,63,61]:LU) c0)
def qby (c0:UInt8):=(bits .or .i64 (qbd c0) (128:Int))
def qEB (_n:Nat) (c0:UInt8):OA :=
 bif (decide (c0 < (33:UInt8))) then qEt (z228 c0) else bif (decide ((126:UInt8) < c0)) then qEt (z228 c0) else bif (z229 ([33,42,43,45,47]:LU) c0) then bif (z229 ([43,47]:LU) c0) then bif (qcT c0) then qEt (bits .or .i64 (bits .or .i64 (qby c0) (512:Int)) (32:Int)) else bif (!(z229 ([42,39,37]:LU) c0)) then qEt (bits .or .i64 (bits .or .i64 (bits .or .i64 (qby c0) (512:Int)) (64:Int)) (256:Int)) else qEt (bits .or .i64 (bits .or .i64 (qby c0) (512:Int)) (64:Int)) else bif (qcT c0) then qEt (bits .or .i64 (qby c0) (32:Int)) else bif (!(z229 ([42,39,37]:LU) c0)) then qEt (bits .or .i64 (bits .or .i64 (qby c0) (64:Int)) (256:Int)) else qEt (bits .or .i64 (qby c0) (64:Int)) else bif (z229 ([43,47]:LU) c0) then bif (qcT c0) then qEt (bits .or .i64 (bits .or .i64 (qbd c0) (512:Int)) (32:Int)) else bif (!(z229 ([42,39,37]:LU) c0)) then qEt (bits .or .i64 (bits .or .i64 (bits .or .i64 (qbd c0) (512:Int)) (64:Int)) (256:Int)) else qEt (bits .or .i64 (bits .or .i64 (qbd c0) (512:Int)) (64:Int)) else bif (qcT c0) then qEt (bits .or .i64 (qbd c0) (32:Int)) else bif (!(z229 ([42,39,37]:LU) c0)) then qEt (bits .or .i64 (bits .or .i64 (qbd c0) (64:Int)) (256:Int)) else qEt (bits .or .i64 (qbd c0) (64:Int))
def qLR (_n:Nat) (c0:UInt8) (kinds1:Int):OA :=
 qwM ((bits .and .i64 (z198 c0) kinds1) != (0:Int))
def qjX (s2:UInt8):OA:=some (dm s2 none)
def qEC (_n:Nat) (c0:UInt8):OA :=
 bif (decide ((65:UInt8)≤c0)) then
 bif (decide (c0≤(90:UInt8))) then
 qjX (c0 ||| (32:UInt8))
 else
 qjX c0
 else
 qjX c0
def qhG (s2:Int) (s3:Bool):OA:=some (.tup [(dc s2),(dg s3)])
def qED (_n:Nat) (c0:UInt8):OA :=
 bif (z144 (z154 c0) (8:Int)) then
 qhG (wrap .i64 ((toNat ((z154 c0) - (48:UInt8)):Nat):Int)) true
 else
 bif (decide ((97:UInt8)≤(z154 c0))) then
 bif (decide ((z154 c0)≤(102:UInt8))) then
 qhG (wrap .i64 ((wrap .i64 ((toNat ((z154 c0) - (97:UInt8)):Nat):Int))+(10:Int))) true
 else
 qhG (0:Int) false
 else
 qhG (0:Int) false
def qjY (s4:UInt8) (s5:Bool):OA:=some (.tup [(dm s4 none),(dg s5)])
def qEE (_n:Nat) (a0:UInt8) (b1:UInt8):OA :=
 bif (!((z230 a0).2)) then
 qjY (0:UInt8) false
 else
 bif (!((z230 b1).2)) then
 qjY (0:UInt8) false
 else
 qjY (ofNat (wrap .u8 (bits .or .i64 (wrap .i64 (((z230 a0).1)*2 ^ (min (4:Int).toNat (IntKind.bits .i64)))) ((z230 b1).1))).toNat) true
def qhI (s0:LU) (at1:Int):=(z199 (s0.getD (wrap .i64 (at1+1)).toNat (0:UInt8)) (s0.getD (wrap .i64 (at1+(2:Int))).toNat (0:UInt8)))
def qEF (_n:Nat) (s0:LU) (at1:Int) (sign2:UInt8):OA :=
 bif (decide (at1 < (0:Int))) then qjY (0:UInt8) false else bif (decide ((wrap .i64 ((s0.length:Int) - (3:Int))) < at1)) then qjY (0:UInt8) false else bif ((decide (0≤at1))&&(decide (at1 < s0.length))) then bif ((s0.getD at1.toNat (0:UInt8)) != sign2) then qjY (0:UInt8) false else bif ((decide (0≤(wrap .i64 (at1+1))))&&(decide ((wrap .i64 (at1+1)) < s0.length))) then bif ((decide (0≤(wrap .i64 (at1+(2:Int)))))&&(decide ((wrap .i64 (at1+(2:Int))) < s0.length))) then qjY ((qhI s0 at1).1) ((qhI s0 at1).2) else none else none else none
def qxa (s2:LU) (s3:Int):OA:=some (.tup [(da s2),(dc s3)])
def qaP (l0:LU) (at6:Int):=([(l0.getD at6.toNat (0:UInt8))]:LU)
def qds (k0:LU→Int→OA) (next:LU→LU→Int→Int→OA) (_n:Nat) (l0:LU) (out4:LU) (strange5:Int) (at6:Int):OA :=
 bif (decide (at6 < (l0.length:Int))) then bif ((qiC l0 at6 (61:UInt8))&&true) then bif ((z145 l0 at6 (61:UInt8)).2) then bif (decide (out4.length+length ([((z145 l0 at6 (61:UInt8)).1)]:LU)≤room)) then next l0 (out4++([((z145 l0 at6 (61:UInt8)).1)]:LU)) strange5 (wrap .i64 (at6+(3:Int))) else none else bif ((decide (0≤at6))&&(decide (at6 < l0.length))) then bif ((l0.getD at6.toNat (0:UInt8))==(61:UInt8)) then bif ((decide (0≤at6))&&(decide (at6 < l0.length))) then bif (decide (out4.length+length (qaP l0 at6)≤room)) then next l0 (out4++(qaP l0 at6)) (wrap .i64 (strange5+1)) (wrap .i64 (at6+1)) else none else none else bif ((decide (0≤at6))&&(decide (at6 < l0.length))) then bif (decide (out4.length+length (qaP l0 at6)≤room)) then next l0 (out4++(qaP l0 at6)) strange5 (wrap .i64 (at6+1)) else none else none else none else none else k0 out4 strange5
def qiJ (k0:LU→Int→OA):Nat→LU→LU→Int→Int→OA
 | 0=>fun _ _ _ _=>none
 | n+1=>qds k0 (qiJ k0 n) n
def qjZ (_n:Nat) (out4:LU) (strange5:Int):OA :=
 qxa out4 strange5
def qqv (n:Nat) (l0:LU):OA :=
 qiJ (qjZ n) n l0 ([]:LU) (0:Int) (0:Int)
def qLS (_n:Nat) (l0:LU):OA :=
 bif ((qqm l0)&&true) then
 bif ((qqn ((z111 l0).1))&&true) then
 qor ((z112 ((z111 l0).1)).1) ((z111 l0).2)
 else none
 else none
def qos (n:Nat) (x:Bool×LU×Unit) (y0:LU) (y1:LU):Bool×Bool×(Bool×LU×Unit) :=
 bif x.1 then (false,false,x) else yfin (.pair (.sl .byte) .unit) x (
 bif ((qBL y0)&&true) then
 bif (decide (length x.2.1+length ((z53 y0).1)≤room)) then
 bif (!((z53 y0).2)) then
 bif (decide (length (x.2.1++((z53 y0).1))+y1.length≤room)) then
 some (.dat (.pair .bool (.pair (.sl .byte) .unit)) (false,(((x.2.1++((z53 y0).1))++y1),())) none)
 else none
 else
 some (.dat (.pair .bool (.pair (.sl .byte) .unit)) (false,((x.2.1++((z53 y0).1)),())) none)
 else none
 else none)
def qHZ (n:Nat) (s0:LU):OA :=
 bif (z108 (qos n) (false,(([]:LU),())) s0).1 then
 bif (z108 (qos n) (false,(([]:LU),())) s0).2.1.1 then
 qwR ([]:LU)
 else
 qwR (z108 (qos n) (false,(([]:LU),())) s0).2.1.2.1
 else none
def qhJ (c0:UInt8):=(z216 ([65,66,67,68,69,70,71,72,73,74,75,76,77,78,79,80,81,82,83,84,85,86,87,88,89,90,97,98,99,100,101,102,103,104,105,106,107,108,109,110,111,112,113,114,115,116,117,118,119,120,121,122,48,49,50,51,52,53,54,55,56,57,43,47]:LU) c0)
def qLT (_n:Nat) (c0:UInt8):OA :=
 qhG (bif (decide ((0:Int) > (qhJ c0))) then (0:Int) else (qhJ c0)) (decide (0≤(qhJ c0)))
def qn (s7:LU) (s9:Int):=(s7.getD s9.toNat (0:UInt8))
def qdt (V:Sigma Inv) (ret:Den V.1→LU→OA) (k0:Den V.1→LU→OA) (next:LU→Int→Int→Den V.1→LU→OA) (_n:Nat) (s7:LU) (s8:Int) (s9:Int) (xv:Den V.1) (s29:LU):OA :=
 bif (decide (s9 < s8)) then bif ((decide (0≤s9))&&(decide (s9 < s7.length))) then bif ((qn s7 s9)==(61:UInt8)) then ret xv s29 else bif (!((z175 (qn s7 s9)).2)) then bif (V.2.spec xv [⟨.byte,(qn s7 s9)⟩,⟨(.int .i64),(-1:Int)⟩]).1 then bif (!(V.2.spec xv [⟨.byte,(qn s7 s9)⟩,⟨(.int .i64),(-1:Int)⟩]).2.1) then ret (V.2.spec xv [⟨.byte,(qn s7 s9)⟩,⟨(.int .i64),(-1:Int)⟩]).2.2 s29 else next s7 s8 (wrap .i64 (s9+1)) (V.2.spec xv [⟨.byte,(qn s7 s9)⟩,⟨(.int .i64),(-1:Int)⟩]).2.2 s29 else none else bif (V.2.spec xv [⟨.byte,(qn s7 s9)⟩,⟨(.int .i64),((z175 (qn s7 s9)).1)⟩]).1 then bif (!(V.2.spec xv [⟨.byte,(qn s7 s9)⟩,⟨(.int .i64),((z175 (qn s7 s9)).1)⟩]).2.1) then ret (V.2.spec xv [⟨.byte,(qn s7 s9)⟩,⟨(.int .i64),((z175 (qn s7 s9)).1)⟩]).2.2 s29 else next s7 s8 (wrap .i64 (s9+1)) (V.2.spec xv [⟨.byte,(qn s7 s9)⟩,⟨(.int .i64),((z175 (qn s7 s9)).1)⟩]).2.2 s29 else none else none else k0 xv s29
def qfY (V:Sigma Inv) (ret:Den V.1→LU→OA) (k0:Den V.1→LU→OA):Nat→LU→Int→Int→Den V.1→LU→OA
 | 0=>fun _ _ _ _ _=>none
 | n+1=>(qdt V) ret k0 ((qfY V) ret k0 n) n
def qeJ (V:Sigma Inv) (_n:Nat) (xv:Den V.1) (s29:LU):OA :=
 (qhE V) xv s29
def qqw (V:Sigma Inv) (n:Nat) (x0:Den V.1) (x1:LU):OA :=
 (qfY V) (qhE V) ((qeJ V) n) n x1 (x1.length:Int) (0:Int) x0 x1
def qLU (_n:Nat) (s0:LU):OA :=
 some (.abs (qcI [.leaf (.sl .byte)]) (clInv 174 [.leaf (.sl .byte)]) (s0,()))
def qmc (n:Nat) (x:Bool×LU×Int×Int×Unit) (y0:UInt8) (y1:Int):Bool×Bool×(Bool×LU×Int×Int×Unit) :=
 bif x.1 then (false,false,x) else yfin (.pair (.sl .byte) (.pair (.int .i64) (.pair (.int .i64) .unit))) x (
 bif (decide (y1 < (0:Int))) then
 some (.dat (.pair .bool (.pair (.sl .byte) (.pair (.int .i64) (.pair (.int .i64) .unit)))) (false,(x.2.1,(x.2.2.1,(x.2.2.2.1,())))) none)
 else
 bif (decide ((8:Int)≤(wrap .i64 (x.2.2.2.1+(6:Int))))) then
 bif (decide (0≤(wrap .i64 ((wrap .i64 (x.2.2.2.1+(6:Int))) - (8:Int))))) then
 bif (decide (length x.2.1+length ([(ofNat (wrap .u8 (Int.fdiv (bits .or .i64 (wrap .i64 (x.2.2.1*2 ^ (min (6:Int).toNat (IntKind.bits .i64)))) y1) (2 ^ (min (wrap .i64 ((wrap .i64 (x.2.2.2.1+(6:Int))) - (8:Int))).toNat (IntKind.bits .i64))))).toNat)]:LU)≤room)) then
 bif (decide (0≤(wrap .i64 ((wrap .i64 (x.2.2.2.1+(6:Int))) - (8:Int))))) then
 some (.dat (.pair .bool (.pair (.sl .byte) (.pair (.int .i64) (.pair (.int .i64) .unit)))) (false,((x.2.1++([(ofNat (wrap .u8 (Int.fdiv (bits .or .i64 (wrap .i64 (x.2.2.1*2 ^ (min (6:Int).toNat (IntKind.bits .i64)))) y1) (2 ^ (min (wrap .i64 ((wrap .i64 (x.2.2.2.1+(6:Int))) - (8:Int))).toNat (IntKind.bits .i64))))).toNat)]:LU)),((bits .and .i64 (bits .or .i64 (wrap .i64 (x.2.2.1*2 ^ (min (6:Int).toNat (IntKind.bits .i64)))) y1) (wrap .i64 ((wrap .i64 ((1:Int)*2 ^ (min (wrap .i64 ((wrap .i64 (x.2.2.2.1+(6:Int))) - (8:Int))).toNat (IntKind.bits .i64)))) - (1:Int)))),((wrap .i64 ((wrap .i64 (x.2.2.2.1+(6:Int))) - (8:Int))),())))) none)
 else none
 else none
 else none
 else
 some (.dat (.pair .bool (.pair (.sl .byte) (.pair (.int .i64) (.pair (.int .i64) .unit)))) (false,(x.2.1,((bits .or .i64 (wrap .i64 (x.2.2.1*2 ^ (min (6:Int).toNat (IntKind.bits .i64)))) y1),((wrap .i64 (x.2.2.2.1+(6:Int))),())))) none))
def qeK (n:Nat) (s0:LU):=(z174 (qmc n) (false,(([]:LU),((0:Int),((0:Int),())))) s0)
def qgB (n:Nat) (s0:LU):=( qxa (qeK n s0).2.1.2.1 (qeK n s0).2.1.2.2.2.1)
def qIa (n:Nat) (s0:LU):OA :=
 bif (qeK n s0).1 then bif (qeK n s0).2.1.1 then qxa ([]:LU) (0:Int) else both ( both (qgB n s0) (qgB n s0)) (qgB n s0) else none
def qLV (_n:Nat) (s0:LU):OA :=
 bif ((qzO s0)&&true) then
 qwR ((z54 s0).1)
 else none
def qxd (s2:LI):OA:=some (.dat (.sl (.int .i32)) s2 (some (2,21)))
def qfs (k0:LI→OA) (next:LI→LU→Int→Int→OA) (_n:Nat) (t3:LI) (s9:LU) (s10:Int) (s11:Int):OA :=
 bif (decide (s11 < s10)) then
 bif ((decide (0≤s11))&&(decide (s11 < s9.length))) then
 bif ((decide (0≤s11))&&(decide (s11 < t3.length))) then
 next (set t3 s11.toNat (wrap .i32 ((toNat (s9.getD s11.toNat (0:UInt8)):Nat):Int))) s9 s10 (wrap .i64 (s11+1))
 else none
 else none
 else
 k0 t3
def qsl (k0:LI→OA):Nat→LI→LU→Int→Int→OA
 | 0=>fun _ _ _ _=>none
 | n+1=>qfs k0 (qsl k0 n) n
def qou (_n:Nat) (t3:LI):OA :=
 qxd t3
def qBO (n:Nat) (s0:LU):OA :=
 bif (((decide (0≤(s0.length:Int)))&&(decide ((s0.length:Int)≤(s0.length:Int))))&&(decide ((s0.length:Int)≤(room:Int)))) then
 qsl (qou n) n (replicate (s0.length:Int).toNat 0) s0 (s0.length:Int) (0:Int)
 else none
def qov (s2:Int):OA:=some (di s2 none)
def qEI (_n:Nat) (c0:Int):OA :=
 bif (decide ((128:Int)≤c0)) then
 qov (65533:Int)
 else
 qov c0
def qft (k0:LI→OA) (next:LI→Int→Int→OA) (_n:Nat) (t3:LI) (s10:Int) (s11:Int):OA :=
 bif (decide (s11 < s10)) then
 bif ((decide (0≤s11))&&(decide (s11 < t3.length))) then
 bif ((decide (0≤s11))&&(decide (s11 < t3.length))) then
 next (set t3 s11.toNat (z114 (t3.getD s11.toNat 0))) s10 (wrap .i64 (s11+1))
 else none
 else none
 else
 k0 t3
def qsm (k0:LI→OA):Nat→LI→Int→Int→OA
 | 0=>fun _ _ _=>none
 | n+1=>qft k0 (qsm k0 n) n
def qow (_n:Nat) (t3:LI):OA :=
 qxd t3
def qBP (n:Nat) (s0:LU):OA :=
 bif ((qrO s0)&&true) then
 qsm (qow n) n (z59 s0) ((z59 s0).length:Int) (0:Int)
 else none
def qxf (s0:List (UInt8×(Int×Unit))):OA:=some (.dat (.arr 8 (.pair .byte (.pair (.int .i32) .unit))) s0 none)
def qLW (_n:Nat):OA :=
 qxf ([((164:UInt8),((8364:Int),())),((166:UInt8),((352:Int),())),((168:UInt8),((353:Int),())),((180:UInt8),((381:Int),())),((184:UInt8),((382:Int),())),((188:UInt8),((338:Int),())),((189:UInt8),((339:Int),())),((190:UInt8),((376:Int),()))]:List (UInt8×(Int×Unit)))
def qqx (ret:Int→OA) (k0:UInt8→OA) (next:UInt8→List (UInt8×(Int×Unit))→Int→OA) (_n:Nat) (x0:UInt8) (s5:List (UInt8×(Int×Unit))) (s6:Int):OA :=
 bif (decide (s6 < (8:Int))) then
 bif ((decide (0≤s6))&&(decide (s6 < (8:Nat)))) then
 bif ((s5.getD s6.toNat ((0:UInt8),((0:Int),()))).1==x0) then
 ret (s5.getD s6.toNat ((0:UInt8),((0:Int),()))).2.1
 else
 next x0 s5 (wrap .i64 (s6+1))
 else none
 else
 k0 x0
def qmd (ret:Int→OA) (k0:UInt8→OA):Nat→UInt8→List (UInt8×(Int×Unit))→Int→OA
 | 0=>fun _ _ _=>none
 | n+1=>qqx ret k0 (qmd ret k0 n) n
def qqy (_n:Nat) (x0:UInt8):OA :=
 qov (wrap .i32 ((toNat x0:Nat):Int))
def qqz (n:Nat) (x0:UInt8):OA :=
 qmd qov (qqy n) n x0 z176 (0:Int)
def qfu (k0:LI→OA) (next:LI→LU→Int→Int→OA) (_n:Nat) (t3:LI) (s6:LU) (s7:Int) (s8:Int):OA :=
 bif (decide (s8 < s7)) then
 bif ((decide (0≤s8))&&(decide (s8 < s6.length))) then
 bif (decide (t3.length+length ([(z115 (s6.getD s8.toNat (0:UInt8)))]:LI)≤room)) then
 next (t3++([(z115 (s6.getD s8.toNat (0:UInt8)))]:LI)) s6 s7 (wrap .i64 (s8+1))
 else none
 else none
 else
 k0 t3
def qsn (k0:LI→OA):Nat→LI→LU→Int→Int→OA
 | 0=>fun _ _ _ _=>none
 | n+1=>qfu k0 (qsn k0 n) n
def qka (_n:Nat) (t3:LI):OA :=
 qxd t3
def qBQ (n:Nat) (s0:LU):OA :=
 qsn (qka n) n ([]:LI) s0 (s0.length:Int) (0:Int)
def qxg (s0:LI):OA:=some (.dat (.sl (.int .i32)) s0 none)
def qEK (_n:Nat):OA :=
 qxg (drop 0 (take 32 ([(8364:Int),(0:Int),(8218:Int),(402:Int),(8222:Int),(8230:Int),(8224:Int),(8225:Int),(710:Int),(8240:Int),(352:Int),(8249:Int),(338:Int),(0:Int),(381:Int),(0:Int),(0:Int),(8216:Int),(8217:Int),(8220:Int),(8221:Int),(8226:Int),(8211:Int),(8212:Int),(732:Int),(8482:Int),(353:Int),(8250:Int),(339:Int),(0:Int),(382:Int),(376:Int)]:LI)))
def qcU (x0:UInt8):=((toNat (x0 - (128:UInt8)):Nat):Int)
def qEL (_n:Nat) (x0:UInt8):OA :=
 bif (decide (x0 < (128:UInt8))) then qov (wrap .i32 ((toNat x0:Nat):Int)) else bif (decide ((160:UInt8)≤x0)) then qov (wrap .i32 ((toNat x0:Nat):Int)) else bif ((decide (0≤(qcU x0)))&&(decide ((qcU x0) < z177.length))) then bif ((z177.getD (qcU x0).toNat 0) != (0:Int)) then qov (z177.getD (qcU x0).toNat 0) else qov (65533:Int) else none
def qfv (k0:LI→OA) (next:LI→LU→Int→Int→OA) (_n:Nat) (t3:LI) (s9:LU) (s10:Int) (s11:Int):OA :=
 bif (decide (s11 < s10)) then
 bif ((decide (0≤s11))&&(decide (s11 < s9.length))) then
 bif (decide (t3.length+length ([(z116 (s9.getD s11.toNat (0:UInt8)))]:LI)≤room)) then
 next (t3++([(z116 (s9.getD s11.toNat (0:UInt8)))]:LI)) s9 s10 (wrap .i64 (s11+1))
 else none
 else none
 else
 k0 t3
def qso (k0:LI→OA):Nat→LI→LU→Int→Int→OA
 | 0=>fun _ _ _ _=>none
 | n+1=>qfv k0 (qso k0 n) n
def qkb (_n:Nat) (t3:LI):OA :=
 qxd t3
def qBR (n:Nat) (s0:LU):OA :=
 bif (((decide (0≤(0:Int)))&&(decide (0≤(s0.length:Int))))&&(decide ((s0.length:Int)≤(room:Int)))) then
 qso (qkb n) n (replicate (0:Int).toNat 0) s0 (s0.length:Int) (0:Int)
 else none
def qox (s13:LI):OA:=some (.tup [(.tup []),.bad,.bad,(.pbox (.osl 21 (.int .i32)) s13 none)])
def qxh (_n:Nat) (c0:Int) (e1:Int) (x2:LI):OA :=
 bif (e1 != (0:Int)) then
 bif (decide (x2.length+length ([(65533:Int)]:LI)≤room)) then
 qox (x2++([(65533:Int)]:LI))
 else none
 else
 bif (decide (x2.length+length ([c0]:LI)≤room)) then
 qox (x2++([c0]:LI))
 else none
def qEN (_n:Nat) (n0:Int):OA :=
 bif (n0==(2:Int)) then
 qjX (192:UInt8)
 else
 bif (n0==(3:Int)) then
 qjX (224:UInt8)
 else
 bif (n0==(4:Int)) then
 qjX (240:UInt8)
 else
 qjX (0:UInt8)
def qEO (_n:Nat) (c0:UInt8):OA :=
 bif (decide (c0 < (128:UInt8))) then
 qEt (1:Int)
 else
 bif (decide (c0 < (194:UInt8))) then
 qEt (0:Int)
 else
 bif (decide ((244:UInt8) < c0)) then
 qEt (0:Int)
 else
 bif (decide (c0 < (224:UInt8))) then
 qEt (2:Int)
 else
 bif (decide (c0 < (240:UInt8))) then
 qEt (3:Int)
 else
 qEt (4:Int)
def qEP (_n:Nat) (c0:UInt8):OA :=
 qwM ((c0 &&& ~~~ (63:UInt8))==(128:UInt8))
def qEQ (_n:Nat) (first0:UInt8) (c1:UInt8):OA :=
 bif (first0==(224:UInt8)) then
 bif (decide ((160:UInt8)≤c1)) then
 qwM (z237 c1)
 else
 qwM false
 else
 bif (first0==(237:UInt8)) then
 bif (decide (c1 < (160:UInt8))) then
 qwM (z237 c1)
 else
 qwM false
 else
 bif (first0==(240:UInt8)) then
 bif (decide ((144:UInt8)≤c1)) then
 qwM (z237 c1)
 else
 qwM false
 else
 bif (first0==(244:UInt8)) then
 bif (decide (c1 < (144:UInt8))) then
 qwM (z237 c1)
 else
 qwM false
 else
 qwM (z237 c1)
def qbM (ret:Int→OA) (k0:LU→Int→OA) (next:LU→Int→OA) (_n:Nat) (s0:LU) (n3:Int):OA :=
 bif ((decide (0≤(0:Int)))&&(decide ((0:Int) < s0.length))) then
 bif (decide (n3 < (z218 (s0.getD (0:Int).toNat (0:UInt8))))) then
 bif (decide (n3 < (s0.length:Int))) then
 bif ((decide (0≤n3))&&(decide (n3 < s0.length))) then
 bif (!(z237 (s0.getD n3.toNat (0:UInt8)))) then
 ret n3
 else
 bif (n3==(1:Int)) then
 bif ((decide (0≤(0:Int)))&&(decide ((0:Int) < s0.length))) then
 bif ((decide (0≤(1:Int)))&&(decide ((1:Int) < s0.length))) then
 bif (!(z238 (s0.getD (0:Int).toNat (0:UInt8)) (s0.getD (1:Int).toNat (0:UInt8)))) then
 ret n3
 else
 next s0 (wrap .i64 (n3+1))
 else none
 else none
 else
 next s0 (wrap .i64 (n3+1))
 else none
 else
 k0 s0 n3
 else
 k0 s0 n3
 else none
def qhM (ret:Int→OA) (k0:LU→Int→OA):Nat→LU→Int→OA
 | 0=>fun _ _=>none
 | n+1=>qbM ret k0 (qhM ret k0 n) n
def qaI (_n:Nat) (s0:LU) (n3:Int):OA :=
 bif ((decide (0≤(0:Int)))&&(decide ((0:Int) < s0.length))) then
 qEt (bif (decide ((z218 (s0.getD (0:Int).toNat (0:UInt8))) < n3)) then (z218 (s0.getD (0:Int).toNat (0:UInt8))) else n3)
 else none
def qqA (n:Nat) (s0:LU):OA :=
 qhM qEt (qaI n) n s0 (1:Int)
def qcm (s2:Int) (s3:Int) (s4:Int):OA:=some (.tup [(di s2 none),(dc s3),(dc s4)])
def qbY (k1:Int→Int→OA) (next:Int→Int→LU→Int→Int→OA) (_n:Nat) (n5:Int) (c6:Int) (s48:LU) (s49:Int) (s50:Int):OA :=
 bif (decide (s50 < s49)) then
 bif ((decide (0≤s50))&&(decide (s50 < s48.length))) then
 next n5 (bits .or .i32 (wrap .i32 (c6*2 ^ (min (6:Int).toNat (IntKind.bits .i32)))) (wrap .i32 ((toNat ((s48.getD s50.toNat (0:UInt8)) &&& (63:UInt8)):Nat):Int))) s48 s49 (wrap .i64 (s50+1))
 else none
 else
 k1 n5 c6
def qec (k1:Int→Int→OA):Nat→Int→Int→LU→Int→Int→OA
 | 0=>fun _ _ _ _ _=>none
 | n+1=>qbY k1 (qec k1 n) n
def qeL (_n:Nat) (n5:Int) (c6:Int):OA :=
 qcm c6 n5 (0:Int)
def qbA (s0:LU):=((decide (0≤(0:Int)))&&(decide ((0:Int) < s0.length)))
def qbZ (s0:LU):=(drop (1:Int).toNat (take (z217 s0).toNat s0))
def qcV (s0:LU):=(decide ((z217 s0) < (z218 (s0.getD (0:Int).toNat (0:UInt8)))))
def qeM (s0:LU):=(((decide (0≤(1:Int)))&&(decide ((1:Int)≤(z217 s0))))&&(decide ((z217 s0)≤(s0.length:Int))))
def qeN (s0:LU):=(wrap .i32 ((toNat ((s0.getD (0:Int).toNat (0:UInt8)) &&& ~~~ (z185 (z217 s0))):Nat):Int))
def qqB (n:Nat) (s0:LU):OA :=
 bif ((s0.length:Int)==(0:Int)) then qcm (0:Int) (0:Int) (4:Int) else bif ((qiD s0)&&true) then bif ((z217 s0)==(0:Int)) then qcm (0:Int) (1:Int) (3:Int) else bif (qbA s0) then bif (qcV s0) then bif ((z217 s0)==(s0.length:Int)) then qcm (0:Int) (z217 s0) (4:Int) else bif (qbA s0) then bif (qcV s0) then qcm (0:Int) (z217 s0) (3:Int) else bif (qbA s0) then bif (qeM s0) then qec (qeL n) n (z217 s0) (qeN s0) (qbZ s0) ((qbZ s0).length:Int) (0:Int) else none else none else none else bif (qbA s0) then bif (qcV s0) then qcm (0:Int) (z217 s0) (3:Int) else bif (qbA s0) then bif (qeM s0) then qec (qeL n) n (z217 s0) (qeN s0) (qbZ s0) ((qbZ s0).length:Int) (0:Int) else none else none else none else none else none
def qaS (s24:LI):OA:=some (.tup [(.tup []),.bad,(.pbox (.osl 21 (.int .i32)) s24 none)])
def qcn (k0:LI→OA) (next:LU→LI→OA) (_n:Nat) (s0:LU) (s24:LI):OA :=
 bif (decide ((0:Int) < (s0.length:Int))) then
 bif ((qpU s0)&&true) then
 bif (qpX ((z178 s0).1) ((z178 s0).2.2) s24) then
 bif (((decide (0≤((z178 s0).2.1)))&&(decide (((z178 s0).2.1)≤(s0.length:Int))))&&(decide ((s0.length:Int)≤(s0.length:Int)))) then
 next (drop ((z178 s0).2.1).toNat (take (s0.length:Int).toNat s0)) (z118 ((z178 s0).1) ((z178 s0).2.2) s24)
 else none
 else none
 else none
 else
 k0 s24
def qbB (k0:LI→OA):Nat→LU→LI→OA
 | 0=>fun _ _=>none
 | n+1=>qcn k0 (qbB k0 n) n
def qco (_n:Nat) (s24:LI):OA :=
 qaS s24
def qhN (n:Nat) (s0:LU) (f1:LI):OA :=
 qbB (qco n) n s0 f1
def qIb (_n:Nat) (s0:LU):OA :=
 bif (qbU s0 ([]:LI)) then
 qxg (qud s0 ([]:LI))
 else none
def qLX (_n:Nat) (charset0:Int) (s1:LU):OA :=
 bif (charset0==(1:Int)) then
 bif ((qzN s1)&&true) then
 qxg (z55 s1)
 else none
 else
 bif (charset0==(3:Int)) then
 bif ((qzL s1)&&true) then
 qxg (z56 s1)
 else none
 else
 bif (charset0==(4:Int)) then
 bif ((qzM s1)&&true) then
 qxg (z57 s1)
 else none
 else
 bif (charset0==(5:Int)) then
 bif ((qzK s1)&&true) then
 qxg (z58 s1)
 else none
 else
 bif ((qrO s1)&&true) then
 qxg (z59 s1)
 else none
def qLY (_n:Nat) (coding0:Int) (charset1:Int) (s2:LU):OA :=
 bif (coding0==(2:Int)) then
 bif ((qBM s2)&&true) then
 bif ((qlr charset1 (z27 s2))&&true) then
 qxg (z29 charset1 (z27 s2))
 else none
 else none
 else
 bif (coding0==(3:Int)) then
 bif ((qzP s2)&&true) then
 bif ((qlr charset1 (z28 s2))&&true) then
 qxg (z29 charset1 (z28 s2))
 else none
 else none
 else
 bif ((qlr charset1 s2)&&true) then
 qxg (z29 charset1 s2)
 else none
def qNP (_n:Nat) (c0:UInt8):OA :=
 qwM (decide ((128:UInt8)≤c0))
def qgC (ret:Int→OA) (next:LU→LU→Int→OA) (_n:Nat) (s0:LU) (sep1:LU) (n5:Int):OA :=
 bif ((qhq s0 sep1)&&true) then
 bif ((z143 s0 sep1)==(-1:Int)) then
 ret n5
 else
 bif (((decide (0≤(wrap .i64 ((z143 s0 sep1)+(sep1.length:Int)))))&&(decide ((wrap .i64 ((z143 s0 sep1)+(sep1.length:Int)))≤(s0.length:Int))))&&(decide ((s0.length:Int)≤(s0.length:Int)))) then
 next (drop (wrap .i64 ((z143 s0 sep1)+(sep1.length:Int))).toNat (take (s0.length:Int).toNat s0)) sep1 (wrap .i64 (n5+1))
 else none
 else none
def qiL (ret:Int→OA):Nat→LU→LU→Int→OA
 | 0=>fun _ _ _=>none
 | n+1=>qgC ret (qiL ret n) n
def qqD (n:Nat) (s0:LU) (sep1:LU):OA :=
 bif ((sep1.length:Int)==(0:Int)) then
 bif ((qEm s0)&&true) then
 qEt (wrap .i64 ((z192 s0)+1))
 else none
 else
 bif ((sep1.length:Int)==(1:Int)) then
 bif ((decide (0≤(0:Int)))&&(decide ((0:Int) < sep1.length))) then
 qEt (z193 s0 (sep1.getD (0:Int).toNat (0:UInt8)))
 else none
 else
 qiL qEt n s0 sep1 (0:Int)
def qxj (s3:Int) (s9:LU):OA:=some (.tup [(dc s3),.bad,(.pbox (.leaf (.sl .byte)) s9 none)])
def qxk (_n:Nat) (c0:UInt8) (x1:LU):OA :=
 bif ((qeC x1 ([c0]:LU))&&true) then
 qxj (z139 x1 ([c0]:LU)) x1
 else none
def qIc (_n:Nat) (s0:LU):OA :=
 bif ((qeC s0 ([(13:UInt8),(10:UInt8)]:LU))&&true) then
 bif (qiF (13:UInt8) s0) then
 bif (qiF (10:UInt8) ((z140 (13:UInt8) s0).2)) then
 qEt (wrap .i64 ((wrap .i64 (((z140 (13:UInt8) s0).1)+((z140 (10:UInt8) ((z140 (13:UInt8) s0).2)).1))) - (wrap .i64 ((2:Int)*(z139 s0 ([(13:UInt8),(10:UInt8)]:LU))))))
 else none
 else none
 else none
def qxl (before4:LU) (after5:LU) (found6:Bool):OA:=some (.tup [(da before4),(da after5),(dg found6)])
def qLZ (_n:Nat) (s0:LU) (sep1:LU):OA :=
 bif ((qhq s0 sep1)&&true) then
 bif (decide (0≤(z143 s0 sep1))) then
 bif (((decide (0≤((0:Nat):Int)))&&(decide (((0:Nat):Int)≤(z143 s0 sep1))))&&(decide ((z143 s0 sep1)≤(s0.length:Int)))) then
 bif (((decide (0≤(wrap .i64 ((z143 s0 sep1)+(sep1.length:Int)))))&&(decide ((wrap .i64 ((z143 s0 sep1)+(sep1.length:Int)))≤(s0.length:Int))))&&(decide ((s0.length:Int)≤(s0.length:Int)))) then
 qxl (drop ((0:Nat):Int).toNat (take (z143 s0 sep1).toNat s0)) (drop (wrap .i64 ((z143 s0 sep1)+(sep1.length:Int))).toNat (take (s0.length:Int).toNat s0)) true
 else none
 else none
 else
 qxl s0 ([]:LU) false
 else none
def qxm (s2:List LU):OA:=some (.dat (.sl (.sl .byte)) s2 (some (2,24)))
def qaT:=([(13:UInt8),(10:UInt8)]:LU)
def qgD (k0:List LU→OA) (next:LU→List LU→OA) (_n:Nat) (s0:LU) (out3:List LU):OA :=
 bif (decide ((0:Int) < (s0.length:Int))) then bif ((qip s0 (qaT))&&true) then bif ((qdM ((z82 s0 (qaT)).1))&&true) then bif (decide (out3.length+length ([(z153 ((z82 s0 (qaT)).1))]:List LU)≤room)) then next ((z82 s0 (qaT)).2.1) (out3++([(z153 ((z82 s0 (qaT)).1))]:List LU)) else none else none else none else k0 out3
def qfZ (k0:List LU→OA):Nat→LU→List LU→OA
 | 0=>fun _ _=>none
 | n+1=>qgD k0 (qfZ k0 n) n
def qqE (_n:Nat) (out3:List LU):OA :=
 qxm out3
def qqF (n:Nat) (s0:LU):OA :=
 qfZ (qqE n) n s0 ([]:List LU)
def qfx (k0:Int→OA) (next:Int→List LU→Int→Int→OA) (_n:Nat) (n3:Int) (s7:List LU) (s8:Int) (s9:Int):OA :=
 bif (decide (s9 < s8)) then
 bif ((decide (0≤s9))&&(decide (s9 < s7.length))) then
 next (bif (decide (((s7.getD s9.toNat ([]:LU)).length:Int) > n3)) then ((s7.getD s9.toNat ([]:LU)).length:Int) else n3) s7 s8 (wrap .i64 (s9+1))
 else none
 else
 k0 n3
def qme (k0:Int→OA):Nat→Int→List LU→Int→Int→OA
 | 0=>fun _ _ _ _=>none
 | n+1=>qfx k0 (qme k0 n) n
def qoy (_n:Nat) (n3:Int):OA :=
 qEt n3
def qBS (n:Nat) (s0:LU):OA :=
 bif ((qqf s0)&&true) then
 qme (qoy n) n (0:Int) (z142 s0) ((z142 s0).length:Int) (0:Int)
 else none
def qfy (k0:LU→Int→Bool→OA) (next:LU→Int→Bool→LU→Int→Int→OA) (_n:Nat) (s0:LU) (most1:Int) (above6:Bool) (s9:LU) (s10:Int) (s11:Int):OA :=
 bif (decide (s11 < s10)) then
 bif ((decide (0≤s11))&&(decide (s11 < s9.length))) then
 bif above6 then
 next s0 most1 true s9 s10 (wrap .i64 (s11+1))
 else
 next s0 most1 (z78 (s9.getD s11.toNat (0:UInt8))) s9 s10 (wrap .i64 (s11+1))
 else none
 else
 k0 s0 most1 above6
def qmf (k0:LU→Int→Bool→OA):Nat→LU→Int→Bool→LU→Int→Int→OA
 | 0=>fun _ _ _ _ _ _=>none
 | n+1=>qfy k0 (qmf k0 n) n
def qkc (_n:Nat) (s0:LU) (most1:Int) (above6:Bool):OA :=
 bif ((qBr s0)&&true) then
 bif (decide ((0:Int) < (z79 s0))) then
 qEt (8:Int)
 else
 bif (decide (0≤(z80 s0 (0:UInt8)))) then
 qEt (8:Int)
 else
 bif above6 then
 qEt (9:Int)
 else
 bif (decide ((0:Int) < (s0.length:Int))) then
 bif ((qBs s0)&&true) then
 bif (decide (most1 < (z81 s0))) then
 qEt (12:Int)
 else
 qEt (0:Int)
 else none
 else
 qEt (0:Int)
 else none
def qId (n:Nat) (s0:LU) (most1:Int):OA :=
 qmf (qkc n) n s0 most1 false s0 (s0.length:Int) (0:Int)
def qMa (_n:Nat) (s0:LU):OA :=
 bif ((qjU s0 (76:Int))&&true) then
 qxa s0 (z37 s0 (76:Int))
 else none
def qoz (s25:LU×(Int×Unit)):OA:=some (.tup [(.tup []),(.pbox (.ppair (.osl 5 .byte) (.ppair (.leaf (.int .i64)) (.leaf .unit))) s25 none),.bad])
def qca (p0:LU×(Int×Unit)):=((p0.1++([(61:UInt8)]:LU)),p0.2)
def qxn (_n:Nat) (p0:LU×(Int×Unit)) (soft1:Bool):OA :=
 bif soft1 then bif (decide (length p0.1+length ([(61:UInt8)]:LU)≤room)) then bif (decide (length (qca p0).1+length ([13,10]:LU)≤room)) then qoz ((((qca p0).1++([13,10]:LU)),(qca p0).2).1,((0:Int),(((qca p0).1++([13,10]:LU)),(qca p0).2).2.2)) else none else none else bif (decide (length p0.1+length ([13,10]:LU)≤room)) then qoz (((p0.1++([13,10]:LU)),p0.2).1,((0:Int),((p0.1++([13,10]:LU)),p0.2).2.2)) else none
def qxo (_n:Nat) (p0:LU×(Int×Unit)) (u1:LU):OA :=
 bif (decide ((75:Int) < (wrap .i64 (p0.2.1+(u1.length:Int))))) then
 bif (qeG p0 true) then
 bif (decide (length (z121 p0 true).1+u1.length≤room)) then
 qoz ((((z121 p0 true).1++u1),(z121 p0 true).2).1,((wrap .i64 ((((z121 p0 true).1++u1),(z121 p0 true).2).2.1+(u1.length:Int))),(((z121 p0 true).1++u1),(z121 p0 true).2).2.2))
 else none
 else none
 else
 bif (decide (length p0.1+u1.length≤room)) then
 qoz (((p0.1++u1),p0.2).1,((wrap .i64 (((p0.1++u1),p0.2).2.1+(u1.length:Int))),((p0.1++u1),p0.2).2.2))
 else none
def qcW (s0:LU) (at1:Int):=((decide (0≤at1))&&(decide (at1 < s0.length)))
def qEW (_n:Nat) (s0:LU) (at1:Int):OA :=
 bif (decide ((s0.length:Int)≤at1)) then qEt (0:Int) else bif (qcW s0 at1) then bif ((s0.getD at1.toNat (0:UInt8)) != (13:UInt8)) then bif (qcW s0 at1) then bif ((s0.getD at1.toNat (0:UInt8)) != (10:UInt8)) then qEt (0:Int) else bif (qcW s0 at1) then bif ((s0.getD at1.toNat (0:UInt8))==(13:UInt8)) then bif (decide ((wrap .i64 (at1+1)) < (s0.length:Int))) then bif ((decide (0≤(wrap .i64 (at1+1))))&&(decide ((wrap .i64 (at1+1)) < s0.length))) then bif ((s0.getD (wrap .i64 (at1+1)).toNat (0:UInt8))==(10:UInt8)) then qEt (2:Int) else qEt (1:Int) else none else qEt (1:Int) else qEt (1:Int) else none else none else bif (qcW s0 at1) then bif ((s0.getD at1.toNat (0:UInt8))==(13:UInt8)) then bif (decide ((wrap .i64 (at1+1)) < (s0.length:Int))) then bif ((decide (0≤(wrap .i64 (at1+1))))&&(decide ((wrap .i64 (at1+1)) < s0.length))) then bif ((s0.getD (wrap .i64 (at1+1)).toNat (0:UInt8))==(10:UInt8)) then qEt (2:Int) else qEt (1:Int) else none else qEt (1:Int) else qEt (1:Int) else none else none
def qEX (_n:Nat) (n0:Int):OA :=
 bif ((decide (0≤(bits .and .i64 n0 (15:Int))))&&(decide ((bits .and .i64 n0 (15:Int)) < ([48,49,50,51,52,53,54,55,56,57,65,66,67,68,69,70]:LU).length))) then
 qjX (([48,49,50,51,52,53,54,55,56,57,65,66,67,68,69,70]:LU).getD (bits .and .i64 n0 (15:Int)).toNat (0:UInt8))
 else none
def qxq (s2:LU):OA:=some (db s2 (some (2,5)))
def qEY (_n:Nat) (c0:UInt8):OA :=
 bif ((qdJ (wrap .i64 ((toNat (ofNat (toNat c0 / 2 ^ (min (4:Int).toNat 8))):Nat):Int)))&&true) then
 bif ((qdJ (wrap .i64 ((toNat c0:Nat):Int)))&&true) then
 qxq ([(z239 (wrap .i64 ((toNat (ofNat (toNat c0 / 2 ^ (min (4:Int).toNat 8))):Nat):Int))),(z239 (wrap .i64 ((toNat c0:Nat):Int)))]:LU)
 else none
 else none
def qxr (s6:LU):OA:=some (db s6 (some (6,5)))
def qEZ (_n:Nat) (b0:LU) (sign1:UInt8) (c2:UInt8):OA :=
 bif ((qdM b0)&&true) then
 bif (decide (length (z153 b0)+length ([sign1]:LU)≤room)) then
 bif (decide (length ((z153 b0)++([sign1]:LU))+length (z219 c2)≤room)) then
 qxr (((z153 b0)++([sign1]:LU))++(z219 c2))
 else none
 else none
 else none
def qcX (s4:LU):OA:=some (db s4 (some (4,5)))
def qcY (c0:UInt8):=((qpL ([]:LU) (61:UInt8) c0)&&true)
def qFa (_n:Nat) (c0:UInt8) (ends1:Bool):OA :=
 bif (c0 != (61:UInt8)) then bif (z144 c0 (4:Int)) then qcX ([c0]:LU) else bif (!ends1) then bif (z144 c0 (2:Int)) then qcX ([c0]:LU) else bif (qcY c0) then qcX (z179 ([]:LU) (61:UInt8) c0) else none else bif (qcY c0) then qcX (z179 ([]:LU) (61:UInt8) c0) else none else bif (!ends1) then bif (z144 c0 (2:Int)) then qcX ([c0]:LU) else bif (qcY c0) then qcX (z179 ([]:LU) (61:UInt8) c0) else none else bif (qcY c0) then qcX (z179 ([]:LU) (61:UInt8) c0) else none
def qcZ (k0:LU×(Int×Unit)→OA) (next:LU→LU×(Int×Unit)→Int→OA) (_n:Nat) (s0:LU) (p3:LU×(Int×Unit)) (at5:Int):OA :=
 bif (decide (at5 < (s0.length:Int))) then
 bif ((qhA s0 at5)&&true) then
 bif (decide ((0:Int) < (z120 s0 at5))) then
 bif (qeG p3 false) then
 next s0 (z121 p3 false) (wrap .i64 (at5+(z120 s0 at5)))
 else none
 else
 bif ((decide (0≤at5))&&(decide (at5 < s0.length))) then
 bif ((qhA s0 (wrap .i64 (at5+1)))&&true) then
 bif (qiH p3 (z122 (s0.getD at5.toNat (0:UInt8)) (decide ((0:Int) < (z120 s0 (wrap .i64 (at5+1))))))) then
 next s0 (z119 p3 (z122 (s0.getD at5.toNat (0:UInt8)) (decide ((0:Int) < (z120 s0 (wrap .i64 (at5+1))))))) (wrap .i64 (at5+1))
 else none
 else none
 else none
 else none
 else
 k0 p3
def qsp (k0:LU×(Int×Unit)→OA):Nat→LU→LU×(Int×Unit)→Int→OA
 | 0=>fun _ _ _=>none
 | n+1=>qcZ k0 (qsp k0 n) n
def qkd (_n:Nat) (p3:LU×(Int×Unit)):OA :=
 bif (decide ((0:Int) < p3.2.1)) then
 bif (qeG p3 true) then
 qwR (z121 p3 true).1
 else none
 else
 qwR p3.1
def qBT (n:Nat) (s0:LU):OA :=
 qsp (qkd n) n s0 (([]:LU),((0:Int),())) (0:Int)
def qMb (_n:Nat) (s0:LU):OA :=
 bif ((qBJ s0)&&true) then
 qxa (z62 s0) (0:Int)
 else none
def qhP:=([65,66,67,68,69,70,71,72,73,74,75,76,77,78,79,80,81,82,83,84,85,86,87,88,89,90,97,98,99,100,101,102,103,104,105,106,107,108,109,110,111,112,113,114,115,116,117,118,119,120,121,122,48,49,50,51,52,53,54,55,56,57,43,47]:LU)
def qFc (_n:Nat) (n0:Int):OA :=
 bif ((decide (0≤(bits .and .i64 n0 (63:Int))))&&(decide ((bits .and .i64 n0 (63:Int)) < (qhP).length))) then qjX ((qhP).getD (bits .and .i64 n0 (63:Int)).toNat (0:UInt8)) else none
def qqG (k2:LU→Int→Int→LU→Int→Int→OA) (next:LU→Int→Int→LU→Int→Int→OA) (_n:Nat) (out3:LU) (held4:Int) (many5:Int) (s8:LU) (s9:Int) (s10:Int):OA :=
 bif (decide ((6:Int)≤many5)) then
 bif (decide (0≤(wrap .i64 (many5 - (6:Int))))) then
 bif (decide (out3.length+length ([(z222 (Int.fdiv held4 (2 ^ (min (wrap .i64 (many5 - (6:Int))).toNat (IntKind.bits .i64)))))]:LU)≤room)) then
 next (out3++([(z222 (Int.fdiv held4 (2 ^ (min (wrap .i64 (many5 - (6:Int))).toNat (IntKind.bits .i64)))))]:LU)) held4 (wrap .i64 (many5 - (6:Int))) s8 s9 s10
 else none
 else none
 else
 k2 out3 held4 many5 s8 s9 s10
def qcv (k2:LU→Int→Int→LU→Int→Int→OA):Nat→LU→Int→Int→LU→Int→Int→OA
 | 0=>fun _ _ _ _ _ _=>none
 | n+1=>qqG k2 (qcv k2 n) n
def qdu (_k0:LU→Int→Int→OA) (next:LU→Int→Int→LU→Int→Int→OA) (_n:Nat) (out3:LU) (held4:Int) (many5:Int) (s8:LU) (s9:Int) (s10:Int):OA :=
 bif (decide (0≤many5)) then
 next out3 (bits .and .i64 held4 (wrap .i64 ((wrap .i64 ((1:Int)*2 ^ (min many5.toNat (IntKind.bits .i64)))) - (1:Int)))) many5 s8 s9 (wrap .i64 (s10+1))
 else none
def qcp (k0:LU→Int→Int→OA) (next:LU→Int→Int→LU→Int→Int→OA) (n:Nat) (out3:LU) (held4:Int) (many5:Int) (s8:LU) (s9:Int) (s10:Int):OA :=
 bif (decide (s10 < s9)) then
 bif ((decide (0≤s10))&&(decide (s10 < s8.length))) then
 qcv (qdu k0 next n) n out3 (bits .or .i64 (wrap .i64 (held4*2 ^ (min (8:Int).toNat (IntKind.bits .i64)))) (wrap .i64 ((toNat (s8.getD s10.toNat (0:UInt8)):Nat):Int))) (wrap .i64 (many5+(8:Int))) s8 s9 s10
 else none
 else
 k0 out3 held4 many5
def qiM (k0:LU→Int→Int→OA):Nat→LU→Int→Int→LU→Int→Int→OA
 | 0=>fun _ _ _ _ _ _=>none
 | n+1=>qcp k0 (qiM k0 n) n
def qeO (_n:Nat) (out3:LU) (held4:Int) (many5:Int):OA :=
 bif (decide ((0:Int) < many5)) then
 bif (decide (0≤(wrap .i64 ((6:Int) - many5)))) then
 bif (decide (out3.length+length ([(z222 (wrap .i64 (held4*2 ^ (min (wrap .i64 ((6:Int) - many5)).toNat (IntKind.bits .i64)))))]:LU)≤room)) then
 qxq (out3++([(z222 (wrap .i64 (held4*2 ^ (min (wrap .i64 ((6:Int) - many5)).toNat (IntKind.bits .i64)))))]:LU))
 else none
 else none
 else
 qxq out3
def qqH (n:Nat) (s0:LU):OA :=
 qiM (qeO n) n ([]:LU) (0:Int) (0:Int) s0 (s0.length:Int) (0:Int)
def qaU (code3:LU):=(bif (decide ((76:Int) < (code3.length:Int))) then (76:Int) else (code3.length:Int))
def qdv (code3:LU):=(drop ((0:Nat):Int).toNat (take (qaU code3).toNat code3))
def qke (k0:LU→OA) (next:LU→LU→OA) (_n:Nat) (code3:LU) (out4:LU):OA :=
 bif (decide ((0:Int) < (code3.length:Int))) then bif (((decide (0≤((0:Nat):Int)))&&(decide (((0:Nat):Int)≤(qaU code3))))&&(decide ((qaU code3)≤(code3.length:Int)))) then bif (decide (out4.length+length (qdv code3)≤room)) then bif (decide (length (out4++(qdv code3))+length ([13,10]:LU)≤room)) then bif (((decide (0≤(qaU code3)))&&(decide ((qaU code3)≤(code3.length:Int))))&&(decide ((code3.length:Int)≤(code3.length:Int)))) then next (drop (qaU code3).toNat (take (code3.length:Int).toNat code3)) ((out4++(qdv code3))++([13,10]:LU)) else none else none else none else none else k0 out4
def qoB (k0:LU→OA):Nat→LU→LU→OA
 | 0=>fun _ _=>none
 | n+1=>qke k0 (qoB k0 n) n
def qoC (_n:Nat) (out4:LU):OA :=
 qxq out4
def qBU (n:Nat) (s0:LU):OA :=
 bif ((quc s0)&&true) then
 qoB (qoC n) n (z123 s0) ([]:LU)
 else none
def qMc (_n:Nat) (s0:LU):OA :=
 bif ((qrZ s0)&&true) then
 qxa (z64 s0) (0:Int)
 else none
def qIe (_n:Nat) (coding0:Int):OA :=
 bif (coding0==(1:Int)) then
 some (.tup [(.fn 60 []),(dg true)])
 else
 bif (coding0==(2:Int)) then
 some (.tup [(.fn 61 []),(dg true)])
 else
 bif (coding0==(3:Int)) then
 some (.tup [(.fn 63 []),(dg true)])
 else
 some (.tup [.bad,(dg false)])
def qMd (_n:Nat) (charset0:Int):OA :=
 bif (charset0==(1:Int)) then
 qEt (128:Int)
 else
 bif (charset0==(2:Int)) then
 bif (charset0==(2:Int)) then
 qEt (256:Int)
 else
 bif (charset0==(4:Int)) then
 qEt (251:Int)
 else
 bif (charset0==(5:Int)) then
 qEt (1112064:Int)
 else
 qEt (0:Int)
 else
 bif (charset0==(3:Int)) then
 qEt (256:Int)
 else
 bif (charset0==(4:Int)) then
 qEt (251:Int)
 else
 bif (charset0==(5:Int)) then
 qEt (1112064:Int)
 else
 qEt (0:Int)
def qMe (_n:Nat) (c0:Int):OA :=
 qwM (decide ((wrap .u32 c0) < (256:Int)))
def qqI (ret:UInt8→Bool→OA) (k0:Int→OA) (next:Int→List (UInt8×(Int×Unit))→Int→OA) (_n:Nat) (c0:Int) (s6:List (UInt8×(Int×Unit))) (s7:Int):OA :=
 bif (decide (s7 < (8:Int))) then
 bif ((decide (0≤s7))&&(decide (s7 < (8:Nat)))) then
 bif (c0==(s6.getD s7.toNat ((0:UInt8),((0:Int),()))).2.1) then
 ret (s6.getD s7.toNat ((0:UInt8),((0:Int),()))).1 true
 else
 bif (c0==(wrap .i32 ((toNat (s6.getD s7.toNat ((0:UInt8),((0:Int),()))).1:Nat):Int))) then
 ret (0:UInt8) false
 else
 next c0 s6 (wrap .i64 (s7+1))
 else none
 else
 k0 c0
def qmg (ret:UInt8→Bool→OA) (k0:Int→OA):Nat→Int→List (UInt8×(Int×Unit))→Int→OA
 | 0=>fun _ _ _=>none
 | n+1=>qqI ret k0 (qmg ret k0 n) n
def qgE (_n:Nat) (c0:Int):OA :=
 bif (decide (c0 < (0:Int))) then
 qjY (0:UInt8) false
 else
 bif (decide ((256:Int)≤c0)) then
 qjY (0:UInt8) false
 else
 qjY (ofNat (wrap .u8 c0).toNat) true
def qxv (n:Nat) (c0:Int):OA :=
 qmg qjY (qgE n) n c0 z176 (0:Int)
def qMf (_n:Nat) (c0:Int):OA :=
 qwM ((z127 c0).2)
def qdw (ret:Int→OA) (k0:OA) (next:LI→Int→Int→Int→OA) (_n:Nat) (s0:LI) (v1:Int) (s7:Int) (s8:Int):OA :=
 bif (decide (s8 < s7)) then
 bif ((decide (0≤s8))&&(decide (s8 < s0.length))) then
 bif (v1==(s0.getD s8.toNat 0)) then
 ret s8
 else
 next s0 v1 s7 (wrap .i64 (s8+1))
 else none
 else
 k0
def qiN (ret:Int→OA) (k0:OA):Nat→LI→Int→Int→Int→OA
 | 0=>fun _ _ _ _=>none
 | n+1=>qdw ret k0 (qiN ret k0 n) n
def qkf (_n:Nat):OA :=
 qEt (-1:Int)
def qqJ (n:Nat) (s0:LI) (v1:Int):OA :=
 qiN qEt (qkf n) n s0 v1 (s0.length:Int) (0:Int)
def qcb (c0:Int):=(ofNat (wrap .u8 (wrap .i64 ((128:Int)+(z186 z177 c0)))).toNat)
def qcc (c0:Int):=(decide ((z186 z177 c0) < (0:Int)))
def qcd (c0:Int):=((qpM z177 c0)&&true)
def qFf (_n:Nat) (c0:Int):OA :=
 bif (decide (0≤c0)) then bif (decide (c0 < (128:Int))) then bif (decide (c0 < (128:Int))) then qjY (ofNat (wrap .u8 c0).toNat) true else bif (decide (c0 < (256:Int))) then qjY (0:UInt8) false else bif (qcd c0) then bif (qcc c0) then qjY (0:UInt8) false else qjY (qcb c0) true else none else bif (decide ((160:Int)≤c0)) then bif (decide (c0 < (256:Int))) then qjY (ofNat (wrap .u8 c0).toNat) true else bif (decide (c0 < (256:Int))) then qjY (0:UInt8) false else bif (qcd c0) then bif (qcc c0) then qjY (0:UInt8) false else qjY (qcb c0) true else none else bif (decide (c0 < (256:Int))) then qjY (0:UInt8) false else bif (qcd c0) then bif (qcc c0) then qjY (0:UInt8) false else qjY (qcb c0) true else none else bif (decide ((160:Int)≤c0)) then bif (decide (c0 < (256:Int))) then qjY (ofNat (wrap .u8 c0).toNat) true else bif (decide (c0 < (256:Int))) then qjY (0:UInt8) false else bif (qcd c0) then bif (qcc c0) then qjY (0:UInt8) false else qjY (qcb c0) true else none else bif (decide (c0 < (256:Int))) then qjY (0:UInt8) false else bif (qcd c0) then bif (qcc c0) then qjY (0:UInt8) false else qjY (qcb c0) true else none
def qMg (_n:Nat) (c0:Int):OA :=
 qwM ((z129 c0).2)
def qFg (_n:Nat) (c0:Int):OA :=
 bif (decide ((55296:Int)≤c0)) then
 qwM (decide (c0≤(57343:Int)))
 else
 qwM false
def qFh (_n:Nat) (c0:Int):OA :=
 bif (decide ((wrap .u32 c0)≤(1114111:Int))) then
 qwM (!(z211 c0))
 else
 qwM false
def qFi (_n:Nat) (charset0:Int) (c1:Int):OA :=
 bif (charset0==(1:Int)) then
 bif (decide (0≤c1)) then
 qwM (decide (c1 < (128:Int)))
 else
 qwM false
 else
 bif (charset0==(2:Int)) then
 qwM (z158 c1)
 else
 bif (charset0==(3:Int)) then
 qwM (z159 c1)
 else
 bif (charset0==(4:Int)) then
 qwM (z160 c1)
 else
 bif (charset0==(5:Int)) then
 qwM (z161 c1)
 else
 qwM false
def qdx (ret:Int→OA) (k0:OA) (next:Int→LI→Int→Int→OA) (_n:Nat) (charset0:Int) (s7:LI) (s8:Int) (s9:Int):OA :=
 bif (decide (s9 < s8)) then
 bif ((decide (0≤s9))&&(decide (s9 < s7.length))) then
 bif (!(z105 charset0 (s7.getD s9.toNat 0))) then
 ret s9
 else
 next charset0 s7 s8 (wrap .i64 (s9+1))
 else none
 else
 k0
def qiO (ret:Int→OA) (k0:OA):Nat→Int→LI→Int→Int→OA
 | 0=>fun _ _ _ _=>none
 | n+1=>qdx ret k0 (qiO ret k0 n) n
def qkg (_n:Nat):OA :=
 qEt (-1:Int)
def qqK (n:Nat) (charset0:Int) (t1:LI):OA :=
 qiO qEt (qkg n) n charset0 t1 (t1.length:Int) (0:Int)
def qMh (_n:Nat) (charset0:Int) (t1:LI):OA :=
 bif (decide ((0:Int) < (z65 charset0))) then
 bif ((qpT charset0 t1)&&true) then
 qwM ((z124 charset0 t1)==(-1:Int))
 else none
 else
 qwM false
def qMi (_n:Nat) (c0:Int):OA :=
 qwM (!(z161 c0))
def qdy (ret:Int→OA) (k0:OA) (next:LI→Int→Int→OA) (_n:Nat) (s0:LI) (s7:Int) (s8:Int):OA :=
 bif (decide (s8 < s7)) then
 bif ((decide (0≤s8))&&(decide (s8 < s0.length))) then
 bif (z224 (s0.getD s8.toNat 0)) then
 ret s8
 else
 next s0 s7 (wrap .i64 (s8+1))
 else none
 else
 k0
def qiP (ret:Int→OA) (k0:OA):Nat→LI→Int→Int→OA
 | 0=>fun _ _ _=>none
 | n+1=>qdy ret k0 (qiP ret k0 n) n
def qkh (_n:Nat):OA :=
 qEt (-1:Int)
def qqL (n:Nat) (s0:LI):OA :=
 qiP qEt (qkh n) n s0 (s0.length:Int) (0:Int)
def qFj (_n:Nat) (t0:LI):OA :=
 bif ((qpN t0)&&true) then
 qEt (z223 t0)
 else none
def qFk (_n:Nat) (t0:LI):OA :=
 bif ((qpO t0)&&true) then
 qwM ((z183 t0)==(-1:Int))
 else none
def qFl (_n:Nat) (c0:Int):OA :=
 bif (!(z161 c0)) then
 qEt (0:Int)
 else
 bif (decide (c0 < (128:Int))) then
 qEt (1:Int)
 else
 bif (decide (c0 < (2048:Int))) then
 qEt (2:Int)
 else
 bif (decide (c0 < (65536:Int))) then
 qEt (3:Int)
 else
 qEt (4:Int)
def qhU (c1:Int):=([((z185 (z184 c1)) ||| (ofNat (wrap .u8 (Int.fdiv c1 (2 ^ (min (wrap .i64 ((6:Int)*(wrap .i64 ((z184 c1) - (1:Int))))).toNat (IntKind.bits .i32))))).toNat))]:LU)
def qbD (c1:Int):=([((128:UInt8) ||| ((ofNat (wrap .u8 (Int.fdiv c1 (2 ^ (min (6:Int).toNat (IntKind.bits .i32))))).toNat) &&& (63:UInt8)))]:LU)
def qdc (c1:Int):=([((128:UInt8) ||| ((ofNat (wrap .u8 (Int.fdiv c1 (2 ^ (min (12:Int).toNat (IntKind.bits .i32))))).toNat) &&& (63:UInt8)))]:LU)
def qbE (c1:Int):=([((128:UInt8) ||| ((ofNat (wrap .u8 c1).toNat) &&& (63:UInt8)))]:LU)
def qab (b0:LU) (c1:Int):=((z153 b0)++(qhU c1))
def qFm (_n:Nat) (b0:LU) (c1:Int):OA :=
 bif ((z184 c1)==(0:Int)) then qxa ([]:LU) (7:Int) else bif (decide (0≤(wrap .i64 ((6:Int)*(wrap .i64 ((z184 c1) - (1:Int))))))) then bif ((qdM b0)&&true) then bif (decide (length (z153 b0)+length (qhU c1)≤room)) then bif ((z184 c1)==(4:Int)) then bif (decide (length (qab b0 c1)+length (qdc c1)≤room)) then bif (decide (length ((qab b0 c1)++(qdc c1))+length (qbD c1)≤room)) then bif (decide (length (((qab b0 c1)++(qdc c1))++(qbD c1))+length (qbE c1)≤room)) then qxa ((((qab b0 c1)++(qdc c1))++(qbD c1))++(qbE c1)) (0:Int) else none else none else none else bif ((z184 c1)==(3:Int)) then bif (decide (length (qab b0 c1)+length (qbD c1)≤room)) then bif (decide (length ((qab b0 c1)++(qbD c1))+length (qbE c1)≤room)) then qxa (((qab b0 c1)++(qbD c1))++(qbE c1)) (0:Int) else none else none else bif ((z184 c1)==(2:Int)) then bif (decide (length (qab b0 c1)+length (qbE c1)≤room)) then qxa ((qab b0 c1)++(qbE c1)) (0:Int) else none else qxa (qab b0 c1) (0:Int) else none else none else none
def qfB (k0:LU→OA) (next:LU→LI→Int→Int→OA) (_n:Nat) (out4:LU) (s12:LI) (s13:Int) (s14:Int):OA :=
 bif (decide (s14 < s13)) then
 bif ((decide (0≤s14))&&(decide (s14 < s12.length))) then
 bif ((qpQ ([]:LU) (s12.getD s14.toNat 0))&&true) then
 bif (decide (out4.length+length ((z126 ([]:LU) (s12.getD s14.toNat 0)).1)≤room)) then
 next (out4++((z126 ([]:LU) (s12.getD s14.toNat 0)).1)) s12 s13 (wrap .i64 (s14+1))
 else none
 else none
 else none
 else
 k0 out4
def qsq (k0:LU→OA):Nat→LU→LI→Int→Int→OA
 | 0=>fun _ _ _ _=>none
 | n+1=>qfB k0 (qsq k0 n) n
def qki (_n:Nat) (out4:LU):OA :=
 qxa out4 (0:Int)
def qBV (n:Nat) (t0:LI):OA :=
 bif ((qpP t0)&&true) then
 bif (!(z125 t0)) then
 qxa ([]:LU) (7:Int)
 else
 qsq (qki n) n ([]:LU) t0 (t0.length:Int) (0:Int)
 else none
def qfC (ret:LU→Int→OA) (k0:LU→OA) (next:LU→LI→Int→Int→OA) (_n:Nat) (s4:LU) (s9:LI) (s10:Int) (s11:Int):OA :=
 bif (decide (s11 < s10)) then
 bif ((decide (0≤s11))&&(decide (s11 < s9.length))) then
 bif (!((z127 (s9.getD s11.toNat 0)).2)) then
 ret ([]:LU) (9:Int)
 else
 bif (decide (s4.length+length ([((z127 (s9.getD s11.toNat 0)).1)]:LU)≤room)) then
 next (s4++([((z127 (s9.getD s11.toNat 0)).1)]:LU)) s9 s10 (wrap .i64 (s11+1))
 else none
 else none
 else
 k0 s4
def qsr (ret:LU→Int→OA) (k0:LU→OA):Nat→LU→LI→Int→Int→OA
 | 0=>fun _ _ _ _=>none
 | n+1=>qfC ret k0 (qsr ret k0 n) n
def qkj (_n:Nat) (s4:LU):OA :=
 qxa s4 (0:Int)
def qBW (n:Nat) (t0:LI):OA :=
 qsr qxa (qkj n) n ([]:LU) t0 (t0.length:Int) (0:Int)
def qdz (ret:Int→OA) (k0:OA) (next:LI→Int→Int→OA) (_n:Nat) (s5:LI) (s6:Int) (s7:Int):OA :=
 bif (decide (s7 < s6)) then
 bif ((decide (0≤s7))&&(decide (s7 < s5.length))) then
 bif (!(z160 (s5.getD s7.toNat 0))) then
 ret s7
 else
 next s5 s6 (wrap .i64 (s7+1))
 else none
 else
 k0
def qiR (ret:Int→OA) (k0:OA):Nat→LI→Int→Int→OA
 | 0=>fun _ _ _=>none
 | n+1=>qdz ret k0 (qiR ret k0 n) n
def qkk (_n:Nat):OA :=
 qEt (-1:Int)
def qqM (n:Nat) (t0:LI):OA :=
 qiR qEt (qkk n) n t0 (t0.length:Int) (0:Int)
def qfD (k0:LU→OA) (next:LU→LI→Int→Int→OA) (_n:Nat) (s4:LU) (s15:LI) (s16:Int) (s17:Int):OA :=
 bif (decide (s17 < s16)) then
 bif ((decide (0≤s17))&&(decide (s17 < s15.length))) then
 bif (decide (s4.length+length ([((z129 (s15.getD s17.toNat 0)).1)]:LU)≤room)) then
 next (s4++([((z129 (s15.getD s17.toNat 0)).1)]:LU)) s15 s16 (wrap .i64 (s17+1))
 else none
 else none
 else
 k0 s4
def qss (k0:LU→OA):Nat→LU→LI→Int→Int→OA
 | 0=>fun _ _ _ _=>none
 | n+1=>qfD k0 (qss k0 n) n
def qkl (_n:Nat) (s4:LU):OA :=
 qxa s4 (0:Int)
def qBX (n:Nat) (t0:LI):OA :=
 bif ((qpR t0)&&true) then
 bif (decide (0≤(z128 t0))) then
 qxa ([]:LU) (9:Int)
 else
 bif (((decide (0≤(0:Int)))&&(decide (0≤(t0.length:Int))))&&(decide ((t0.length:Int)≤(room:Int)))) then
 qss (qkl n) n (replicate (0:Int).toNat (0:UInt8)) t0 (t0.length:Int) (0:Int)
 else none
 else none
def qdA (ret:Int→OA) (k0:OA) (next:LI→Int→Int→OA) (_n:Nat) (t0:LI) (s5:Int) (s6:Int):OA :=
 bif (decide (s6 < s5)) then
 bif ((decide (0≤s6))&&(decide (s6 < t0.length))) then
 bif (!(z158 (t0.getD s6.toNat 0))) then
 ret s6
 else
 next t0 s5 (wrap .i64 (s6+1))
 else none
 else
 k0
def qiS (ret:Int→OA) (k0:OA):Nat→LI→Int→Int→OA
 | 0=>fun _ _ _=>none
 | n+1=>qdA ret k0 (qiS ret k0 n) n
def qkm (_n:Nat):OA :=
 qEt (-1:Int)
def qqN (n:Nat) (t0:LI):OA :=
 qiS qEt (qkm n) n t0 (t0.length:Int) (0:Int)
def qfE (k0:LU→OA) (next:LU→LI→Int→Int→OA) (_n:Nat) (s4:LU) (s13:LI) (s14:Int) (s15:Int):OA :=
 bif (decide (s15 < s14)) then
 bif ((decide (0≤s15))&&(decide (s15 < s13.length))) then
 bif ((decide (0≤s15))&&(decide (s15 < s4.length))) then
 next (set s4 s15.toNat (ofNat (wrap .u8 (s13.getD s15.toNat 0)).toNat)) s13 s14 (wrap .i64 (s15+1))
 else none
 else none
 else
 k0 s4
def qmh (k0:LU→OA):Nat→LU→LI→Int→Int→OA
 | 0=>fun _ _ _ _=>none
 | n+1=>qfE k0 (qmh k0 n) n
def qkn (_n:Nat) (s4:LU):OA :=
 qxa s4 (0:Int)
def qBY (n:Nat) (t0:LI):OA :=
 bif ((qpS t0)&&true) then
 bif ((z130 t0) != (-1:Int)) then
 qxa ([]:LU) (9:Int)
 else
 bif (((decide (0≤(t0.length:Int)))&&(decide ((t0.length:Int)≤(t0.length:Int))))&&(decide ((t0.length:Int)≤(room:Int)))) then
 qmh (qkn n) n (replicate (t0.length:Int).toNat (0:UInt8)) t0 (t0.length:Int) (0:Int)
 else none
 else none
def qMj (_n:Nat) (charset0:Int) (t1:LI):OA :=
 bif ((z65 charset0)==(0:Int)) then
 qxa ([]:LU) (10:Int)
 else
 bif ((qzJ charset0 t1)&&true) then
 bif (!(z66 charset0 t1)) then
 qxa ([]:LU) (9:Int)
 else
 bif (charset0==(5:Int)) then
 bif ((qzI t1)&&true) then
 qxa ((z67 t1).1) ((z67 t1).2)
 else none
 else
 bif (charset0==(3:Int)) then
 bif ((qzG t1)&&true) then
 qxa ((z68 t1).1) ((z68 t1).2)
 else none
 else
 bif (charset0==(4:Int)) then
 bif ((qzH t1)&&true) then
 qxa ((z69 t1).1) ((z69 t1).2)
 else none
 else
 bif ((qzF t1)&&true) then
 qxa ((z70 t1).1) ((z70 t1).2)
 else none
 else none
def qMk (_n:Nat) (coding0:Int) (charset1:Int) (t2:LI):OA :=
 bif (coding0==(1:Int)) then
 bif ((qrN charset1 t2)&&true) then
 bif (((z31 charset1 t2).2) != (0:Int)) then
 qxa ([]:LU) ((z31 charset1 t2).2)
 else
 bif ((qBu ((z31 charset1 t2).1))&&true) then
 bif (((z60 ((z31 charset1 t2).1)).2) != (0:Int)) then
 qxa ([]:LU) ((z60 ((z31 charset1 t2).1)).2)
 else
 qxa ((z60 ((z31 charset1 t2).1)).1) (0:Int)
 else none
 else none
 else
 bif (coding0==(2:Int)) then
 bif ((qrN charset1 t2)&&true) then
 bif (((z31 charset1 t2).2) != (0:Int)) then
 qxa ([]:LU) ((z31 charset1 t2).2)
 else
 bif ((qBv ((z31 charset1 t2).1))&&true) then
 bif (((z61 ((z31 charset1 t2).1)).2) != (0:Int)) then
 qxa ([]:LU) ((z61 ((z31 charset1 t2).1)).2)
 else
 qxa ((z61 ((z31 charset1 t2).1)).1) (0:Int)
 else none
 else none
 else
 bif (coding0==(3:Int)) then
 bif ((qrN charset1 t2)&&true) then
 bif (((z31 charset1 t2).2) != (0:Int)) then
 qxa ([]:LU) ((z31 charset1 t2).2)
 else
 bif ((qBw ((z31 charset1 t2).1))&&true) then
 bif (((z63 ((z31 charset1 t2).1)).2) != (0:Int)) then
 qxa ([]:LU) ((z63 ((z31 charset1 t2).1)).2)
 else
 qxa ((z63 ((z31 charset1 t2).1)).1) (0:Int)
 else none
 else none
 else
 qxa ([]:LU) (11:Int)
def qfF (ret:Bool→OA) (k0:OA) (next:LI→LI→Int→OA) (_n:Nat) (a0:LI) (b1:LI) (i5:Int):OA :=
 bif (decide (i5 < (a0.length:Int))) then
 bif ((decide (0≤i5))&&(decide (i5 < a0.length))) then
 bif ((decide (0≤i5))&&(decide (i5 < b1.length))) then
 bif ((a0.getD i5.toNat 0) != (b1.getD i5.toNat 0)) then
 ret false
 else
 next a0 b1 (wrap .i64 (i5+1))
 else none
 else none
 else
 k0
def qmi (ret:Bool→OA) (k0:OA):Nat→LI→LI→Int→OA
 | 0=>fun _ _ _=>none
 | n+1=>qfF ret k0 (qmi ret k0 n) n
def qxF (_n:Nat):OA :=
 qwM true
def qBZ (n:Nat) (a0:LI) (b1:LI):OA :=
 bif ((a0.length:Int) != (b1.length:Int)) then
 qwM false
 else
 qmi qwM (qxF n) n a0 b1 (0:Int)
def qaB (out3:LI):=(decide (out3.length+length ([(13:Int),(10:Int)]:LI)≤room))
def qaC (s6:LI) (s8:Int):=([(s6.getD s8.toNat 0)]:LI)
def qaD (out3:LI):=(out3++([(13:Int),(10:Int)]:LI))
def qfG (k0:LI→OA) (next:LI→LI→LI→Int→Int→OA) (_n:Nat) (t0:LI) (out3:LI) (s6:LI) (s7:Int) (s8:Int):OA :=
 bif (decide (s8 < s7)) then bif ((decide (0≤s8))&&(decide (s8 < s6.length))) then bif ((s6.getD s8.toNat 0)==(10:Int)) then bif (decide ((0:Int) < s8)) then bif ((decide (0≤(wrap .i64 (s8 - (1:Int)))))&&(decide ((wrap .i64 (s8 - (1:Int))) < t0.length))) then bif ((t0.getD (wrap .i64 (s8 - (1:Int))).toNat 0)==(13:Int)) then next t0 out3 s6 s7 (wrap .i64 (s8+1)) else bif ((s6.getD s8.toNat 0)==(13:Int)) then bif (qaB out3) then next t0 (qaD out3) s6 s7 (wrap .i64 (s8+1)) else none else bif ((s6.getD s8.toNat 0)==(10:Int)) then bif (qaB out3) then next t0 (qaD out3) s6 s7 (wrap .i64 (s8+1)) else none else bif (decide (out3.length+length (qaC s6 s8)≤room)) then next t0 (out3++(qaC s6 s8)) s6 s7 (wrap .i64 (s8+1)) else none else none else bif ((s6.getD s8.toNat 0)==(13:Int)) then bif (qaB out3) then next t0 (qaD out3) s6 s7 (wrap .i64 (s8+1)) else none else bif ((s6.getD s8.toNat 0)==(10:Int)) then bif (qaB out3) then next t0 (qaD out3) s6 s7 (wrap .i64 (s8+1)) else none else bif (decide (out3.length+length (qaC s6 s8)≤room)) then next t0 (out3++(qaC s6 s8)) s6 s7 (wrap .i64 (s8+1)) else none else bif ((s6.getD s8.toNat 0)==(13:Int)) then bif (qaB out3) then next t0 (qaD out3) s6 s7 (wrap .i64 (s8+1)) else none else bif ((s6.getD s8.toNat 0)==(10:Int)) then bif (qaB out3) then next t0 (qaD out3) s6 s7 (wrap .i64 (s8+1)) else none else bif (decide (out3.length+length (qaC s6 s8)≤room)) then next t0 (out3++(qaC s6 s8)) s6 s7 (wrap .i64 (s8+1)) else none else none else k0 out3
def qmj (k0:LI→OA):Nat→LI→LI→LI→Int→Int→OA
 | 0=>fun _ _ _ _ _=>none
 | n+1=>qfG k0 (qmj k0 n) n
def qoF (_n:Nat) (out3:LI):OA :=
 qxd out3
def qIf (n:Nat) (t0:LI):OA :=
 qmj (qoF n) n t0 ([]:LI) t0 (t0.length:Int) (0:Int)
def qMl (_n:Nat) (c0:Int):OA :=
 bif (decide ((55296:Int)≤c0)) then
 qwM (decide (c0≤(57343:Int)))
 else
 qwM false
def qMm (_n:Nat) (c0:Int):OA :=
 bif (decide (0≤c0)) then
 bif (decide (c0≤(1114111:Int))) then
 qwM (!(z77 c0))
 else
 qwM false
 else
 qwM false
def qfH (ret:Int→OA) (k0:OA) (next:LI→Int→OA) (_n:Nat) (t0:LI) (i3:Int):OA :=
 bif (decide (i3 < (t0.length:Int))) then
 bif ((decide (0≤i3))&&(decide (i3 < t0.length))) then
 bif (!(z36 (t0.getD i3.toNat 0))) then
 ret i3
 else
 next t0 (wrap .i64 (i3+1))
 else none
 else
 k0
def qst (ret:Int→OA) (k0:OA):Nat→LI→Int→OA
 | 0=>fun _ _=>none
 | n+1=>qfH ret k0 (qst ret k0 n) n
def qoG (_n:Nat):OA :=
 qEt (-1:Int)
def qCa (n:Nat) (t0:LI):OA :=
 qst qEt (qoG n) n t0 (0:Int)
def qFo (_n:Nat) (b0:LU) (chars1:LU):OA :=
 bif ((qdL b0 chars1)&&true) then
 qwM (decide (0≤(z109 b0 chars1)))
 else none
def qFp (_n:Nat) (s0:LU):OA :=
 bif ((qlv s0 ([97,98,99,100,101,102]:LU))&&true) then
 qwM (!(z200 s0 ([97,98,99,100,101,102]:LU)))
 else none
def qfI (ret:Bool→OA) (k0:LU→OA) (next:LU→LU→Int→Int→OA) (_n:Nat) (l0:LU) (s7:LU) (s8:Int) (s9:Int):OA :=
 bif (decide (s9 < s8)) then
 bif ((decide (0≤s9))&&(decide (s9 < s7.length))) then
 bif (!(z144 (s7.getD s9.toNat (0:UInt8)) (6:Int))) then
 ret false
 else
 bif ((s7.getD s9.toNat (0:UInt8)) != (61:UInt8)) then
 next l0 s7 s8 (wrap .i64 (s9+1))
 else
 bif (s9==(wrap .i64 ((l0.length:Int) - (1:Int)))) then
 next l0 s7 s8 (wrap .i64 (s9+1))
 else
 bif ((qiC l0 s9 (61:UInt8))&&true) then
 bif (!((z145 l0 s9 (61:UInt8)).2)) then
 ret false
 else
 bif (((decide (0≤(wrap .i64 (s9+1))))&&(decide ((wrap .i64 (s9+1))≤(wrap .i64 (s9+(3:Int))))))&&(decide ((wrap .i64 (s9+(3:Int)))≤(l0.length:Int)))) then
 bif ((qlq (drop (wrap .i64 (s9+1)).toNat (take (wrap .i64 (s9+(3:Int))).toNat l0)))&&true) then
 bif (!(z146 (drop (wrap .i64 (s9+1)).toNat (take (wrap .i64 (s9+(3:Int))).toNat l0)))) then
 ret false
 else
 next l0 s7 s8 (wrap .i64 (s9+1))
 else none
 else none
 else none
 else none
 else
 k0 l0
def qsu (ret:Bool→OA) (k0:LU→OA):Nat→LU→LU→Int→Int→OA
 | 0=>fun _ _ _ _=>none
 | n+1=>qfI ret k0 (qsu ret k0 n) n
def qhZ (_n:Nat) (l0:LU):OA :=
 bif ((l0.length:Int)==(0:Int)) then
 qwM true
 else
 bif ((decide (0≤(wrap .i64 ((l0.length:Int) - (1:Int)))))&&(decide ((wrap .i64 ((l0.length:Int) - (1:Int))) < l0.length))) then
 qwM (!(z144 (l0.getD (wrap .i64 ((l0.length:Int) - (1:Int))).toNat (0:UInt8)) (2:Int)))
 else none
def qCb (n:Nat) (l0:LU):OA :=
 qsu qwM (qhZ n) n l0 l0 (l0.length:Int) (0:Int)
def qaV:=([(13:UInt8),(10:UInt8)]:LU)
def qko (ret:Int→OA) (k0:OA) (next:LU→OA) (_n:Nat) (s0:LU):OA :=
 bif (decide ((0:Int) < (s0.length:Int))) then bif ((qip s0 (qaV))&&true) then bif (decide ((76:Int) < (((z82 s0 (qaV)).1).length:Int))) then ret (12:Int) else bif (!((z82 s0 (qaV)).2.2)) then ret (4:Int) else bif ((qwL ((z82 s0 (qaV)).1))&&true) then bif (!(z83 ((z82 s0 (qaV)).1))) then ret (3:Int) else next ((z82 s0 (qaV)).2.1) else none else none else k0
def qoH (ret:Int→OA) (k0:OA):Nat→LU→OA
 | 0=>fun _=>none
 | n+1=>qko ret k0 (qoH ret k0 n) n
def qoI (_n:Nat):OA :=
 qEt (0:Int)
def qCc (n:Nat) (s0:LU):OA :=
 qoH qEt (qoI n) n s0
def qaz (s0:LU):=(z82 s0 ([(13:UInt8),(10:UInt8)]:LU))
def qgF (ret:LU→Int→OA) (k0:LU→OA) (next:LU→LU→OA) (_n:Nat) (s0:LU) (all4:LU):OA :=
 bif (decide ((0:Int) < (s0.length:Int))) then bif ((qip s0 ([(13:UInt8),(10:UInt8)]:LU))&&true) then bif (decide ((76:Int) < (((qaz s0).1).length:Int))) then ret ([]:LU) (12:Int) else bif (!((qaz s0).2.2)) then ret ([]:LU) (4:Int) else bif (decide ((0:Int) < (((qaz s0).1).length:Int))) then bif (decide (all4.length+length ((qaz s0).1)≤room)) then next ((qaz s0).2.1) (all4++((qaz s0).1)) else none else ret ([]:LU) (3:Int) else none else k0 all4
def qia (ret:LU→Int→OA) (k0:LU→OA):Nat→LU→LU→OA
 | 0=>fun _ _=>none
 | n+1=>qgF ret k0 (qia ret k0 n) n
def qeP (_n:Nat) (all4:LU):OA :=
 qxa all4 (0:Int)
def qxJ (n:Nat) (s0:LU):OA :=
 qia qxa (qeP n) n s0 ([]:LU)
def qFq (_n:Nat) (s0:LU) (suffix1:LU):OA :=
 bif ((qiE s0 suffix1)&&true) then
 bif (z215 s0 suffix1) then
 bif (((decide (0≤((0:Nat):Int)))&&(decide (((0:Nat):Int)≤(wrap .i64 ((s0.length:Int) - (suffix1.length:Int))))))&&(decide ((wrap .i64 ((s0.length:Int) - (suffix1.length:Int)))≤(s0.length:Int)))) then
 qwR (drop ((0:Nat):Int).toNat (take (wrap .i64 ((s0.length:Int) - (suffix1.length:Int))).toNat s0))
 else none
 else
 qwR s0
 else none
def qqP (k0:LU→OA) (next:LU→Int→OA) (_n:Nat) (s0:LU) (s3:Int):OA :=
 bif (decide (s3 < (2:Int))) then
 bif ((qhp s0 ([(61:UInt8)]:LU))&&true) then
 next (z231 s0 ([(61:UInt8)]:LU)) (wrap .i64 (s3+1))
 else none
 else
 k0 s0
def qml (k0:LU→OA):Nat→LU→Int→OA
 | 0=>fun _ _=>none
 | n+1=>qqP k0 (qml k0 n) n
def qqQ (_n:Nat) (s0:LU):OA :=
 qwR s0
def qqR (n:Nat) (s0:LU):OA :=
 qml (qqQ n) n s0 (0:Int)
def qaW (held5:Int) (s12:LU) (s14:Int):=(bits .or .i64 (wrap .i64 (held5*2 ^ (min (6:Int).toNat (IntKind.bits .i64)))) ((z175 (s12.getD s14.toNat (0:UInt8))).1))
def qac (many6:Int):=(wrap .i64 ((wrap .i64 (many6+(6:Int))) - (8:Int)))
def qdB (ret:LU→Int→OA) (k0:LU→LU→Int→OA) (next:LU→LU→Int→Int→LU→Int→Int→OA) (_n:Nat) (s0:LU) (out4:LU) (held5:Int) (many6:Int) (s12:LU) (s13:Int) (s14:Int):OA :=
 bif (decide (s14 < s13)) then bif ((decide (0≤s14))&&(decide (s14 < s12.length))) then bif (!((z175 (s12.getD s14.toNat (0:UInt8))).2)) then ret ([]:LU) (3:Int) else bif (decide ((8:Int)≤(wrap .i64 (many6+(6:Int))))) then bif (decide (0≤(qac many6))) then bif (decide (out4.length+length ([(ofNat (wrap .u8 (Int.fdiv (qaW held5 s12 s14) (2 ^ (min (qac many6).toNat (IntKind.bits .i64))))).toNat)]:LU)≤room)) then bif (decide (0≤(qac many6))) then next s0 (out4++([(ofNat (wrap .u8 (Int.fdiv (qaW held5 s12 s14) (2 ^ (min (qac many6).toNat (IntKind.bits .i64))))).toNat)]:LU)) (bits .and .i64 (qaW held5 s12 s14) (wrap .i64 ((wrap .i64 ((1:Int)*2 ^ (min (qac many6).toNat (IntKind.bits .i64)))) - (1:Int)))) (qac many6) s12 s13 (wrap .i64 (s14+1)) else none else none else none else next s0 out4 (qaW held5 s12 s14) (wrap .i64 (many6+(6:Int))) s12 s13 (wrap .i64 (s14+1)) else none else k0 s0 out4 held5
def qeQ (ret:LU→Int→OA) (k0:LU→LU→Int→OA):Nat→LU→LU→Int→Int→LU→Int→Int→OA
 | 0=>fun _ _ _ _ _ _ _=>none
 | n+1=>qdB ret k0 (qeQ ret k0 n) n
def qcq (_n:Nat) (s0:LU) (out4:LU) (held5:Int):OA :=
 bif ((Int.tmod (s0.length:Int) (4:Int)) != (0:Int)) then
 qxa ([]:LU) (4:Int)
 else
 bif (held5 != (0:Int)) then
 qxa ([]:LU) (3:Int)
 else
 qxa out4 (0:Int)
def qqS (n:Nat) (s0:LU):OA :=
 bif ((qpV s0)&&true) then
 qeQ qxa (qcq n) n s0 ([]:LU) (0:Int) (0:Int) (z201 s0) ((z201 s0).length:Int) (0:Int)
 else none
def qMn (_n:Nat) (s0:LU):OA :=
 bif ((qqe s0)&&true) then
 bif (((z147 s0).2) != (0:Int)) then
 qxa ([]:LU) ((z147 s0).2)
 else
 bif ((qpW ((z147 s0).1))&&true) then
 qxa ((z148 ((z147 s0).1)).1) ((z148 ((z147 s0).1)).2)
 else none
 else none
def qMo (_n:Nat) (s0:LU):OA :=
 bif ((qBp s0)&&true) then
 qEt ((z84 s0).2)
 else none
def qMp (_n:Nat) (coding0:Int) (s1:LU):OA :=
 bif (coding0==(1:Int)) then
 bif ((qjU s1 (76:Int))&&true) then
 qEt (z37 s1 (76:Int))
 else none
 else
 bif (coding0==(2:Int)) then
 bif ((qBK s1)&&true) then
 qEt (z38 s1)
 else none
 else
 bif (coding0==(3:Int)) then
 bif ((qBq s1)&&true) then
 qEt (z39 s1)
 else none
 else
 qEt (11:Int)
def z5_sh (_n:Nat) (h0:Int×(Int×Unit)) (t1:LI) (s2:LU):OA :=
 bif (decide ((300:Int) < (t1.length:Int))) then
 qwM z7
 else
 bif (decide ((600:Int) < (s2.length:Int))) then
 qwM z7
 else
 bif ((qok h0.1 h0.2.1 s2)&&true) then
 bif ((qEb (z12 h0.1 h0.2.1 s2))&&true) then
 bif (decide (0≤(z18 (z12 h0.1 h0.2.1 s2)))) then
 qwM false
 else
 bif (decide ((s2.length:Int) < ((z12 h0.1 h0.2.1 s2).length:Int))) then
 qwM false
 else
 bif ((qwt h0.1 h0.2.1 t1)&&true) then
 bif (((z13 h0.1 h0.2.1 t1).2) != (0:Int)) then
 bif ((((z13 h0.1 h0.2.1 t1).1).length:Int)==(0:Int)) then
 qwM z7
 else
 qwM false
 else
 bif (h0.1==(2:Int)) then
 bif ((qBt t1)&&true) then
 bif ((qwu h0.1 ((z13 h0.1 h0.2.1 t1).1))&&true) then
 bif ((z19 h0.1 ((z13 h0.1 h0.2.1 t1).1))==(0:Int)) then
 bif ((qok h0.1 h0.2.1 ((z13 h0.1 h0.2.1 t1).1))&&true) then
 bif ((qrP (z12 h0.1 h0.2.1 ((z13 h0.1 h0.2.1 t1).1)) (z16 t1))&&true) then
 bif (z11 (z12 h0.1 h0.2.1 ((z13 h0.1 h0.2.1 t1).1)) (z16 t1)) then
 qwM z7
 else
 qwM false
 else none
 else none
 else
 qwM false
 else none
 else none
 else
 bif ((qwu h0.1 ((z13 h0.1 h0.2.1 t1).1))&&true) then
 bif ((z19 h0.1 ((z13 h0.1 h0.2.1 t1).1))==(0:Int)) then
 bif ((qok h0.1 h0.2.1 ((z13 h0.1 h0.2.1 t1).1))&&true) then
 bif ((qrP (z12 h0.1 h0.2.1 ((z13 h0.1 h0.2.1 t1).1)) t1)&&true) then
 bif (z11 (z12 h0.1 h0.2.1 ((z13 h0.1 h0.2.1 t1).1)) t1) then
 qwM z7
 else
 qwM false
 else none
 else none
 else
 qwM false
 else none
 else none
 else none
 else none
end
end
end Go.Av
